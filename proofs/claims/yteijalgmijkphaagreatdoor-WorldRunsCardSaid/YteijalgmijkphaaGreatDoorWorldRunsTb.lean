/-
  What the law WorldRuns needs of our own library and of the walks, no more.
-/
import Derived.WalkKit
import Derived.Laws.StructEq
import Derived.ChangeKeysEq
import Derived.StillTail
import Derived.LoopN
import Derived.Deep.Quiet
import Derived.OrdersHeld
import Derived.Deep.RegionHeld3
import Derived.Deep.Slices
import Derived.MapKept
import Derived.ChangeArms
import Derived.Lib.AppendZeros
import Derived.Lib.Overlaps
import Derived.Laws.CopyRow
import Derived.Shelf.SlSortCmp.SmallK
import Derived.Laws.Pointers
import Derived.Laws.OwnMore
import Derived.Laws.Concat
import Derived.Laws.Strings2
import Derived.Laws.Strings3
import Derived.Laws.IdiomStrings
import Derived.Lib.AppendStr
import Derived.Lib.ConvBytes
import Derived.Lib.LaidTab
import Derived.Lib.ItoaNum
import Derived.WideLaws
import Derived.Lib.SplitLaws
import Derived.Lib.JoinLaws
import Derived.Lib.AtoiAll
import Derived.Lib.ParseIntB
import Derived.Laws.NewFold
import Derived.Lib.Join
import Derived.Sort.Grow
import Derived.Lib.Space
import Derived.Handed
import Derived.LaidMore
import Derived.LaidHandle
import Derived.Stop.LaidErr
import Derived.Shelf.Vars
import Derived.WideShapes
import Derived.Lib.ParseIntBTie
import Derived.Lib.ItoaLen
import Derived.Lib.AtoiAllCases
import Derived.Test.YteijalgmijkphaaGreatDoorWorldRunsTa
set_option linter.unusedSimpArgs false
set_option linter.unusedVariables false
set_option maxRecDepth 10000
set_option maxHeartbeats 4000000
open Array renaming ext'->mS,ext_getElem?->rl,foldl_toList->wb,getD_eq_getD_getElem?->da,getElem?_append_left->tw,getElem?_eq_getElem->jx,getElem?_eq_none->pe,getElem?_modify->fk,getElem?_setIfInBounds->mm,getElem?_toList->iu,length_toList->cx,ofFn->rj,range->pP,replicate->zr,toList_map->tb,toList_push->wX,toList_setIfInBounds->na,toList_zipIdx->vy
open Bool renaming eq_false_iff->fy,eq_iff_iff->dI,false_eq_true->cL,true_and->gw,false->aw,true->bh
open ByteArray renaming ext->xa,mk->qT,size->mu
open Decidable renaming decide->G
open Go renaming Addr->od,Calls->bp,Edge->hX,Ending->td,Exit->gd,FuncId->nd,MemPlace->vl,Oper->ec,Operand->bt,Program->cd,TypeId->bk,Value->B,World->ay,asIntOf->ks,binOp->nD,bodyPost->kt,builtin->mb,eqGuard->fN,execOp->bn,getObj->kx,grownCap->iJ,grownCap_ge->AI,grownCap_le_maxLen->tg,invoke->mA,loadVar->ya,maxLen->mC,newRow->yb,resolve->jM,run_convert_bytes_back->yd,run_eql_pointer_nil->By,run_equal_held_nil->Cz,run_loadCells_list->Cf,run_neq_pointer_nil->BT,run_part_plain->sx,run_program->gf,run_storeCells_at->tr,run_underlying->vm,sizeOf->hQ,size_zeroCells->oY,typeInfo->ee,undef->gC,underlying->cF,wpAnyH_all->Cy,wpList->tf,wpList_plain->xV,wpQuiet->uT,wp_region_still_tail->AE,yielded->fa,zeroValue->mL
open Go.Act renaming eval->ki
open Go.Addr renaming add->jH
open Go.Builtin renaming append_->jy,copy_->zv,firstCells->qS,lenOf->tt,len_->As,nextslicecap->lj,zeroCells->cH
open Go.Code renaming cond->uG,loop->zt,region->jn,rounds->vH
open Go.DataW renaming trod->tv,trod_int->AF
open Go.Exit renaming inBlock->kq
open Go.Instr renaming fill->nb,findKey->iv,findNow->ua,indexAt->Bk,keyThatStays->kb,loadAt->uH,lookup->Cp,mapUpdate->mx,sameBits->AH,sameNow->ub,slice->me,sliceAt->lx,sliceBound->eV,sliceBounds->du,storeAt->Bm,sureAddr->km
open Go.Lib renaming TabIs->pH,atoiAll->eC,atoiSat->we,bytesWorld->lI,bytesWorld_at_old->vJ,bytesWorld_size->xb,cellsOf->wg,count->ve,countB->eh,cut->sy,decDigits->ka,index->nf,intSat->ye,itoa->dw,join->tM,parseIntB->kl,parseUint10->gS,pow10Tab->vp,split->AN,splitB->kO,splitB_all->CA,splitB_data->BY,splitK->yi,strCells->vn
open Go.Op renaming equalIn->tW,intCmp->rk
open Go.Oper renaming quietUpon->Bs,wp->xW
open Go.Proofs renaming sortWorldK->ix
open Go.Region renaming free->fo,lexTailB->yc,noSelect->ef,ready->dy,wanted->cq
open Go.Result renaming andThen_ok->bT,ok->wA
open Go.Sem renaming run->lA,run_bind->cD,run_ite->wc,run_pure->cR
open Go.Sort renaming HoldsK->vI,ahead->tz,grow->nc,insertionSort->gh,mapBlock->rq,putCells->rr,putRowK->vd
open Go.Value renaming cells->vi,int->dd,oneCell'->db,ownBlock->tq,string->ph
open Go.World renaming alloc->nF,alloc_eq->kn,cell?->fh,cells?_some->wW,frozen?->qX,shape?->Cx
open Int renaming eq_ofNat_of_zero_le->ck,natCast_mul->Bx,natCast_nonneg->ke
open List renaming append_assoc->cg,cons_append->ei,drop->pa,drop_append->lz,drop_append_of_le_length->ia,drop_drop->pZ,drop_eq_getElem_cons->cy,drop_eq_nil_of_le->cC,drop_left'->AK,drop_set->Cl,drop_take->et,drop_zero->fF,eq_nil_of_length_eq_zero->cA,ext_getElem?->cP,flatten_cons->oe,getElem?_append->js,getElem?_drop->ct,getElem?_eq_getElem->bl,getElem?_eq_none->bE,getElem?_map->eo,getElem?_set->fL,getElem?_take->ca,getElem_append_left->fm,getElem_append_right->gD,getElem_drop->sB,getElem_set_ne->sa,getElem_set_self->qg,getElem_take->og,isPrefixOf->tk,length->O,length_append->bm,length_cons->br,length_drop->cQ,length_map->dr,length_replicate->mv,length_set->cp,length_take->cf,mapM_cons->ra,map_cons->cr,map_nil->jt,map_toArray->hS,mem_append->dq,mem_cons->bs,mem_cons_of_mem->bo,mem_cons_self->fp,mem_map->fi,mem_singleton->gA,nil_append->cc,not_mem_nil->dk,replicate->bw,take->jG,take_append_of_le_length->de,take_left->jz,take_of_length_le->ku,take_set->rm,take_take->eg,toArray->ar,zipIdx_cons->zu
open Nat renaming add_assoc->kj,add_mul->cj,beq->hR,ble->ly,blt->mz,blt_eq->px,div_add_mod->Bw,div_lt_of_lt_mul->qE,eq_of_beq_eq_true->iz,le_max_left->BW,le_max_right->AM,le_mul_of_pos_right->pf,le_of_ble_eq_true->gE,le_of_eq->py,le_of_not_lt->AD,le_refl->cl,le_trans->cN,lt_of_lt_of_le->ey,lt_or_ge->cG,lt_succ_self->AG,min->lE,min_eq_left->cX,mod_eq_of_lt->AS,mod_lt->pA,mul_comm->mT,mul_le_mul_right->bj,mul_one->oA,not_lt_zero->ir,one_mul->ti,strongRecOn->pD,sub_mul->tj,zero_add->hJ,zero_le->gk,zero_mul->vj
open Option renaming bind_some->cJ,getD_some->fR,map_some->dt,none->bd,some->U
open Option.some renaming inj->dp,injEq->fb
open Prod.mk renaming injEq->ie
open UInt8 renaming ofNat->pS,toNat_ofNat'->wi
namespace Go.LX
open Go.RowKit
def DB(n:Nat)(env:Nat->B):Act:={tmps:=rj (n:=n) λi=>env i.val,defers:=[]}
def upd(env:Nat->B)(d:Nat)(v:B):Nat->Value:=λi=>bif hR i d then v else env i
def ev(n:Nat)(env:Nat->B):bt->B
 | .tmp t=>bif mz t n then env t else gC
 | .const v=>v
 | .global g=>.pointer (U ⟨g,0,bd⟩)
 | .func f=>.func (.func f) #[] #[]
def gp(env:Nat->B):L Nat->B->(Nat->B)
 |some d,v=>upd env d v
 |none,_=>env
theorem jB(n:Nat)(env:Nat->B):(DB n env).eval=ev n env:=by
  funext x;cases x with
  |tmp t=>
    by_cases h:t<n
    · have a:mz t n=true:=by rw[px];exact h
      simp[ki,DB,ev,h,a]
    · have a:mz t n=false:=by rw[fy,ne_eq,px];exact h
      simp[ki,DB,ev,h,a]
  |_=>rfl
theorem KF(n:Nat)(env:Nat->B)(d:L Nat)(v:B):(DB n env).put d v=DB n (gp env d v):=by
  cases d with
  |none=>rfl
  |some d=>
    simp only[Act.put,DB,gp,Act.mk.injEq,and_true];apply Array.ext
    · simp
    · intro i b f;simp at b;have e:i<(rj (n:=n) λi=>env i.val).size:=by simp;exact b
      rw[Array.getElem_setIfInBounds e];by_cases a:d=i
      · subst a;simp[upd,Nat.beq_refl]
      · have c:hR i d=false:=by rw[fy];intro h;exact a (iz h).symm
        simp[a,upd,c]
def HR(args:H B):Nat->Value:=λi=>args.getD i gC
theorem act_init(n:Nat)(args:H B)(h:O args<=n):({tmps:=ar args++zr (n-(ar args).size) gC,defers:=[]}:Act)=DB n (HR args):=by
  simp only[DB,Act.mk.injEq,and_true];apply Array.ext
  · simp;omega
  · intro i b a;simp[Array.getElem_append,HR,List.getD];by_cases hi:i<O args
    · simp[hi]
    · simp[hi]
structure WL(P:cd)(ops:Array ec)(sc:gd->Act->ay->Prop)(l:List ec)(n:Nat)(env:Nat->B)(w:ay):Prop where
 out:tf P ops sc l (DB n env) w
structure WC(P:cd)(c:Code)(sc:gd->Act->ay->Prop)(n:Nat)(env:Nat->B)(w:ay):Prop where
 out:c.wp P sc (DB n env) w
section
variable{P:cd}{ops:Array ec}{sc:gd->Act->ay->Prop}{n:Nat}{env:Nat->B}{w w':ay}{rest:H ec}
 {d:L Nat} {op:Op} {ty:bk} {pos:String} {af:Array hX} {v:B} {g:L (Nat×YU)}
theorem aC(a:(bn (ev n env) ⟨d,op,ty,pos,af,bd⟩).run P w=.ok (.value v) w')(h:WL P ops sc rest n (gp env d v) w'):
  WL P ops sc (⟨d,op,ty,pos,af,bd⟩::rest) n env w:=by
 refine⟨xV Z λK b=>?_⟩;unfold xW;rw[jB,a];show K _ _;rw[KF];exact b _ _ h.out
theorem BO(a:(bn (ev n env) ⟨d,op,ty,pos,af,bd⟩).run P w=.ok .skip w')(h:WL P ops sc rest n (gp env d gC) w'):
  WL P ops sc (⟨d,op,ty,pos,af,bd⟩::rest) n env w:=by
 refine⟨xV Z λK b=>?_⟩;unfold xW;rw[jB,a];show K _ _;rw[KF];exact b _ _ h.out
theorem wl_enter{f:nd}{args:Array B}{R:td->ay->Prop}(g:(bn (ev n env) ⟨d,op,ty,pos,af,bd⟩).run P w=.ok (.enter f args) w)(c:bp P f args w R)
  (h:∀e w',R e w'->∃v,e=.returned v/\WL P ops sc rest n (gp env d v) w'):
  WL P ops sc (⟨d,op,ty,pos,af,bd⟩::rest) n env w:=by
 refine⟨xV Z λK b=>?_⟩;unfold xW;rw[jB,g];show bp P f args w _;refine c.mono λe w' i=>?_;obtain⟨v,rfl,a⟩:=h e w' i;show K _ _;rw[KF];exact b _ _ a.out
theorem H8{j dj:Nat}{b:YU}(d:(ops[j]?).bind (·.dst)=U dj)(c:ev n env (.tmp dj)=.bool b):fa ops (DB n env).tmps j=U b:=by
  unfold fa;have a:(DB n env).eval (.tmp dj)=.bool b:=by rw[jB];exact c
  simp only[d,cJ];simp only[ki]at a;cases h2:(DB n env).tmps[dj]? with
  |none=>simp[da,h2,gC]at a
  |some x=>simp[da,h2]at a;subst a;rfl
theorem YW{j dj:Nat}{b:YU}(g:(ops[j]?).bind (·.dst)=U dj)(c:ev n env (.tmp dj)=.bool b)
    (h:WL P ops sc (⟨d,op,ty,pos,af,bd⟩::rest) n env w):WL P ops sc (⟨d,op,ty,pos,af,U (j,b)⟩::rest) n env w:=by
  have f:=H8 (ops:=ops) g c;have e:cq ⟨d,op,ty,pos,af,U (j,b)⟩ (fa ops (DB n env).tmps)=true:=by simp[cq,f]
  have a:cq ⟨d,op,ty,pos,af,bd⟩ (fa ops (DB n env).tmps)=true:=rfl;obtain⟨h⟩:=h;refine⟨?_⟩;unfold tf at h⊢;rw[Z3 a]at h;rw[Z3 e];exact h
theorem ny{j dj:Nat}{b b':YU}(g:(ops[j]?).bind (·.dst)=U dj)(c:ev n env (.tmp dj)=.bool b')(a:(b'==b)=aw)
    (h:WL P ops sc rest n (gp env d gC) w):WL P ops sc (⟨d,op,ty,pos,af,U (j,b)⟩::rest) n env w:=by
  have f:=H8 (ops:=ops) g c;have e:cq ⟨d,op,ty,pos,af,U (j,b)⟩ (fa ops (DB n env).tmps)=false:=by simpa[cq,f]using a
  refine⟨?_⟩;unfold tf;rw[Z4 (by rw[e];decide),KF];exact h.out
theorem ax(h:sc .normal (DB n env) w):WL P ops sc [] n env w:=⟨h⟩
end
section
variable{P:cd}{sc:gd->Act->ay->Prop}{n:Nat}{env:Nat->B}{w:ay}{x y:Code}
section
variable{id:Nat}
theorem gP{l:H ec}(h:WL P (ar l) sc l n env w):WC P (jn id (ar l) aw) sc n env w:=⟨wp_region_lit h.out⟩
theorem iq(h:WC P x (Exit.then (y.wp P sc) sc) n env w):WC P (Code.seq x y) sc n env w:=⟨wp_seq h.out⟩
theorem jC(h:WC P x (kq id sc) n env w):WC P (Code.block id x) sc n env w:=⟨wp_block h.out⟩
theorem dn(h:sc .normal (DB n env) w):WC P .skip sc n env w:=⟨wp_skip h⟩
theorem wc_ret(h:sc .ret (DB n env) w):WC P .ret sc n env w:=⟨wp_ret h⟩
theorem YX(h:sc (.exit id) (DB n env) w):WC P (.exit id) sc n env w:=⟨wp_exit h⟩
variable{c:bt}
theorem wI{t:YU}(d:ev n env c=.bool t)(b:t=bh->WC P x sc n env w)(a:t=aw->WC P y sc n env w):
 WC P (uG c x y) sc n env w:=⟨wp_cond_split (by rw[jB];exact d) (λh=>(b h).out) (λh=>(a h).out)⟩
theorem GC(b:ev n env c=.bool bh)(a:WC P x sc n env w):WC P (uG c x y) sc n env w:=⟨wp_cond_true (by rw[jB];exact b) a.out⟩
theorem wc_iff(b:ev n env c=.bool aw)(a:WC P y sc n env w):WC P (uG c x y) sc n env w:=⟨wp_cond_false (by rw[jB];exact b) a.out⟩
theorem bB{Q':gd->Act->ay->Prop}(h:WC P y sc n env w):Exit.then (y.wp P sc) Q' .normal (DB n env) w:=h.out
def YS(mod:Nat->YU)(a entry:Nat->B):Nat->Value:=λi=>bif mod i then a i else entry i
def J9(e:Nat->B):H (Nat×B)->Nat->B
 |[]=>e
 |(i,v)::r=>upd (J9 e r) i v
def DH(e:Nat->B):H (Nat×B)->Prop
 |[]=>True
 |(i,v)::r=>e i=v/\DH e r
def Bb(mod:Nat->YU)(e entry:Nat->B):Prop:=∀i,mod i=aw->e i=entry i
theorem Bb.refl(mod:Nat->YU)(e:Nat->B):Bb mod e e:=λ_ _=>rfl
theorem Bb.YS(mod:Nat->YU)(j e:Nat->B):Bb mod (YS mod j e) e:=λi h=>by simp[LX.YS,h]
variable{mod:Nat->YU}{e entry:Nat->B}{v:B}
theorem Bb.upd{d:Nat}(b:mod d=bh)(h:Bb mod e entry):Bb mod (upd e d v) entry:=λi hi=>by
 have:i≠d:=λe=>by rw[e,b]at hi;exact Bool.noConfusion hi
 have a:hR i d=false:=by rw[fy];intro h;exact this (iz h)
 simp[LX.upd,a,h i hi]
theorem upd_self(e:Nat->B){i:Nat}(h:e i=v):upd e i v=e:=by
  funext k;by_cases a:hR k i=bh
  · have:=iz a;subst this;simp[upd,h]
  · simp[upd,a]
theorem hav_self(h:Bb mod e entry):YS mod e entry=e:=by
 funext i;cases hm:mod i with
 |true=>simp[YS,hm]
 |false=>simp[YS,hm,h i hm]
end
theorem Hb{e:Nat->B}:∀(l:H (Nat×B)),DH e l->J9 e l=e
 |[],_=>rfl
 |(i,v)::r,h=>by
  show upd (J9 e r) i v=e;rw[Hb r h.2];exact upd_self e h.1
theorem wc_loop{σ:Type}{c:Code}(mod:Nat->YU)(live:σ->H (Nat×B))(hp:σ->ay->Prop)(μ:σ->Nat)(s0:σ)
  (hl:DH env (live s0)) (N:hp s0 w)
  (j:∀s al w0,hp s al->WC P c (Exit.then (λa' w'=>∃q r,a'=DB n r/\Bb mod r env/\DH r (live q)/\hp q w'/\μ q<μ s) sc) n (J9 (YS mod w0 env) (live s)) al):
  WC P (zt c) sc n env w:=by
 refine⟨?_⟩;intro b k cs;have E:∀m s e w,μ s=m->Bb mod e env->DH e (live s)->hp s w->
   ∃p a' w',sc p a' w'/\Arrives P (lone (b.at (DB n e) (.code c:: .inLoop c::k)) cs w) b k cs p a' w':=by
  intro m;induction m using pD with
  |_ m ih=>
   intro s e w Zs K M ab;have F:=(j s w e ab).out;have A:J9 (YS mod e env) (live s)=e:=by rw[hav_self K];exact Hb _ M
   rw[A]at F;obtain⟨p,f,d,i,a⟩:=F b (.inLoop c::k) cs;cases p with
   |normal=>
    obtain⟨q,r,rfl,aq,C,y,z⟩:=i;obtain⟨v,u,t,o,g⟩:=ih (μ q) (Zs▸z) q r d Z aq C y;exact⟨v,u,t,o,.of_steps (Steps.trans a<|.one step_inLoop) g⟩
   |exit id=>exact⟨_,f,d,i,.pass (x:=.inLoop c) Z (λ_ _=>.inl C7) a⟩
   |goto l=>exact⟨_,f,d,i,.pass (x:=.inLoop c) Z (λ_ _=>.inl C7) a⟩
   |ret=>exact⟨_,f,d,i,.pass (x:=.inLoop c) Z (λ_ _=>.inl C7) a⟩
   |panic ch=>exact⟨_,f,d,i,.pass (x:=.inLoop c) Z (λ_ _=>.inl C7) a⟩
   |outgrown=>exact⟨_,f,d,i,.pass (x:=.inLoop c) Z (λ_ _=>.inl C7) a⟩
 obtain⟨p,a',w',i,a⟩:=E _ s0 env w Z (Bb.refl _ _) hl N;exact⟨p,a',w',i,.of_steps (.one step_loop) a⟩
end
open Go.RowKit
class One (P:cd) (T:bk) (z:outParam B):Prop where
 desc:∃d,P.underlying T=U d/\(match d with| .struct _| .array _ _=>False|_=>True)
 info:(P.info? T).map (λi=>(i.zero,i.size))=U (U z,1)
 cell:z.cells= #[z]
class yV (P:cd) (T:bk) (zs:outParam (H B)):Prop where
 desc:∃d,P.underlying T=U d/\(match d with| .struct _| .array _ _=>True|_=>False)
 info:(P.info? T).map (λi=>(i.zero,i.size))=U (U (.agg (ar zs)),O zs)
class SliceOf (P:cd) (T:bk) (E:outParam bk) (sz:outParam Nat):Prop where
  desc:P.underlying T=U (.slice E)
  info:(P.info? E).map (·.size)=U sz
class fB (P:cd) (T:bk) (k:Nat) (off:outParam Nat):Prop where
  desc:∃fs f s,P.underlying T=U (.struct fs)/\fs[k]? =U f/\f.offset=off/\(P.info? f.type).map (·.size)=U (s+1)
section
variable{P:cd}{w:ay}{ρ:bt->B}{d:L Nat}{ty:bk}{pos:String}{af:Array hX}{g:L (Nat×YU)}
section
variable{v:B}
theorem fI{x:bt}(a:ρ x=v):(bn ρ ⟨d,.move x,ty,pos,af,g⟩).run P w=.ok (.value v) w:=by subst a;rfl
theorem lG{x:bt}(a:ρ x=v):(bn ρ ⟨d,.assign x,ty,pos,af,g⟩).run P w=.ok (.value v) w:=by subst a;rfl
variable{b:YU}
theorem je{c x y:bt}(e:ρ c=.bool b)(a:(if b then ρ x else ρ y)=v):(bn ρ ⟨d,.pick c x y,ty,pos,af,g⟩).run P w=.ok (.value v) w:=by
 subst a;simp[bn,e,asBool]
theorem r_not{x:bt}{T:bk}(a:ρ x=.bool b):(bn ρ ⟨d,.unOp .not T x,ty,pos,af,g⟩).run P w=.ok (.value (.bool !b)) w:=by
 simp[bn,a,Op.unary]
theorem wrap_in{x:Int}(a: -9223372036854775808<=x)(b:x<=9223372036854775807):IntKind.i64.wrap x=x:=IntWalk.i64_in x ⟨a,b⟩
variable{x y:bt}{T T2:bk}{p q:Int}
theorem LB(a:ρ x=.int .i64 p)(b:ρ y=.int .i64 q):(bn ρ ⟨d,.binOp .lss T x y T2,ty,pos,af,g⟩).run P w=.ok (.value (.bool (G (p<q)))) w:=by
 simp[bn,a,b,fN,nD,rk]
theorem HN(a:ρ x=.int .i64 p)(b:ρ y=.int .i64 q):(bn ρ ⟨d,.binOp .leq T x y T2,ty,pos,af,g⟩).run P w=.ok (.value (.bool (G (p<=q)))) w:=by
 simp[bn,a,b,fN,nD,rk]
theorem BP(a:ρ x=.int .i64 p)(b:ρ y=.int .i64 q):(bn ρ ⟨d,.binOp .gtr T x y T2,ty,pos,af,g⟩).run P w=.ok (.value (.bool (G (q<p)))) w:=by
 simp[bn,a,b,fN,nD,rk]
theorem Hu(a:ρ x=.int .i64 p)(b:ρ y=.int .i64 q):(bn ρ ⟨d,.binOp .geq T x y T2,ty,pos,af,g⟩).run P w=.ok (.value (.bool (G (q<=p)))) w:=by
 simp[bn,a,b,fN,nD,rk]
variable{k:IntKind}
theorem uQ(a:ρ x=.int k p)(b:ρ y=.int k q):(bn ρ ⟨d,.binOp .eql T x y T2,ty,pos,af,g⟩).run P w=.ok (.value (.bool (G (p=q)))) w:=by
 simp[bn,a,b,fN,nD,rk];rfl
theorem Sk(a:ρ x=.int k p)(b:ρ y=.int k q):(bn ρ ⟨d,.binOp .neq T x y T2,ty,pos,af,g⟩).run P w=.ok (.value (.bool (G (p≠q)))) w:=by
 simp[bn,a,b,fN,nD,rk];rfl
theorem LC(a:ρ x=.int .i64 p)(b:ρ y=.int .i64 q)(h: -9223372036854775808<=p+q/\p+q<=9223372036854775807):
  (bn ρ ⟨d,.binOp .add T x y T2,ty,pos,af,g⟩).run P w=.ok (.value (.int .i64 (p+q))) w:=by
 simp[bn,a,b,fN,nD,Op.intArith,wrap_in h.1 h.2]
theorem LD(a:ρ x=.int .i64 p)(b:ρ y=.int .i64 q)(h: -9223372036854775808<=p-q/\p-q<=9223372036854775807):
  (bn ρ ⟨d,.binOp .sub T x y T2,ty,pos,af,g⟩).run P w=.ok (.value (.int .i64 (p-q))) w:=by
 simp[bn,a,b,fN,nD,Op.intArith,wrap_in h.1 h.2]
end
theorem mW{x:bt}{T E:bk}{sz:Nat}{a:L od}{l c:Nat}(e:SliceOf P T E sz)(b:ρ x=.slice a l c):
  (bn ρ ⟨d,.call {callee:=.builtin .len,args:= #[x],argTypes:= #[T]},ty,pos,af,g⟩).run P w=.ok (.value (.int .i64 l)) w:=by
 simp[bn,jM,mA,mb,As,b,cF,e.desc,goInt]
theorem r_load1{x:bt}{T:bk}{z v:B}{b o:Nat}{cs:Array B}{E:bk}{i:Nat×Nat}(c:One P T z)(j:ρ x=.pointer (U ⟨b,o,bd⟩))(a:w.heap[b]? =U (.cells cs E i))(e:cs[o]? =U v):
  (bn ρ ⟨d,.load T x,ty,pos,af,g⟩).run P w=.ok (.value v) w:=by
 obtain⟨f,l,k⟩:=c.desc;have m:w.cell? ⟨b,o,bd⟩=U v:=by simp[fh,a,e]
 cases f<;>simp_all[bn,uH,km,ya,isAgg,cF]
end
open Go.RowKit
abbrev BS:=Nat->Prop
abbrev BE:BS:=λ_=>False
structure bF(K:BS)(w w':ay):Prop where
 os:w'.os=w.os
 tape:w'.tape=w.tape
 output:w'.output=w.output
 size:w.heap.size<=w'.heap.size
 block:∀b,¬K b->b<w.heap.size->w'.heap[b]? =w.heap[b]?
abbrev Grow(w w':ay):Prop:=bF BE w w'
abbrev X9(w:ay)(v:B)(e:td)(w':ay):Prop:=Grow w w'/\e=.returned v
theorem bF.refl(K:BS)(w:ay):bF K w w:=⟨rfl,rfl,rfl,cl _,λ_ _ _=>rfl⟩
section
variable{a b c:ay}
theorem bF.step{K N:BS}(h:bF K a b)(k:bF N b c)(hN:∀x,N x->x<a.heap.size->K x):bF K a c:=
 ⟨k.os.trans h.os,k.tape.trans h.tape,k.output.trans h.output,cN h.size k.size,λi d hi=>(k.block i (λhn=>d (hN i hn hi)) (ey hi h.size)).trans (h.block i d hi)⟩
variable{K:BS}
theorem bF.grow(h:bF K a b)(k:Grow b c):bF K a c:=h.step k (λ_ h=>h.elim)
theorem bF.weaken{K N:BS}{a b:ay}(h:bF K a b)(W:∀x,K x->x<a.heap.size->N x):bF N a b:=⟨h.os,h.tape,h.output,h.size,λi c hi=>h.block i (λhn=>c (W i hn hi)) hi⟩
theorem Grow.keep{a b:ay}(h:Grow a b):bF K a b:=h.weaken (λ_ h=>h.elim)
variable{w:ay}{o:Obj}
theorem jf{b:Nat}(a:w.heap[b]? =U o):b<w.heap.size:=by
  rcases cG b w.heap.size with h1|h1
  · exact h1
  · rw[pe h1]at a;cases a
theorem bF.blk{w w':ay}(h:bF K w w'){b:Nat}(a:w.heap[b]? =U o)(c:¬K b):w'.heap[b]? =U o:=by
 rw[h.block b c (jf a),a]
theorem Grow.blk{w w':ay}(h:Grow w w'){b:Nat}(a:w.heap[b]? =U o):w'.heap[b]? =U o:=bF.blk h a (λh=>h)
theorem Grow.below{w w':ay}(h:Grow w w'):Below w.heap.size w w':=⟨h.os,h.tape,h.output,h.size,λk a=>h.block k (λh=>h) a⟩
theorem Grow.of_below{w w':ay}(h:Below w.heap.size w w'):Grow w w':=⟨h.os,h.tape,h.output,h.size,λk _ a=>h.block k a⟩
theorem Grow.alloc(w:ay)(o:Obj):Grow w (w.alloc o):=Grow.of_below ((Below.refl _ _).alloc (cl _) o)
theorem Pt(w:ay)(o:Obj):(w.alloc o).heap[w.heap.size]? =U o:=by show(w.heap.push o)[w.heap.size]? =U o;simp
theorem alloc_size(w:ay)(o:Obj):(w.alloc o).heap.size=w.heap.size+1:=by show(w.heap.push o).size=_;simp
theorem Grow.drew(w:ay):Grow w w.drew:=⟨rfl,rfl,rfl,cl _,λ_ _ _=>rfl⟩
theorem Grow.trans(h:Grow a b)(k:Grow b c):Grow a c:=h.grow k
structure uO(α:Type)where
 sz:Nat
 rd:ay->BS->List B->α->Prop
 len:∀{w A cs x},rd w A cs x->cs.length=sz
 one:∀{w A cs x},rd w A cs x->∀u∈cs,u.oneCell'=bh
 pos:0<sz
 go:∀{w A cs x w' A' K},rd w A cs x->bF K w w'->(∀b,K b->b<w.heap.size->A b)->(∀b,A' b->b<w.heap.size->A b)->rd w' A' cs x
def ek{α:Type}(R:uO α)(w:ay)(aq A:BS)(v:B)(l:H α):Prop:=
 ∃a cap,v=.slice a (O l) cap/\O l<=cap/\cap<=mC/\(a=bd->cap=0)/\
  ∀i (h:i<O l),∃b o cells E c,a=U ⟨b,o,bd⟩/\¬aq b/\w.heap[b]? =U (.cells cells E c)/\R.rd w A ((cells.toList.drop (o+i*R.sz)).take R.sz) l[i]
abbrev bX{α:Type}(R:uO α)(w:ay)(A:BS)(v:B)(l:H α):Prop:=ek R w A A v l
variable{α:Type}{R:uO α}{v:B}{l:H α}
theorem ek.go{w w':ay}{aq g A A' K:BS}(h:ek R w aq A v l)(f:bF K w w')(c:∀b,K b->b<w.heap.size->aq b)(s:∀b,K b->b<w.heap.size->A b)(q:∀b,g b->b<w.heap.size->aq b)(m:∀b,A' b->b<w.heap.size->A b):ek R w' g A' v l:=by
 obtain⟨a,cap,rfl,n,p,u,t⟩:=h;refine⟨a,cap,Z,n,p,u,λi hi=>?_⟩;obtain⟨b,o,cells,E,k,r,e,d,j⟩:=t i hi;exact⟨b,o,cells,E,k,r,λh=>e<|q b h<|jf d,f.blk d λh=>e<|c b h<|jf d,R.go j f s m⟩
theorem ek.sub{aq a A A':BS}(h:ek R w aq A v l)(d:∀b,a b->b<w.heap.size->aq b)(c:∀b,A' b->b<w.heap.size->A b):ek R w a A' v l:=
 h.go (bF.refl BE w) (λ_ h=>h.elim) (λ_ h=>h.elim) d c
variable{aq A:BS}
theorem ek.src(h:ek R w aq A v l):ek R w BE A v l:=h.sub (λ_ h=>h.elim) (λ_ h _=>h)
theorem bX.go{w w':ay}{A A' K:BS}(h:bX R w A v l)(d:bF K w w')(c:∀b,K b->b<w.heap.size->A b)(a:∀b,A' b->b<w.heap.size->A b):bX R w' A' v l:=
 ek.go h d c c a a
theorem ek.one(h:ek R w aq A v l):v.oneCell'=true:=by
 obtain⟨a,cap,rfl,_⟩:=h;rfl
theorem ek.nil:ek R w aq A (.slice bd 0 0) ([]:H α):=⟨bd,0,rfl,cl _,by unfold mC;omega,λ_=>rfl,λi hi=>ZL hi (ir _)⟩
theorem ek.aZ(h:ek R w aq A v l):O l<=9223372036854775807:=by
 obtain⟨a,cap,_,c,b,_⟩:=h;unfold mC at b;omega
def ui{α:Type}(R:uO α):uO (H α) where
 sz:=1
 rd w A cs l:=∃v,cs=[v]/\bX R w A v l
 len:=by rintro w A cs x ⟨v,rfl,_⟩;rfl
 one:=by
  rintro w A cs x⟨v,rfl,h⟩u hu;simp at hu;subst hu;exact h.one
 pos:=by decide
 go:=by
  rintro w A cs x w' A' K⟨v,rfl,h⟩hk hK hA;exact⟨v,Z,h.go hk hK hA⟩
def dL:uO Int where
 sz:=1
 rd _ _ cs x:=cs=[.int .i64 x]
 len:=by rintro w A cs x rfl;rfl
 one:=by rintro w A cs x rfl u hu;simp at hu;subst hu;rfl
 pos:=by decide
 go:=λh _ _ _=>h
def rBool:uO YU where
 sz:=1
 rd _ _ cs x:=cs=[.bool x]
 len:=by rintro w A cs x rfl;rfl
 one:=by rintro w A cs x rfl u hu;simp at hu;subst hu;rfl
 pos:=by decide
 go:=λh _ _ _=>h
abbrev vh:=H UInt8
def bJ(s:vh):Value:=.string ⟨ar s⟩
def KG:uO vh where
 sz:=1
 rd _ _ cs x:=cs=[bJ x]
 len:=by rintro w A cs x rfl;rfl
 one:=by rintro w A cs x rfl u hu;simp at hu;subst hu;rfl
 pos:=by decide
 go:=λh _ _ _=>h
def ob:B->Nat->Prop| .slice (U a) _ _=>λb=>b=a.block|_=>λ_=>False
theorem ob_row{k:Nat}:ob v k↔v.ownBlock=U k:=by
 cases v with
 |slice a l c=>cases a with
  |none=>simp[ob,tq]
  |some a=>simp[ob,tq];exact eq_comm
 |_=>simp[ob,tq]
def dz{α:Type}(R:uO α)(E:bk)(w:ay)(A:BS)(v:B)(l:H α):Prop:=
 ∃xs,w.ownsRow 0 E R.sz v (O l) xs/\∀i (h:i<O l),R.rd w (λb=>A b\/ob v b) ((xs.drop (i*R.sz)).take R.sz) l[i]
variable{E:bk}
theorem dz.nil{A:BS}:dz R E w A (.slice bd 0 0) ([]:H α):=
 ⟨[],World.ownsRow_nil _ _ _ _,λi h=>ZL h (ir _)⟩
theorem dz.lt{A:BS}(h:dz R E w A v l):∀k,ob v k->k<w.heap.size:=by
 obtain⟨xs,a,_⟩:=h;intro k b;exact(a.lt k<|ob_row.1 b).2
theorem dz.go{w w':ay}{A A' K:BS}(h:dz R E w A v l)(e:bF K w w')(k:∀b,K b->b<w.heap.size->A b)(d:∀b,K b->¬ob v b)(j:∀b,A' b->b<w.heap.size->A b\/ob v b):dz R E w' A' v l:=by
  obtain⟨xs,c,m⟩:=h;refine⟨xs,?_,λi hi=>R.go (m i hi) e (λb c f=>.inl<|k b c f) λb a hl=>?_⟩
  · refine⟨c.1,?_⟩;rcases c.2 with h|⟨g,cap,cur,rfl,e1,e2,e3⟩
    · exact .inl h
    · exact .inr ⟨g,cap,cur,Z,e1,e.blk e2 (λh=>d g h (by simp[ob])),e3⟩
  · rcases a with a|a
    · exact j b a hl
    · exact .inr a
theorem dz.one{A:BS}(h:dz R E w A v l):v.oneCell'=true:=by
 obtain⟨xs,a,_⟩:=h;rcases a.2 with⟨rfl,_⟩|⟨g,cap,cur,rfl,_⟩<;>rfl
theorem dz.rd{A A':BS}(h:dz R E w A v l)(c:∀b,ob v b->¬A' b)(d:∀b,A' b->b<w.heap.size->A b\/ob v b):bX R w A' v l:=by
  obtain⟨xs,a,e⟩:=h;rcases a.2 with⟨rfl,hn⟩|⟨g,cap,cur,rfl,e1,e2,e3,e4,e5,e6⟩
  · have:l=[]:=cA hn;subst this;exact ek.nil
  · refine⟨U ⟨g,0,bd⟩,cap,Z,e3,e4,(λh=>by cases h),λi hi=>⟨g,0,cur,E,(0,0),Z,c g (by simp[ob]),e2,?_⟩⟩;have:=R.go (A':=A') (e i hi) (bF.refl BE w) (λ_ h=>h.elim) d;rw[<-e6,et,eg,cX ?_]at this
    · rw[hJ];exact this
    · have:(i+1)*R.sz<=O l*R.sz:=bj _ hi;rw[cj]at this;omega
def LF(es:Array MapEntry)(a:Nat):Prop:=(∀e∈es.toList,e.born<a)/\(es.toList.map (·.born)).Nodup
def Oc(w:ay)(b:Nat)(jc:H (Int×B)):Prop:=
 ∃es a,w.heap[b]? =U (.map es a)/\es.toList.map (λe=>(e.key,e.val))=jc.map (λp=>(dd .i64 p.1,p.2))/\LF es a
structure Pce where
 own:BS
 P:ay->BS->Prop
 lt:∀{w A b},P w A->own b->b<w.heap.size
 go:∀{w w' A A' K},P w A->bF K w w'->(∀b,K b->b<w.heap.size->A b)->(∀b,K b->¬own b)->(∀b,A' b->b<w.heap.size->A b\/own b)->P w' A'
inductive Chunk:Type 1 where
 |no
 |rd {α:Type} (R:uO α) (v:B) (l:List α)
 |sr {α:Type} (R:uO α) (v:B) (l:List α)
 |pt (b o:Nat) (cs:List B)
 |blk (b:Nat) (cs:List B)
 |own {α:Type} (R:uO α) (E:bk) (v:B) (l:List α)
 |mp (b:Nat) (jc:List (Int×B))
 |rp {α:Type} (R:uO α) (v:B) (x:α)
 |two (a b:Chunk)
 |gK (S:Pce)
def Chunk.own':Chunk->BS
 | .blk b _=>λx=>x=b
 | .own _ _ v _=>ob v
 | .mp b _=>λx=>x=b
 | .two a b=>λx=>a.own' x\/b.own' x
 | .gK S=>S.own
 |_=>BE
def Chunk.holds(w:ay)(M ab:BS):Chunk->Prop
 | .no=>True
 | .rd R v l=>bX R w (λb=>M b\/ab b) v l
 | .sr R v l=>ek R w ab (λb=>M b\/ab b) v l
 | .pt b o cs=>¬ab b/\∃cells E c,w.heap[b]? =U (.cells cells E c)/\(cells.toList.drop o).take (O cs)=cs
 | .blk b cs=>∃E,w.heap[b]? =U (.cells (ar cs) E (0,0))
 | .own R E v l=>dz R E w (λb=>M b\/ab b) v l
 | .mp b jc=>Oc w b jc
 | .rp R v x=>R.rd w (λb=>M b\/ab b) [v] x
 | .two a b=>a.holds w M ab/\b.holds w M ab/\∀x,a.own' x->¬b.own' x
 | .gK S=>S.P w (λb=>M b\/ab b)
theorem Chunk.go{c:Chunk}{w w':ay}{M ab m N:BS}(h:c.holds w M ab)(f:bF N w w')(hN:∀b,N b->b<w.heap.size->ab b)(e:∀b,N b->¬c.own' b)(i:∀b,m b->b<w.heap.size->M b\/ab b)(g:∀b,m b->b<w.heap.size->ab b):c.holds w' M m:=by
 induction c with
 |no=>trivial
 |rd R v l=>exact bX.go h f (λb d hl=>.inr (hN b d hl)) (λb d hl=>d.elim .inl (λd=>i b d hl))
 |sr R v l=>exact ek.go h f hN (λb d hl=>.inr (hN b d hl)) g (λb d hl=>d.elim .inl (λd=>i b d hl))
 |pt b o cs=>
  obtain⟨n,cells,E,q,k,s⟩:=h;exact⟨λh=>n<|g b h<|jf k,cells,E,q,f.blk k λh=>n<|hN b h<|jf k,s⟩
 |blk b cs=>
  obtain⟨E,h⟩:=h;exact⟨E,f.blk h λd=>e b d Z⟩
 |own R E v l=>exact dz.go h f (λb d hl=>.inr (hN b d hl)) e (λb d hl=>.inl (d.elim .inl (λd=>i b d hl)))
 |rp R v x=>exact R.go h f (λb d hl=>.inr (hN b d hl)) (λb d hl=>d.elim .inl (λd=>i b d hl))
 |two a b iha ihb=>exact⟨iha h.1 (λx j p=>e x j (.inl p)),ihb h.2.1 (λx j d=>e x j (.inr d)),h.2.2⟩
 |gK S=>exact S.go h f (λb d hl=>.inr (hN b d hl)) e (λb d hl=>.inl (d.elim .inl (λd=>i b d hl)))
 |mp b jc=>
  obtain⟨es,c,h,r⟩:=h;exact⟨es,c,f.blk h λd=>e b d Z,r⟩
theorem Chunk.sub{c:Chunk}{M ab d:BS}(h:c.holds w M ab)(a:∀b,d b->b<w.heap.size->ab b):c.holds w M d:=
 Chunk.go h (bF.refl BE w) (λ_ h=>h.elim) (λ_ h=>h.elim) (λb e hl=>.inr (a b e hl)) a
theorem Chunk.lt{c:Chunk}{M ab:BS}(h:c.holds w M ab):∀b,c.own' b->b<w.heap.size:=by
 intro b d;induction c with
 |no=>exact d.elim
 |rd=>exact d.elim
 |sr=>exact d.elim
 |pt=>exact d.elim
 |blk b' cs=>
  cases d;exact jf h.choose_spec
 |own R E v l=>exact dz.lt h b d
 |rp=>exact d.elim
 |two a c iha ihc=>exact d.elim (λd=>iha h.1 d) (λd=>ihc h.2.1 d)
 |gK S=>exact S.lt h d
 |mp b' jc=>
  cases d;obtain⟨_,_,h,_⟩:=h;exact jf h
end
def cz(J:Nat->Chunk)(i:Nat)(c:Chunk):Nat->Chunk:=λj=>bif hR j i then c else J j
theorem dG(J:Nat->Chunk)(i:Nat)(c:Chunk):cz J i c i=c:=by simp[cz,Nat.beq_refl]
theorem iH{J:Nat->Chunk}{i j:Nat}{c:Chunk}(h:j≠i):cz J i c j=J j:=by
 have:hR j i=false:=by rw[fy];intro e;exact h (iz e)
 simp[cz,this]
def T7:Nat->Chunk:=λ_=>.no
def kg(J:Nat->Chunk):BS:=λb=>∃j,(J j).own' b
structure SH(I:ay)(M K:BS)(w:ay)(J:Nat->Chunk):Prop where
 keep:bF K I w
 ltM:∀b,M b->b<I.heap.size
 apM:∀i b,(J i).own' b->¬M b
 ok:∀i,(J i).holds w M (kg J)
 apart:∀i j,i≠j->∀b,(J i).own' b->¬(J j).own' b
 old:∀i b,(J i).own' b->b<I.heap.size->K b
section
variable{I w w':ay}{M K:BS}{J:Nat->Chunk}{i:Nat}{c:Chunk}
def rest(J:Nat->Chunk)(i:Nat):BS:=λb=>∃j,j≠i/\(J j).own' b
theorem nQ{J:Nat->Chunk}{i b:Nat}(h:rest J i b):kg J b:=let ⟨j,_,h⟩:=h;⟨j,h⟩
abbrev SH.av(J:Nat->Chunk)(i:Nat)(c:Chunk):BS:=λb=>rest J i b\/c.own' b
theorem SH.step{N:BS}(h:SH I M K w J)(i:Nat)(q:bF N w w')(hN:∀b,N b->b<w.heap.size->(J i).own' b)
    (ho:∀b,c.own' b->b<w.heap.size->(J i).own' b) (t:c.holds w' M (SH.av J i c)):SH I M K w' (cz J i c):=by
  have s:∀b,M b->b<w.heap.size:=λb a=>ey (h.ltM b a) h.keep.size;have l:∀b,kg (cz J i c) b->rest J i b\/c.own' b:=by
    rintro b⟨j,n⟩;by_cases e:j=i
    · subst e;rw[dG]at n;exact .inr n
    · rw[iH e]at n;exact .inl ⟨j,e,n⟩
  have f:∀b,kg (cz J i c) b->b<w.heap.size->kg J b:=λb a hl=>(l b a).elim nQ λh=>⟨i,ho b h hl⟩;refine⟨?_,h.ltM,?_,?_,?_,?_⟩
  · exact h.keep.step q (λx p hl=>by
      have m:=ey hl h.keep.size;exact h.old i x (hN x p m) hl)
  · intro j b a;by_cases e:j=i
    · subst e;rw[dG]at a;intro r;exact h.apM j b (ho b a<|s b r) r
    · rw[iH e]at a;exact h.apM j b a
  · intro j;by_cases e:j=i
    · subst e;rw[dG];exact Chunk.sub t λb a _=>l b a
    · rw[iH e];have hl:=h.ok j;refine Chunk.go hl (q.weaken (N:=λb=>N b/\b<w.heap.size) λb a hl=>⟨a,hl⟩) ?_ ?_ ?_ ?_
      · intro b a m;exact⟨i,hN b a.1 m⟩
      · intro b a n;exact h.apart j i e b n<|hN b a.1 a.2
      · exact λb a hl=>.inr<|f b a hl
      · exact f
  · intro j k g b a d;have lt:∀x,x≠i->(J x).own' b->b<w.heap.size:=λx _ p=>Chunk.lt (h.ok x) b p;by_cases e:j=i
    · subst e;have o:k≠j:=λe=>g e.symm;rw[dG]at a;rw[iH o]at d;exact h.apart j k g b (ho b a<|lt k o d) d
    · rw[iH e]at a;by_cases o:k=i
      · subst o;rw[dG]at d;exact h.apart j k g b a<|ho b d<|lt j e a
      · rw[iH o]at d;exact h.apart j k g b a d
  · intro j b a hl;by_cases e:j=i
    · subst e;rw[dG]at a;exact h.old j b (ho b a<|ey hl h.keep.size) hl
    · rw[iH e]at a;exact h.old j b a hl
abbrev SH.A(M:BS)(J:Nat->Chunk):BS:=λb=>M b\/kg J b
theorem SH.lt(h:SH I M K w J):∀b,SH.A M J b->b<w.heap.size:=by
  rintro b(a|⟨j,a⟩)
  · exact ey (h.ltM b a) h.keep.size
  · exact Chunk.lt (h.ok j) b a
theorem SH.learn(h:SH I M K w J)(i:Nat)(d:Grow w w')(ho:∀b,c.own' b->w.heap.size<=b)(e:c.holds w' M (λb=>kg J b\/c.own' b)):SH I M K w' (cz J i c):=
 h.step i d (λ_ h=>h.elim) (λb a hl=>ZL (ho b a) V) (Chunk.sub e (λb a _=>a.imp nQ id))
theorem SH.grow(h:SH I M K w J)(c:Grow w w'):SH I M K w' J:=
 ⟨h.keep.grow c,h.ltM,h.apM,λi=>Chunk.go (h.ok i) c (λ_ h=>h.elim) (λ_ h=>h.elim) (λb a _=>.inr a) (λb a _=>a),h.apart,h.old⟩
theorem SH.know(h:SH I M K w J)(i:Nat)(ho:∀b,¬c.own' b)(d:c.holds w M (kg J)):SH I M K w (cz J i c):=
 h.learn i (bF.refl BE w) (λb a=>ZL a (ho b)) (Chunk.sub d (λb a _=>a.elim id (λa=>ZL a (ho b))))
section
variable{α:Type}{R:uO α}{E:bk}{v:B}{l:H α}
theorem SH.freeze(h:SH I M K w J)(i:Nat)(hi:J i=.own R E v l):SH I M K w (cz J i (.rd R v l)):=by
  refine h.step i (bF.refl BE w) (λ_ h=>h.elim) (λb a=>a.elim) ?_;have hl:=h.ok i;rw[hi]at hl;refine dz.rd hl (λb a c=>?_) λb a hl=>?_
  · have d:(J i).own' b:=by rw[hi];exact a
    rcases c with c|⟨j,hj,c⟩|c
    · exact h.apM i b d c
    · exact h.apart j i hj b c d
    · exact c
  · rcases a with a|a|a
    · exact .inl<|.inl a
    · exact .inl<|.inr<|nQ a
    · exact a.elim
def C6:H (Nat×Chunk)->Nat->Chunk
 |[]=>T7
 |(i,c)::r=>cz (C6 r) i c
def Ra(J:Nat->Chunk):H (Nat×Chunk)->Prop
 |[]=>True
 |(i,c)::r=>J i=c/\Ra J r
theorem hset_is{J:Nat->Chunk}:∀{l:H (Nat×Chunk)},Ra J l->∀j,C6 l j=J j\/C6 l j=.no
  |[],_,_=>.inr Z
  |(i,c)::r,h,j=>by
    by_cases e:j=i
    · subst e;left;show cz _ _ _ _=_;rw[dG];exact h.1.symm
    · show cz _ _ _ _=_\/cz _ _ _ _=_;rw[iH e];exact hset_is h.2 j
theorem SH.canon(h:SH I M K w J)(l:H (Nat×Chunk))(hl:Ra J l):SH I M K w (C6 l):=by
  have c:=hset_is hl;have own:∀j b,(C6 l j).own' b->(J j).own' b:=by
    intro j b a;rcases c j with e|e
    · rw[e]at a;exact a
    · rw[e]at a;exact a.elim
  refine⟨h.keep,h.ltM,λi b a=>h.apM i b<|own i b a,λi=>?_,λi j f b a d=>h.apart i j f b (own i b a)<|own j b d,λi b a=>h.old i b<|own i b a⟩;rcases c i with e|e
  · rw[e];exact Chunk.sub (h.ok i) λb⟨j,g⟩_=>⟨j,own j b g⟩
  · rw[e];trivial
theorem SH.init{w:ay}{M:BS}(a:∀b,M b->b<w.heap.size):SH w M BE w T7:=
 ⟨bF.refl _ _,a,λ_ _ h=>h.elim,λ_=>trivial,λ_ _ _ _ h=>h.elim,λ_ _ h=>h.elim⟩
theorem SH.wJ(h:SH I M K w J)(i:Nat)(a:Grow w w')(ho:dz R E w' (SH.A M J) v l)(d:∀b,ob v b->w.heap.size<=b):SH I M K w' (cz J i (.own R E v l)):=
 h.learn i a d (dz.go ho (bF.refl BE w') (λ_ h=>h.elim) (λ_ h=>h.elim) (λb c _=>c.elim (λh=>.inl (.inl h)) (λh=>h.elim (λh=>.inl (.inr h)) .inr)))
theorem SH.xQ(h:SH I M K w J)(i:Nat)(c:Grow w w')(ho:bX R w' (SH.A M J) v l):SH I M K w' (cz J i (.rd R v l)):=
 h.learn i c (λ_ h=>h.elim) (bX.go ho (bF.refl BE w') (λ_ h=>h.elim) (λb a _=>a.elim .inl (λh=>h.elim .inr (λh=>h.elim))))
theorem SH.aA(h:SH I M K w J)(i:Nat)(ho:bX R w (SH.A M J) v l):SH I M K w (cz J i (.rd R v l)):=h.xQ i (bF.refl BE w) ho
theorem SH.xR(h:SH I M K w J)(i:Nat)(ho:bX R w M v l)(hn:∀b,¬kg J b):SH I M K w (cz J i (.rd R v l)):=
 h.aA i (ho.go (bF.refl BE w) (λ_ h=>h.elim) (λb a _=>a.elim id (λh=>ZL h (hn b))))
theorem SH.bV(h:SH I M K w J)(i:Nat)(ho:ek R w BE M v l)(hn:∀b,¬kg J b):SH I M K w (cz J i (.sr R v l)):=
 h.know i (λ_ h=>h) (ho.sub (λb a _=>ZL a (hn b)) (λb a _=>a.elim id (λh=>ZL h (hn b))))
theorem SH.dQ(h:SH I M K w J)(i:Nat)(hi:J i=.rd R v l):bX R w (SH.A M J) v l:=by
 have:=h.ok i;rw[hi]at this;exact this
theorem SH.srAt(h:SH I M K w J)(i:Nat)(hi:J i=.sr R v l):ek R w (kg J) (SH.A M J) v l:=by
 have:=h.ok i;rw[hi]at this;exact this
theorem SH.bW(h:SH I M K w J)(i:Nat)(hi:J i=.own R E v l):dz R E w (SH.A M J) v l:=by
 have:=h.ok i;rw[hi]at this;exact this
variable{b:Nat}{cs:H B}
theorem SH.pO(h:SH I M K w J)(i:Nat)(hi:J i=.blk b cs):∃E,w.heap[b]? =U (.cells (ar cs) E (0,0)):=by
 have:=h.ok i;rw[hi]at this;exact this
theorem SH.ptAt{b o:Nat}(h:SH I M K w J)(i:Nat)(hi:J i=.pt b o cs):∃cells E a,w.heap[b]? =U (.cells cells E a)/\(cells.toList.drop o).take (O cs)=cs:=by
 have:=h.ok i;rw[hi]at this;exact this.2
theorem SH.mpAt{es:H (Int×B)}(h:SH I M K w J)(i:Nat)(hi:J i=.mp b es):Oc w b es:=by
 have:=h.ok i;rw[hi]at this;exact this
theorem SH.grown(h:SH I M BE w J):Grow I w:=h.keep
theorem X8{α:Type}{e:α}(h:SH I M BE w J):Grow I w/\e=e:=⟨h.grown,rfl⟩
theorem SH.fresh(h:SH I M BE w J)(i:Nat):∀b,(J i).own' b->I.heap.size<=b:=λb a=>AD (λhl=>h.old i b a hl)
theorem SH.kC(h:SH I M K w J)(i:Nat)(hi:J i=.rd R v l):ek R w BE (SH.A M J) v l:=(h.dQ i hi).src
theorem SH.gW(h:SH I M K w J)(i:Nat)(hi:J i=.sr R v l):ek R w BE (SH.A M J) v l:=(h.srAt i hi).src
theorem dz.src{w:ay}{A:BS}(h:dz R E w A v l):ek R w BE A v l:=by
  obtain⟨xs,c,d⟩:=h;rcases c.2 with⟨rfl,hn⟩|⟨g,cap,cur,rfl,e1,e2,e3,e4,e5,e6⟩
  · have:l=[]:=cA hn;subst this;exact ek.nil
  · refine⟨U ⟨g,0,bd⟩,cap,Z,e3,e4,(λh=>by cases h),λi hi=>⟨g,0,cur,E,(0,0),Z,λh=>h,e2,?_⟩⟩;have:=R.go (A':=A) (d i hi) (bF.refl BE w) (λ_ h=>h.elim) λb a _=>.inl a;rw[<-e6,et,eg,cX ?_]at this
    · rw[hJ];exact this
    · have:(i+1)*R.sz<=O l*R.sz:=bj _ hi;rw[cj]at this;omega
theorem SH.cZ(h:SH I M K w J)(i:Nat)(hi:J i=.own R E v l):ek R w BE (SH.A M J) v l:=(h.bW i hi).src
theorem aG:∀b,¬kg T7 b:=λ_⟨_,h⟩=>h
theorem jk{i:Nat}(h:∀b,¬kg J b):∀b,¬kg (cz J i (.rd R v l)) b:=by
  rintro b⟨j,a⟩;by_cases e:j=i
  · subst e;rw[dG]at a;exact a
  · rw[iH e]at a;exact h b ⟨j,a⟩
theorem aQ{i:Nat}(h:∀b,¬kg J b):∀b,¬kg (cz J i (.sr R v l)) b:=by
  rintro b⟨j,a⟩;by_cases e:j=i
  · subst e;rw[dG]at a;exact a
  · rw[iH e]at a;exact h b ⟨j,a⟩
end
end
open Go.RowKit
def gv(c:YU)(v:B):Value:=(bif c then [v]else []).headD gC
theorem iY{c:YU}{v:B}(h:c=bh):gv c v=v:=by rw[h];rfl
theorem gl{a b:YU}(h:(a&&b)=bh):a=true:=by cases a<;>simp_all
theorem gr{a b:YU}(h:(a&&b)=bh):b=true:=by cases a<;>simp_all
structure lK(P:cd)(T E:bk)(sz bytes:Nat):Prop where
 desc:P.underlying T=U (.slice E)
 info:∃i z,P.info? E=U i/\i.zero=U z/\i.size=sz/\i.bytes=bytes/\z.cells.size=sz
theorem YY{P:cd}{T:bk}{z:L B}{s:Nat}(h:(P.info? T).map (λi=>(i.zero,i.size))=U (z,s)):∃i,P.info? T=U i/\i.zero=z/\i.size=s:=by
 cases hi:P.info? T with
 |none=>simp[hi]at h
 |some i=>simp[hi]at h;exact⟨i,Z,h.1,h.2⟩
def yA(w:ay)(b:Nat)(o:Obj):World:={w with heap:=w.heap.setIfInBounds b o}
theorem wK{w:ay}{b:Nat}{o:Obj}(h:b<w.heap.size):(yA w b o).heap[b]? =U o:=by simp[yA,h]
theorem bF.yA(w:ay)(b:Nat)(o:Obj):bF (λx=>x=b) w (yA w b o):=
 ⟨rfl,rfl,rfl,by simp[LX.yA],λk a _=>by
  have:b≠k:=λe=>a (by simp[e]);show(w.heap.setIfInBounds b o)[k]? =_;rw[Array.getElem?_setIfInBounds_ne this]⟩
theorem X7{w:ay}{b o:Nat}{cs:Array B}{E:bk}{d:Nat×Nat}{v:B}(c:w.heap[b]? =U (.cells cs E d)):w.setCell ⟨b,o,bd⟩ v=yA w b (.cells (cs.setIfInBounds o v) E d):=by
  simp only[World.setCell,yA];congr 1;have a:=jf c;apply rl;intro i;simp only[fk,mm];by_cases hi:b=i
  · subst hi;rw[Z3 rfl,Z3 rfl,Z3 a,c];rfl
  · simp[hi]
theorem Od{w:ay}{b:Nat}{cs a:Array B}{E:bk}{e:Nat×Nat}(d:w.heap[b]? =U (.cells cs E e)):w.setRow b a=yA w b (.cells a E e):=by
  simp only[World.setRow,yA];congr 1;have c:=jf d;apply rl;intro i;simp only[fk,mm];by_cases hi:b=i
  · subst hi;rw[Z3 rfl,Z3 rfl,Z3 c,d];rfl
  · simp[hi]
def Q7(cs:H B)(o:Nat)(vs:H B):H Value:=cs.take o++vs++cs.drop (o+O vs)
def At(w:ay)(b o:Nat)(cs:H B):Prop:=∃cells E a,w.heap[b]? =U (.cells cells E a)/\(cells.toList.drop o).take (O cs)=cs
section
variable{P:cd}{ops:Array ec}{sc:gd->Act->ay->Prop}{n:Nat}{env:Nat->B}{w w' I:ay}{M K:BS}{J:Nat->Chunk}{rest:H ec}
 {d:L Nat} {op:Op} {ty:bk} {pos:String} {af:Array hX} {v:B} {g:L (Nat×YU)} {T:bk} {ρ:bt->B} {x y:bt}
section
variable{j dj:Nat}
theorem jU{b want:YU}(a:YU)(i:(ops[j]?).bind (·.dst)=U dj)(g:ev n env (.tmp dj)=gv a (.bool b))(p:(a&&(b==want))=bh->(bn (ev n env) ⟨d,op,ty,pos,af,bd⟩).run P w=.ok (.value v) w)(h:WL P ops sc rest n (gp env d (gv (a&&(b==want)) v)) w):
    WL P ops sc (⟨d,op,ty,pos,af,U (j,want)⟩::rest) n env w:=by
  by_cases c:(a&&(b==want))=bh
  · have l:=gl c;have e:=gr c;rw[iY l]at g;rw[iY c]at h;have k:b=want:=by simpa using e
    subst k;exact YW i g<|aC (p c) h
  · have f:(a&&(b==want))=false:=by simpa using c
    rw[f]at h;cases a with
    |true=>
      refine ny i g ?_ h;simpa using f
    |false=>
      have q:ev n env (.tmp dj)=undef:=g;have o:fa ops (DB n env).tmps j=none:=by
        unfold fa;have e:(DB n env).eval (.tmp dj)=undef:=by rw[jB];exact q
        simp only[i,cJ];simp only[ki]at e;cases h2:(DB n env).tmps[dj]? with
        |none=>rfl
        |some x=>simp[da,h2]at e;subst e;rfl
      have m:cq ⟨d,op,ty,pos,af,U (j,want)⟩ (fa ops (DB n env).tmps)=false:=by simp[cq,o]
      refine⟨?_⟩;unfold tf;rw[Z4 (by rw[m];decide),KF];exact h.out
theorem cO{b want:YU}(e:(ops[j]?).bind (·.dst)=U dj)(a:ev n env (.tmp dj)=.bool b)(c:(b==want)=bh->(bn (ev n env) ⟨d,op,ty,pos,af,bd⟩).run P w=.ok (.value v) w)(h:WL P ops sc rest n (gp env d (gv (b==want) v)) w):
    WL P ops sc (⟨d,op,ty,pos,af,U (j,want)⟩::rest) n env w:=
  jU bh e a (λh=>c (by simpa using h)) (by simpa using h)
variable{c a:bt}
theorem LG{b p:YU}(i:ρ c=.bool b)(f:ρ a=gv (b==aw) (.bool p))(e:∀v,ρ (.const v)=v):(bn ρ ⟨d,.pick c (.const (.bool bh)) a,ty,pos,af,g⟩).run P w=.ok (.value (.bool (b||p))) w:=by
 cases b<;>simp_all[bn,asBool,gv]
theorem tO{b p:YU}(i:ρ c=.bool b)(e:ρ a=gv (b==bh) (.bool p))(f:∀v,ρ (.const v)=v):(bn ρ ⟨d,.pick c a (.const (.bool aw)),ty,pos,af,g⟩).run P w=.ok (.value (.bool (b&&p))) w:=by
 cases b<;>simp_all[bn,asBool,gv]
theorem Pp{n:Nat}{env:Nat->B}:∀v,ev n env (.const v)=v:=λ_=>rfl
theorem tQ{T:bk}{b:YU}(a:ρ x=.bool b):(bn ρ ⟨d,.unOp .not T x,ty,pos,af,g⟩).run P w=.ok (.value (.bool !b)) w:=r_not a
variable{T2:bk}{p q:YU}
theorem r_eqlb(b:P.underlying T=U .bool)(a:ρ x=.bool p)(c:ρ y=.bool q):(bn ρ ⟨d,.binOp .eql T x y T2,ty,pos,af,g⟩).run P w=.ok (.value (.bool (p==q))) w:=by
 simp[bn,a,c,fN,nD,run_equal_bool w T p q b]
theorem OI(b:P.underlying T=U .bool)(a:ρ x=.bool p)(c:ρ y=.bool q):(bn ρ ⟨d,.binOp .neq T x y T2,ty,pos,af,g⟩).run P w=.ok (.value (.bool (p !=q))) w:=by
 simp[bn,a,c,fN,nD,run_equal_bool w T p q b,bne]
variable{z:B}{b o:Nat}{cs:H B}
theorem jr(h:SH I M K w J)(i:Nat)(hi:J i=.blk b cs)(e:One P T z)(a:ρ x=.pointer (U ⟨b,o,bd⟩))(f:cs[o]? =U v):
 (bn ρ ⟨d,.load T x,ty,pos,af,g⟩).run P w=.ok (.value v) w:=let ⟨_,c⟩:=h.pO i hi;r_load1 e a c (by simpa using f)
variable{zs vs:H B}{E:bk}
theorem r_loadN{cells:Array B}{p:Nat×Nat}(f:yV P T zs)(m:ρ x=.pointer (U ⟨b,o,bd⟩))(e:w.heap[b]? =U (.cells cells E p))(n:(cells.toList.drop o).take (O zs)=vs)(hl:O vs=O zs):
    (bn ρ ⟨d,.load T x,ty,pos,af,g⟩).run P w=.ok (.value (.agg (ar vs))) w:=by
  obtain⟨i,hi,u,W⟩:=YY f.info;obtain⟨s,t,r⟩:=f.desc;have q:∀j v,vs[j]? =U v->w.cell? ((⟨b,o,bd⟩:od).add j)=U v:=by
    intro j v a;have c:j<O zs:=by
      rcases cG j (O vs) with h|h
      · omega
      · rw[bE h]at a;cases a
    rw[<-n,ca,Z3 c,ct]at a;by_cases k:j=0
    · subst k;simpa[jH,fh,e]using a
    · simpa[jH,fh,e,k]using a
  have l:=Cf (P:=P) (w:=w) ⟨b,o,bd⟩ vs q;rw[hl]at l;cases s<;>simp at r<;>simp[bn,uH,m,km,ya,isAgg,cF,t,hQ,ee,hi,W,l]
theorem BC(h:SH I M K w J)(i:Nat)(hi:J i=.blk b cs)(e:yV P T zs)(a:ρ x=.pointer (U ⟨b,o,bd⟩))(f:(cs.drop o).take (O zs)=vs)(hl:O vs=O zs):
 (bn ρ ⟨d,.load T x,ty,pos,af,g⟩).run P w=.ok (.value (.agg (ar vs))) w:=let ⟨_,c⟩:=h.pO i hi;r_loadN e a c (by simpa using f) hl
theorem jl{b o k:Nat}(h:At w b o cs)(i:One P T z)(e:ρ x=.pointer (U ⟨b,o+k,bd⟩))(a:cs[k]? =U v):
    (bn ρ ⟨d,.load T x,ty,pos,af,g⟩).run P w=.ok (.value v) w:=by
  obtain⟨cells,E,m,f,l⟩:=h;refine r_load1 i e f ?_;have j:k<O cs:=by
    rcases cG k (O cs) with h1|h1
    · exact h1
    · rw[bE h1]at a;cases a
  have c:((cells.toList.drop o).take (O cs))[k]? =U v:=by rw[l];exact a
  rw[ca,Z3 j,ct]at c;simpa using c
variable{α:Type}{l:H α}
theorem P1{o k m s:Nat}{cs:H α}(h:(l.drop o).take s=cs)(a:k+m<=s):(l.drop (o+k)).take m=(cs.drop k).take m:=by
 rw[<-h,et,eg,pZ,cX V]
theorem iZ{b o k:Nat}(h:At w b o cs)(e:yV P T zs)(a:ρ x=.pointer (U ⟨b,o+k,bd⟩))(f:(cs.drop k).take (O zs)=vs)(hl:O vs=O zs)(i:k+O zs<=O cs):
  (bn ρ ⟨d,.load T x,ty,pos,af,g⟩).run P w=.ok (.value (.agg (ar vs))) w:=by
 obtain⟨cells,E,l,c,j⟩:=h;exact r_loadN e a c (by rw[P1 j i];exact f) hl
theorem ug{b o k:Nat}(h:SH I M K w J)(i:Nat)(hi:J i=.pt b o cs)(c:One P T z)(a:ρ x=.pointer (U ⟨b,o+k,bd⟩))(e:cs[k]? =U v):
 (bn ρ ⟨d,.load T x,ty,pos,af,g⟩).run P w=.ok (.value v) w:=jl (h.ptAt i hi) c a e
theorem Tq{b o k:Nat}(h:SH I M K w J)(i:Nat)(hi:J i=.pt b o cs)(c:yV P T zs)(a:ρ x=.pointer (U ⟨b,o+k,bd⟩))(e:(cs.drop k).take (O zs)=vs)(hl:O vs=O zs)(f:k+O zs<=O cs):
 (bn ρ ⟨d,.load T x,ty,pos,af,g⟩).run P w=.ok (.value (.agg (ar vs))) w:=iZ (h.ptAt i hi) c a e hl f
theorem dE{b o k off:Nat}(j:fB P T k off)(c:ρ x=.pointer (U ⟨b,o,bd⟩)):
  (bn ρ ⟨d,.fieldAddr T x k,ty,pos,af,g⟩).run P w=.ok (.value (.pointer (U ⟨b,o+off,bd⟩))) w:=by
 obtain⟨fs,f,s,m,e,n,a⟩:=j.desc;obtain⟨i,hi,W⟩:∃i,P.info? f.type=U i/\i.size=s+1:=by
  cases hi:P.info? f.type with
  |none=>simp[hi]at a
  |some i=>simp[hi]at a;exact⟨i,Z,a⟩
 by_cases l:off=0<;>simp[bn,Instr.fieldAt,cF,m,e,c,km,fieldPlace,hQ,ee,hi,W,n,jH,l]
theorem qx{a:od}(b:ρ x=.pointer (U a)):(bn ρ ⟨d,.nilCheck x,ty,pos,af,g⟩).run P w=.ok (.value (.pointer (U a))) w:=by
 simp[bn,b]
variable{sz:Nat}{aq A:BS}{w1:ay}
theorem sH{R:uO α}(c:SliceOf P T E sz)(b:ρ x=v)(e:ek R w1 aq A v l):
  (bn ρ ⟨d,.call {callee:=.builtin .len,args:= #[x],argTypes:= #[T]},ty,pos,af,g⟩).run P w=.ok (.value (.int .i64 (O l))) w:=by
 obtain⟨a,cap,rfl,_⟩:=e;exact mW c b
theorem FW{s:vh}(c:P.underlying T=U .string)(a:ρ x=bJ s):
  (bn ρ ⟨d,.call {callee:=.builtin .len,args:= #[x],argTypes:= #[T]},ty,pos,af,g⟩).run P w=.ok (.value (.int .i64 (O s))) w:=by
 have b:(⟨ar s⟩:ByteArray).size=O s:=by simp[mu]
 simp[bn,jM,mA,mb,As,a,bJ,cF,c,goInt,b]
variable{k:Int}
theorem r_ix{R:uO α}{a:α}(p:SliceOf P T E R.sz)(q:ek R w1 aq A v l)(m:0<=k)(e:l[k.toNat]? =U a):
    ∃b o cs,(∀(ρ:bt->B) x y w d ty pos af g,ρ x=v->ρ y=.int .i64 k->(bn ρ ⟨d,.indexAddr T x y,ty,pos,af,g⟩).run P w=.ok (.value (.pointer (U ⟨b,o,bd⟩))) w)/\¬aq b/\At w1 b o cs/\R.rd w1 A cs a:=by
  have c:k.toNat<O l:=by
    rcases cG k.toNat (O l) with h|h
    · exact h
    · rw[bE h]at e;cases e
  obtain⟨a',cap,rfl,w0,K,Zs,u⟩:=q;obtain⟨b,o,cells,F,r,rfl,C,al,f⟩:=u k.toNat c;obtain⟨i,hi,W⟩:∃i,P.info? E=U i/\i.size=R.sz:=by
    have:=p.info;cases hi:P.info? E with
    |none=>simp[hi]at this
    |some i=>simp[hi]at this;exact⟨i,Z,this⟩
  have n:l[k.toNat]=a:=by rw[bl c]at e;exact dp e
  rw[n]at f;refine⟨b,o+k.toNat*R.sz,_,?_,C,⟨cells,F,r,al,by rw[R.len f]⟩,f⟩;intro ρ x y w d ty pos af g s t;simp only[bn,Bk,s,t,ks,cF,hQ,ee];have z:(⟨b,o,bd⟩:od).add (k.toNat*R.sz)=⟨b,o+k.toNat*R.sz,bd⟩:=by
    unfold jH;split
    · next hz=>rw[hz];rfl
    · rfl
  have j:k<(O l:Int):=by omega
  simp[p.desc,hi,W,m,j,z]
theorem SH.pt(h:SH I M K w J)(i:Nat)(c:¬kg J b)(a:At w b o cs):SH I M K w (cz J i (.pt b o cs)):=
 h.know i (λ_ h=>h) ⟨c,a⟩
variable{i:Nat}
theorem Uo{c:Chunk}(d:∀b,¬c.own' b):∀b,kg (cz J i c) b->kg J b:=by
  rintro b⟨j,a⟩;by_cases e:j=i
  · subst e;rw[dG]at a;exact ZL a (d b)
  · rw[iH e]at a;exact⟨j,a⟩
theorem ek.up{R:uO α}{c:Chunk}(h:bX R w (SH.A M J) v l)(d:∀b,¬c.own' b:=by exact λ_ h=>h):bX R w (SH.A M (cz J i c)) v l:=
 h.sub (λb a _=>a.imp id (Uo d b)) (λb a _=>a.imp id (Uo d b))
abbrev IxOk(P:cd)(T:bk)(v:B)(k:Int)(p:B):Prop:=∀(ρ:bt->B) x y w d ty pos af g,ρ x=v->ρ y=.int .i64 k->(bn ρ ⟨d,.indexAddr T x y,ty,pos,af,g⟩).run P w=.ok (.value p) w
theorem SH.ixR{R:uO α}{a:α}(h:SH I M K w J)(i j:Nat)(hi:J i=.rd R v l)(f:SliceOf P T E sz)(W:R.sz=sz)(c:0<=k)(n:l[k.toNat]? =U a):
  ∃b o cs,SH I M K w (cz J j (.pt b o cs))/\R.rd w (SH.A M J) cs a/\IxOk P T v k (.pointer (U ⟨b,o,bd⟩)):=by
 subst W;obtain⟨b,o,cs,g,d,p,m⟩:=r_ix f (h.dQ i hi) c n;exact⟨b,o,cs,h.pt j (λe=>d<|.inr e) p,m,g⟩
theorem SH.ixS{R:uO α}{a:α}(h:SH I M K w J)(i j:Nat)(hi:J i=.sr R v l)(e:SliceOf P T E sz)(W:R.sz=sz)(c:0<=k)(m:l[k.toNat]? =U a):
  ∃b o cs,SH I M K w (cz J j (.pt b o cs))/\R.rd w (SH.A M J) cs a/\IxOk P T v k (.pointer (U ⟨b,o,bd⟩)):=by
 subst W;obtain⟨b,o,cs,f,d,n,g⟩:=r_ix e (h.srAt i hi) c m;exact⟨b,o,cs,h.pt j d n,g,f⟩
def Wh(o:L B)(a:Int)(b:Nat):Prop:=(o=bd/\a=b)\/o=U (.int .i64 a)
def cut{α:Type}(l:H α)(a b:Int):H α:=(l.take b.toNat).drop a.toNat
theorem r_slv{R:uO α}{a b:Int}(N:SliceOf P T E R.sz)(hv:ek R w1 aq A v l)(ha:0<=a)(e:a<=b)(Zs:b<=O l):
    ∃u,(∀(ρ:bt->B) x (lo hi:L bt) w d ty pos af g,ρ x=v->Wh (lo.map ρ) a 0->Wh (hi.map ρ) b (O l)->(bn ρ ⟨d,.slice T x lo hi bd,ty,pos,af,g⟩).run P w=.ok (.value u) w)/\ek R w1 aq A u (cut l a b)/\(∀(n:ay) (q p:BS) (f:H α),ek R n q p v f->O f=O l->ek R n q p u (cut f a b)):=by
  obtain⟨a,rfl⟩:=ck ha;obtain⟨b,rfl⟩:=ck (by omega:0<=b);have e:a<=b:=by omega
  have Zs:b<=O l:=by omega
  obtain⟨ad,cap,rfl,M,S,K,z⟩:=hv;obtain⟨i,t,r⟩:∃i,P.info? E=U i/\i.size=R.sz:=by
    have:=N.info;cases hi:P.info? E with
    |none=>simp[hi]at this
    |some i=>simp[hi]at this;exact⟨i,Z,this⟩
  have m:b<=cap:=by omega
  refine⟨.slice (if cap=a then ad else ad.map (·.add (a*R.sz))) (b-a)<|cap-a,fun ρ x lo hi w d ty pos af g hx al C=>?_,?_⟩
  · have w0:(du bh (O l) cap (lo.map ρ) (hi.map ρ) bd).run P w=.ok (a,b,cap) w:=by
      have h0:(0:Int)<=(a:Int):=ke a;have a5:(0:Int)<=(b:Int):=ke b;have a0:(a:Int)<=(b:Int):=by omega
      have a1:(b:Int)<=(cap:Int):=by omega
      rcases al with⟨k,sc⟩|k<;>rcases C with⟨f1,f2⟩|f1
      · obtain rfl:a=0:=by omega
        obtain rfl:b=O l:=by omega
        simp[du,k,f1]
      · obtain rfl:a=0:=by omega
        simp[du,k,f1,eV,ks,m]
      · obtain rfl:b=O l:=by omega
        simp[du,k,f1,eV,ks,e]
      · simp[du,k,f1,eV,ks,e,m]
    simp only[bn,lx,me,cF,hx];simp[N.desc,w0,hQ,ee,t,r]
  suffices ZD:∀(n:ay) (q p:BS) (f:H α),ek R n q p (.slice ad (O l) cap) f->O f=O l->ek R n q p (.slice (if cap=a then ad else ad.map (·.add (a*R.sz))) (b-a) (cap-a)) (cut f a b)from⟨ZD _ _ _ l ⟨ad,cap,Z,M,S,K,z⟩ Z,ZD⟩
  · intro w1 aq A l⟨a2,ab,e0,M,S,K,z⟩a3;obtain⟨s,a4,y⟩:=Value.slice.inj e0;subst s;subst y;have Zs:b<=O l:=by omega
    have c:O (cut l a b)=b-a:=by simp[cut];omega
    refine⟨_,cap-a,by rw[c],by rw[c];omega,by omega,?_,?_⟩
    · intro hn;split at hn
      · omega
      · cases ad with
        |none=>have:=K Z;omega
        |some x=>simp at hn
    · intro j X;rw[c]at X;obtain⟨bb,o,cells,F,fz,k,sc,e3,e4⟩:=z (a+j) V;subst k;refine⟨bb,o+a*R.sz,cells,F,fz,?_,sc,e3,?_⟩
      · rw[Z4 V];simp only[dt,fb];unfold jH;split
        · next hz=>rw[hz];rfl
        · rfl
      · have:(cut l a b)[j]'(by rw[c];exact X)=l[a+j]'V:=by simp[cut]
        rw[this];rw[show o+a*R.sz+j*R.sz=o+(a+j)*R.sz by rw[cj,kj]];exact e4
theorem r_sl{R:uO α}{a b:Int}(f:SliceOf P T E R.sz)(j:ek R w1 aq A v l)(k:0<=a)(c:a<=b)(e:b<=O l):
  ∃u,(∀(ρ:bt->B) x (lo hi:L bt) w d ty pos af g,ρ x=v->Wh (lo.map ρ) a 0->Wh (hi.map ρ) b (O l)->(bn ρ ⟨d,.slice T x lo hi bd,ty,pos,af,g⟩).run P w=.ok (.value u) w)/\ek R w1 aq A u (cut l a b):=
 let ⟨u,m,i,_⟩:=r_slv f j k c e;⟨u,m,i⟩
abbrev SlOk(P:cd)(T:bk)(v:B)(a b:Int)(n:Nat)(u:B):Prop:=∀(ρ:bt->B) x (lo hi:L bt) w d ty pos af g,ρ x=v->Wh (lo.map ρ) a 0->Wh (hi.map ρ) b n->(bn ρ ⟨d,.slice T x lo hi bd,ty,pos,af,g⟩).run P w=.ok (.value u) w
theorem SH.slR{R:uO α}{a b:Int}(h:SH I M K w J)(i j:Nat)(hi:J i=.rd R v l)(f:SliceOf P T E sz)(W:R.sz=sz)(k:0<=a)(c:a<=b)(e:b<=O l):
  ∃u,SH I M K w (cz J j (.rd R u (cut l a b)))/\SlOk P T v a b (O l) u:=by
 subst W;obtain⟨u,g,d⟩:=r_sl f (h.dQ i hi) k c e;exact⟨u,h.aA j d,g⟩
theorem SH.slS{R:uO α}{a b:Int}(h:SH I M K w J)(i j:Nat)(hi:J i=.sr R v l)(f:SliceOf P T E sz)(W:R.sz=sz)(k:0<=a)(c:a<=b)(e:b<=O l):
  ∃u,SH I M K w (cz J j (.sr R u (cut l a b)))/\SlOk P T v a b (O l) u:=by
 subst W;obtain⟨u,g,d⟩:=r_sl f (h.srAt i hi) k c e;exact⟨u,h.know j (λ_ h=>h) d,g⟩
theorem r_allocN{zs:H B}(a:yV P T zs):(bn ρ ⟨d,.alloc T,ty,pos,af,g⟩).run P w=.ok (.value (.pointer (U ⟨w.heap.size,0,bd⟩))) (w.alloc (.cells (ar zs) T)):=by
 obtain⟨i,hi,b,W⟩:=YY a.info;simp[bn,Instr.alloc,mL,ee,hi,b,newVar,yb,vi,nF,-kn]
theorem r_alloc1(a:One P T z):(bn ρ ⟨d,.alloc T,ty,pos,af,g⟩).run P w=.ok (.value (.pointer (U ⟨w.heap.size,0,bd⟩))) (w.alloc (.cells #[z] T)):=by
 obtain⟨i,hi,b,W⟩:=YY a.info;simp[bn,Instr.alloc,mL,ee,hi,b,newVar,yb,a.cell,nF,-kn]
theorem r_box(a:ρ x=v):(bn ρ ⟨d,.box T x,ty,pos,af,g⟩).run P w=.ok (.value (.pointer (U ⟨w.heap.size,0,bd⟩))) (w.alloc (.cells v.cells T)):=by
 simp[bn,Instr.box,newVar,yb,a,nF,-kn]
theorem SH.newB(h:SH I M K w J)(i:Nat)(cs:H B)(T:bk):SH I M K (w.alloc (.cells (ar cs) T)) (cz J i (.blk w.heap.size cs)):=
 h.learn i (Grow.alloc _ _) (λb a=>py a.symm) ⟨T,Pt _ _⟩
theorem aK{zs:H B}(h:SH I M K w J)(i:Nat)(a:yV P T zs)(k:∀w' b,SH I M K w' (cz J i (.blk b zs))->WL P ops sc rest n (gp env d (.pointer (U ⟨b,0,bd⟩))) w'):WL P ops sc (⟨d,.alloc T,ty,pos,af,bd⟩::rest) n env w:=
 aC (r_allocN a) (k _ _ (h.newB i zs T))
theorem uy(h:SH I M K w J)(i:Nat)(a:One P T z)(k:∀w' b,SH I M K w' (cz J i (.blk b [z]))->WL P ops sc rest n (gp env d (.pointer (U ⟨b,0,bd⟩))) w'):WL P ops sc (⟨d,.alloc T,ty,pos,af,bd⟩::rest) n env w:=
 aC (r_alloc1 a) (k _ _ (h.newB i [z] T))
theorem fT(h:SH I M K w J)(i:Nat)(a:ev n env x=v)(c:v.cells=ar cs)(k:∀w' b,SH I M K w' (cz J i (.blk b cs))->WL P ops sc rest n (gp env d (.pointer (U ⟨b,0,bd⟩))) w'):WL P ops sc (⟨d,.box T x,ty,pos,af,bd⟩::rest) n env w:=
 aC (by rw[r_box a,c]) (k _ _ (h.newB i cs T))
theorem YZ{cs:Array B}(j:One P T z)(f:ρ x=.pointer (U ⟨b,o,bd⟩))(a:w.heap[b]? =U (.cells cs E (0,0)))(ho:o<cs.size)(k:ρ y=v)(e:v.oneCell'=bh):
  (bn ρ ⟨d,.store T x y,ty,pos,af,g⟩).run P w=.ok .skip (yA w b (.cells (cs.setIfInBounds o v) E (0,0))):=by
 obtain⟨i,hi,n,W⟩:=YY j.info;have l:w.cell? ⟨b,o,bd⟩=U cs[o]:=by simp[fh,a,ho]
 have m:w.frozen? ⟨b,o,bd⟩=false:=by simp[qX,a]
 have c:v.cells= #[v]:=by cases v<;>first|rfl|simp[db]at e
 rw[<-X7 a];simp only[bn,Bm,f,k,km,storeVar,c,hQ,ee];simp[hi,W,storeCells,run_store _ _ _ _ _ e,l,m,jH]
theorem Y0(e:yV P T zs)(c:ρ x=.pointer (U ⟨b,o,bd⟩))(a:w.heap[b]? =U (.cells (ar cs) E (0,0)))(j:ρ y=.agg (ar vs))(hl:O vs=O zs)(ho:o+O vs<=O cs)(f:∀v∈vs,v.oneCell'=bh):
  (bn ρ ⟨d,.store T x y,ty,pos,af,g⟩).run P w=.ok .skip (yA w b (.cells (ar (Q7 cs o vs)) E (0,0))):=by
 obtain⟨i,hi,k,W⟩:=YY e.info;have:=tr (P:=P) b o E vs 0 (ar cs) w a (by simpa using ho) f;simp only[bn,Bm,c,j,km,storeVar,vi,hQ,ee];simp[hi,W,hl,this,Od a,Q7]
theorem SH.putB{b:Nat}(h:SH I M K w J)(i:Nat)(hi:J i=.blk b cs)(a:H B)(E:bk):SH I M K (yA w b (.cells (ar a) E (0,0))) (cz J i (.blk b a)):=by
 have d:=h.pO i hi;obtain⟨e,d⟩:=d;exact h.step i (bF.yA _ _ _) (λx c _=>by rw[hi];exact c) (λx c _=>by rw[hi];exact c) ⟨E,wK (jf d)⟩
theorem fJ(h:SH I M K w J)(i:Nat)(a:H B)(hi:J i=.blk b cs)(f:One P T z)(c:ev n env x=.pointer (U ⟨b,o,bd⟩))(j:ev n env y=v)(ho:cs.set o v=a)(hl:mz o (O cs)=bh)(g:v.oneCell'=bh)(k:∀w',SH I M K w' (cz J i (.blk b a))->WL P ops sc rest n (gp env d gC) w'):
  WL P ops sc (⟨d,.store T x y,ty,pos,af,bd⟩::rest) n env w:=by
 obtain⟨E,e⟩:=h.pO i hi;refine BO (YZ f c e (by rw[px]at hl;simpa using hl) j g) (k _ ?_);have:=h.putB i hi a E;subst ho;simpa using this
theorem w_stN(h:SH I M K w J)(i:Nat)(a:H B)(hi:J i=.blk b cs)(g:yV P T zs)(e:ev n env x=.pointer (U ⟨b,o,bd⟩))(l:ev n env y=.agg (ar vs))(hl:O vs=O zs)(ho:Q7 cs o vs=a)(f:ly (o+O vs) (O cs)=bh)(j:∀v∈vs,v.oneCell'=bh)(k:∀w',SH I M K w' (cz J i (.blk b a))->WL P ops sc rest n (gp env d gC) w'):
  WL P ops sc (⟨d,.store T x y,ty,pos,af,bd⟩::rest) n env w:=by
 obtain⟨E,c⟩:=h.pO i hi;subst ho;exact BO (Y0 g e c l hl (gE f) j)<|k _<|h.putB i hi _ E
def VR(P:cd)(f:nd):Prop:=∃fn,P.funcs[f]? =U fn/\(fn.name== "runtime.NumGoroutine")=aw/\fn.body.isNone=aw
variable{f:nd}{first captured:Array B}
theorem r_call{xs:Array bt}{ts:Array bk}(l:VR P f)(c:ρ x=.func (.func f) first captured):
  (bn ρ ⟨d,.call {callee:=.value x,args:=xs,argTypes:=ts},ty,pos,af,g⟩).run P w=.ok (.enter f (first++xs.map ρ++captured)) w:=by
 obtain⟨fn,j,i,k⟩:=l;have b:¬fn.name= "runtime.NumGoroutine" :=by simpa using i
 have a:¬fn.body=none:=λe=>by simp[e]at k
 simp[bn,jM,c,Deferred.ofValue,mA,callFunc,j,b,a]
variable{args:H B}{R:td->ay->Prop}
theorem OJ{xs:Array bt}{ts:Array bk}(g:VR P f)(a:ev n env x=.func (.func f) first captured)(b:first.toList++xs.toList.map (ev n env)++captured.toList=args)(c:bp P f (ar args) w R)(h:∀e w',R e w'->∃v,e=.returned v/\WL P ops sc rest n (gp env d v) w'):
  WL P ops sc (⟨d,.call {callee:=.value x,args:=xs,argTypes:=ts},ty,pos,af,bd⟩::rest) n env w:=by
 refine wl_enter (r_call g a) ?_ h;have:first++xs.map (ev n env)++captured=ar args:=by
  rw[<-b];apply mS;simp
 rw[this];exact c
theorem VB{vs:H B}(b:ρ x=.tuple (ar vs))(a:vs[i]? =U v):(bn ρ ⟨d,.extract x i,ty,pos,af,g⟩).run P w=.ok (.value v) w:=by
 simp[bn,Instr.extract,b,a]
theorem mY{first captured:Array bt}{c1 c2:H B}(c:first.toList.map ρ=c1)(b:captured.toList.map ρ=c2):
  (bn ρ ⟨d,.makeFunc (.func f) first captured,ty,pos,af,g⟩).run P w=.ok (.value (.func (.func f) (ar c1) (ar c2))) w:=by
 have e:first.map ρ=ar c1:=by rw[<-c];apply mS;simp
 have a:captured.map ρ=ar c2:=by rw[<-b];apply mS;simp
 simp[bn,Instr.makeFunc,e,a]
variable{fn:Func}
theorem calls_start{c:Code}{n:Nat}(b:P.funcs[f]? =U fn)(a:fn.body=U c)(hn:fn.ntmps=n)(hl:O args<=n)(h:WC P c (kt P fn R) n (HR args) w):bp P f (ar args) w R:=by
 refine calls_of_wp b a ?_;rw[hn,act_init n args hl];exact h.out
theorem iB{t:Tmp}(b:fn.results= #[.tmp t])(a:ev n env (.tmp t)=v)(h:R (.returned v) w):kt P fn R .ret (DB n env) w:=by
 refine⟨Z,v,?_,h⟩;rw[results_tmp b];have:=congrFun (jB n env)<|.tmp t;rw[a]at this;exact ZS (λv=>wA v w) this
theorem fin0(a:fn.results= #[])(h:R (.returned (.tuple #[])) w):kt P fn R .ret (DB n env) w:=⟨rfl,_,results_none a _ _ _,h⟩
theorem Pv(a:fn.results= #[])(h:R (.returned (.tuple #[])) w):kt P fn R .normal (DB n env) w:=⟨rfl,_,results_none a _ _ _,h⟩
theorem fin2{t u:Tmp}{v1 v2:B}(d:fn.results= #[.tmp t,.tmp u])(e:ev n env (.tmp t)=v1)(c:ev n env (.tmp u)=v2)(h:R (.returned (.tuple #[v1,v2])) w):kt P fn R .ret (DB n env) w:=by
 refine⟨Z,_,?_,h⟩;rw[results_tmp2 d];have a:=congrFun (jB n env)<|.tmp t;have b:=congrFun (jB n env)<|.tmp u;rw[e]at a;rw[c]at b;simp only[ki]at a b;rw[a,b]
end
end
section
variable{α β σ ρ:Type}{r:ρ}{al:Prop}
theorem fV{b:YU}{X a:ρ}(W:cond b X a=r)(d:b=bh->X=r->al)(c:b=aw->a=r->al):al:=by
  cases b
  · exact c Z W
  · exact d Z W
theorem aR{o:L α}{f:α->L β}{r:β}(h:o.bind f=U r):∃x,o=U x/\f x=U r:=by
 cases o with
 |none=>cases h
 |some x=>exact⟨x,rfl,h⟩
def iC(p:Prop) [Decidable p](x:L β):L β:=if p then x else bd
theorem cK{p:Prop} [Decidable p]{x:L β}{r:β}(h:iC p x=some r):p/\x=some r:=by
  unfold iC at h;by_cases J:p
  · rw[Z3 J]at h;exact⟨J,h⟩
  · rw[Z4 J]at h;cases h
def vx(l:H α)(k:Int):L α:=if 0<=k then l[k.toNat]? else bd
theorem aM{l:H α}{k:Int}{x:α}(h:vx l k=U x):0<=k/\l[k.toNat]? =U x:=by
  unfold vx at h;by_cases J:0<=k
  · rw[Z3 J]at h;exact⟨J,h⟩
  · rw[Z4 J]at h;cases h
def sub?(l:H α)(a b:Int):L (H α):=if 0<=a/\a<=b/\b<=O l then U (cut l a b)else bd
theorem Hw{l:H α}{a b:Int}{x:H α}(h:sub? l a b=U x):x=cut l a b/\0<=a/\a<=b/\b<=O l:=by
  unfold sub? at h;by_cases J:0<=a/\a<=b/\b<=O l
  · rw[Z3 J]at h;cases h;exact⟨Z,J⟩
  · rw[Z4 J]at h;cases h
def j6(x:Int):Prop:= -9223372036854775808<=x/\x<=9223372036854775807
def i64b:Int->YU
 | .ofNat n=>ly n 9223372036854775807
 | .negSucc n=>ly n 9223372036854775807
theorem i64b_iff{x:Int}:i64b x=bh↔j6 x:=by
 unfold j6;cases x with
 |ofNat n=>simp[i64b,Nat.ble_eq];omega
 |negSucc n=>simp[i64b,Nat.ble_eq];omega
instance (x:Int):Decidable (j6 x):=decidable_of_iff (i64b x=bh) i64b_iff
theorem j6.mk{x:Int}(a: -9223372036854775808<=x)(b:x<=9223372036854775807):j6 x:=⟨a,b⟩
def vq(body:α->σ->(σ->ρ)->ρ)(k:σ->ρ):H α->σ->ρ
 |[],s=>k s
 |x::r,s=>body x s (vq body k r)
def ic(body:Int->α->σ->(σ->ρ)->ρ)(k:σ->ρ):Int->H α->σ->ρ
 |_,[],s=>k s
 |i,x::r,s=>body i x s (ic body k (i+1) r)
def Ax(body:Int->σ->(σ->ρ)->ρ)(k:σ->ρ):Int->Nat->σ->ρ
 |_,0,s=>k s
 |i,m+1,s=>body i s (Ax body k (i+1) m)
def again(body:σ->(σ->L β)->L β):Nat->σ->L β
 |0,_=>bd
 |n+1,s=>body s (again body n)
end
section
variable{P:cd}{sc:gd->Act->ay->Prop}{n:Nat}{env:Nat->B}{w:ay}{x y:Code}
theorem eX{ρ:Type}{r X a:ρ}{c:bt}{b:YU}(W:cond b X a=r)(f:ev n env c=.bool b)(e:b=bh->X=r->WC P x sc n env w)(d:b=aw->a=r->WC P y sc n env w):
 WC P (uG c x y) sc n env w:=wI f (λh=>e h (by rw[h]at W;exact W)) (λh=>d h (by rw[h]at W;exact W))
def JL{σ:Type}(n:Nat)(mod:Nat->YU)(HR:Nat->B)(live:σ->H (Nat×B))(hp:σ->ay->Prop)(μ:σ->Nat)(s0:σ):Act->ay->Prop:=
 λa' w'=>∃s e,a'=DB n e/\Bb mod e HR/\DH e (live s)/\hp s w'/\μ s<μ s0
theorem I3{σ:Type}{c:Code}(mod:Nat->YU)(live:σ->H (Nat×B))(hp:σ->ay->Prop)(μ:σ->Nat)(s0:σ)
 (hl:DH env (live s0)) (e:hp s0 w)
 (a:∀s b d,hp s b->WC P c (Exit.then (JL n mod env live hp μ s) sc) n (J9 (YS mod d env) (live s)) b):
 WC P (zt c) sc n env w:=wc_loop mod live hp μ s0 hl e a
end
section
variable{K:Act->ay->Prop}{sc:gd->Act->ay->Prop}{a:Act}{w:ay}{i j:Nat}
theorem aL(h:K a w):Exit.then K sc .normal a w:=h
theorem iL(h:sc .ret a w):Exit.then K sc .ret a w:=h
theorem U9(h:sc (.exit i) a w):Exit.then K sc (.exit i) a w:=h
theorem fZ(h:sc .normal a w):kq i sc .normal a w:=h
theorem mX(h:sc .ret a w):kq i sc .ret a w:=h
theorem lh(h:sc .normal a w):kq i sc (.exit i) a w:=by simp only[kq,if_true];exact h
theorem H9(hn:¬j=i)(h:sc (.exit j) a w):kq i sc (.exit j) a w:=by simp only[kq,Z4 hn];exact h
end
section
variable{mod:Nat->YU}{e entry:Nat->B}{d:Nat}{v:B}
theorem Bb.os(a:mod d=bh)(h:Bb mod e entry):Bb mod (gp e (U d) v) entry:=Bb.upd a h
theorem Bb.on(h:Bb mod e entry):Bb mod (gp e bd v) entry:=h
theorem Bb.uc{l:H (Nat×B)}(a:mod d=bh)(h:Bb mod (J9 e l) entry):Bb mod (J9 e ((d,v)::l)) entry:=Bb.upd a h
theorem Bb.un(h:Bb mod e entry):Bb mod (J9 e []) entry:=h
end
def inl(l:H Nat)(i:Nat):YU:=match l with|[]=>aw|a::r=>bif hR i a then bh else inl r i
def subl(l m:H Nat):YU:=match l with|[]=>bh|a::r=>bif inl m a then subl r m else aw
theorem subl_inl{m:H Nat}:∀{l:H Nat},subl l m=bh->∀i,inl l i=bh->inl m i=bh
 |[],_,i,h=>by simp[inl]at h
 |a::r,W,i,h=>by
  unfold subl at W;unfold inl at h;cases ha:inl m a with
  |false=>simp[ha]at W
  |true=>
   simp only[ha,Z1]at W;cases hb:hR i a with
   |true=>have:=iz hb;subst this;exact ha
   |false=>simp only[hb,Z2]at h;exact subl_inl W i h
theorem Bb.hin{l m:H Nat}{j e entry:Nat->B}(W:subl l m=bh)(h:Bb (inl m) e entry):Bb (inl m) (LX.YS (inl l) j e) entry:=λi hi=>by
 have:inl l i=false:=by
  cases hc:inl l i with
  |false=>rfl
  |true=>rw[subl_inl W i hc]at hi;cases hi
 simp only[LX.YS,this,Z2];exact h i hi
open Go.RowKit
section
variable{α:Type}{R:uO α}{w:ay}
theorem ek.row{aq A:BS}{v:B}{l:H α}(h:ek R w aq A v l):
    (v=.slice bd 0 0/\l=[])\/∃(a:od) (cap:Nat) (news:H B),v=.slice (U a) (O l) cap/\O news=O l*R.sz/\(∀j u,news[j]? =U u->w.cell? (a.add j)=U u)/\(∀u∈news,u.oneCell'=bh)/\
      ∀i (h:i<O l),R.rd w A ((news.drop (i*R.sz)).take R.sz) l[i]:=by
  obtain⟨a,cap,rfl,al,Zs,z,r⟩:=h;cases a with
  |none=>
    have t:=z Z;subst t;have hl:l=[]:=cA V;subst hl;exact .inl ⟨Z,Z⟩
  |some a=>
    right;by_cases hl:O l=0
    · have:l=[]:=cA hl;subst this;exact⟨a,cap,[],Z,by simp,λj u h=>by simp at h,λu h=>by simp at h,λi h=>ZL h<|ir _⟩
    · obtain⟨b,o,cells,E,F,p,K,s,C⟩:=r 0 V;cases p;have e:∀i (hi:i<O l),R.rd w A ((cells.toList.drop<|o+i*R.sz).take R.sz) l[i]:=by
        intro i hi;obtain⟨b',w0,m,N,x,p,_,f,n⟩:=r i hi;cases p;rw[s]at f;cases f;exact n
      have d:=R.len<|e (O l-1) V;simp only[cf,cQ,cx]at d;have g:=R.pos;have q:o+O l*R.sz<=cells.size:=by
        have M:O l*R.sz=(O l-1)*R.sz+R.sz:=by
          conv=>lhs;rw[show O l=(O l-1)+1 by omega]
          rw[cj,ti]
        omega
      refine⟨⟨b,o,bd⟩,cap,(cells.toList.drop o).take<|O l*R.sz,Z,?_,?_,?_,?_⟩
      · simp only[cf,cQ,cx];omega
      · intro j u c;rw[ca]at c;split at c
        · rw[ct]at c;have y:(⟨b,o,bd⟩:od).add j=⟨b,o+j,bd⟩:=by unfold jH;split<;>simp_all
          rw[y];simpa[fh,s]using c
        · cases c
      · intro u c;obtain⟨j,k⟩:=List.getElem?_of_mem c;rw[ca]at k;split at k
        · next hlt=>
          rw[ct]at k;have hi:j / R.sz<O l:=qE (by rw[mT];exact hlt);refine R.one (e (j / R.sz) hi) u<|List.mem_of_getElem? (i:=j%R.sz) ?_;rw[ca,Z3 (pA _ g),ct];rw[show o+j / R.sz*R.sz+j%R.sz=o+j by rw[kj,Nat.div_add_mod' j R.sz]];exact k
        · cases k
      · intro i hi;rw[et,eg,pZ,cX]
        · exact e i hi
        · have:(i+1)*R.sz<=O l*R.sz:=bj _ hi;rw[cj]at this;omega
theorem SP(c:H B):∀(cells:Array B) (o:Nat),o+O c<=cells.size->
  (c.zipIdx.foldl (λcs(p:B×Nat)=>cs.setIfInBounds (o+p.2) p.1) cells).toList=Q7 cells.toList o c:=by
 suffices ZD:∀(k:Nat) (cells:Array B) (o:Nat),o+k+O c<=cells.size->
   ((c.zipIdx k).foldl (λcs(p:B×Nat)=>cs.setIfInBounds (o+p.2) p.1) cells).toList=Q7 cells.toList (o+k) c by
  intro cells o h;have:=ZD 0 cells o (by simpa using h);simpa using this
 induction c with
 |nil=>intro k cells o h;simp[Q7]
 |cons x r ih=>
  intro k cells o h;simp only[br]at h;rw[zu,List.foldl_cons,ih (k+1) _ o (by simp;omega)];simp only[na,Q7];rw[show o+(k+1)=o+k+1 by omega];apply cP;intro i;simp only[cg,js,cf,cp,cx,ca,fL,ct,br,List.getElem?_cons]
  grind
variable{sz:Nat}
theorem IS(j:0<sz):∀(vs:H B) (k:Nat) (cells:Array B),(∀v∈vs,v.cells.size=sz)->(k+O vs)*sz<=cells.size->
    ∃out,nb (λi=>U (i*sz,sz)) cells ((vs.zipIdx k).map λp=>(p.2,p.1))=U out/\out.toList=Q7 cells.toList (k*sz) (vs.map λv=>v.cells.toList).flatten
  |[],k,cells,_,_=>⟨cells,rfl,by simp[Q7]⟩
  |v::r,k,cells,hv,W=>by
    have b:v.cells.size=sz:=hv v C7;simp only[br]at W;have f:(k+1+O r)*sz<=cells.size:=by rw[show k+1+O r=k+(O r+1) by omega];exact W
    have m:k*sz+sz<=cells.size:=by
      have:(k+1)*sz<=(k+1+O r)*sz:=bj _ V;rw[cj,ti]at this;omega
    have n:=SP v.cells.toList cells (k*sz) (by rw[cx,b];exact m);let c2:=v.cells.zipIdx.foldl (λcs(p:B×Nat)=>cs.setIfInBounds (k*sz+p.2) p.1) cells;have a:c2.toList=Q7 cells.toList (k*sz) v.cells.toList:=by
      rw[<-n];show(v.cells.zipIdx.foldl _ cells).toList=_;rw[<-wb,vy]
    have d:c2.size=cells.size:=by
      have:=ZS O a;simp only[Q7,bm,cf,cQ,cx]at this;omega
    obtain⟨out,g,e⟩:=IS j r (k+1) c2 (λx l=>hv x (by simp[l])) (by rw[d];exact f);refine⟨out,?_,?_⟩
    · rw[zu,cr];unfold nb;simp only[b,ne_eq,not_true_eq_false,decide_false,Bool.false_or];rw[Z4 (by simp;omega)];exact g
    · rw[e,a];simp only[cr,oe,Q7];rw[show(k+1)*sz=k*sz+sz by rw[cj,ti]];have o:O v.cells.toList=sz:=by rw[cx,b]
      generalize v.cells.toList=c at*;generalize (r.map λv=>v.cells.toList).flatten=q;apply cP;intro i;simp only[cg,js,cf,cx,bm,ca,ct,cQ]
      grind
def Oe{α:Type}(R:uO α)(w:ay)(A:BS):H B->H α->Prop
 |[],[]=>True
 |v::vs,x::xs=>R.rd w A v.cells.toList x/\Oe R w A vs xs
 |_,_=>False
variable{A:BS}
theorem Oe.len:∀{vs:H B} {xs:H α},Oe R w A vs xs->O vs=O xs
 |[],[],_=>rfl
 |v::vs,x::xs,h=>by simp[Oe.len h.2]
 |[],_::_,h=>h.elim
 |_::_,[],h=>h.elim
theorem Oe.sizes:∀{vs:H B} {xs:H α},Oe R w A vs xs->∀v∈vs,v.cells.size=R.sz
  |[],[],_=>by simp
  |v::vs,x::xs,h=>by
    intro u a;rcases bs.1 a with rfl|a
    · have:=R.len h.1;simpa using this
    · exact Oe.sizes h.2 u a
  |[],_::_,h=>h.elim
  |_::_,[],h=>h.elim
theorem flat_len:∀{vs:H B},(∀v∈vs,v.cells.size=sz)->O (vs.map λv=>v.cells.toList).flatten=O vs*sz
 |[],_=>by simp
 |v::r,h=>by
  have b:=h v C7;have a:=flat_len λu c=>h u<|bo _ c;simp only[cr,oe,bm,a,cx,b,br,cj];omega
theorem Oe.at:∀{vs:H B} {xs:H α},Oe R w A vs xs->∀i (h:i<O xs),R.rd w A (((vs.map λv=>v.cells.toList).flatten.drop (i*R.sz)).take R.sz) xs[i]
 |[],[],_,i,h=>ZL h (ir _)
 |v::vs,x::xs,h,i,hi=>by
  have a:O v.cells.toList=R.sz:=R.len h.1;cases i with
  |zero=>
   simp only[cr,oe,vj,fF,List.getElem_cons_zero];rw[de V,ku V];exact h.1
  |succ i=>
   have:=Oe.at h.2 i (by simpa using hi);simp only[cr,oe,List.getElem_cons_succ];rw[lz,cC (by rw[a,cj];omega),cc,a,show(i+1)*R.sz-R.sz=i*R.sz by rw[cj];omega];exact this
 |[],_::_,h,_,_=>h.elim
 |_::_,[],h,_,_=>h.elim
end
class Struct (P:cd) (T:bk) (zs:outParam (H B)) (pl:outParam (H (Nat×Nat))):Prop where
  zero:(P.info? T).map (·.zero)=U (U (.agg (ar zs)))
  desc:∃fs,P.underlying T=U (.struct fs)/\fs.toList.map (λf=>(f.offset,(P.info? f.type).map (·.size)))=pl.map (λp=>(p.1,U p.2))
def X6(b:H (Nat×Nat))(cs:H B):H (Nat×B)->H B->Prop
 |[],out=>cs=out
 |(i,v)::r,out=>∃off a vs,b[i]? =U (off,a)/\v.cells.toList=vs/\O vs=a/\off+a<=O cs/\X6 b (Q7 cs off vs) r out
theorem fill_ok{f:H (Nat×Nat)}:∀{parts:H (Nat×B)} {cs out:H B},X6 f cs parts out->nb (λi=>f[i]?) (ar cs) parts=U (ar out)
 |[],cs,out,h=>by cases h;rfl
 |(i,v)::r,cs,out,h=>by
  obtain⟨off,a,vs,j,c,e,k,g⟩:=h;unfold nb;simp only[j];have b:v.cells.size=a:=by rw[<-e,<-c,cx]
  rw[Z4 (by simp[b];omega)];have l:=SP vs (ar cs) off (by rw[e];simpa using k);have:(v.cells.zipIdx.foldl (λcs(p:B×Nat)=>cs.setIfInBounds (off+p.2) p.1) (ar cs))=ar (Q7 cs off vs):=by
   apply mS;rw[<-wb,vy,c];exact l
  have d:=fill_ok g;rw[<-this]at d;exact d
section
variable{P:cd}{ops:Array ec}{sc:gd->Act->ay->Prop}{n:Nat}{env:Nat->B}{w w' I:ay}{M K:BS}{J:Nat->Chunk}{rest:H ec}
 {d:L Nat} {op:Op} {ty:bk} {pos:String} {af:Array hX} {v:B} {g:L (Nat×YU)} {T:bk} {ρ:bt->B} {x y:bt}
theorem ED(h:w.grownBy w' v.ownBlock):bF (ob v) w w':=
 ⟨h.os,h.tape,h.output,h.size,λb a hl=>h.block b hl (λe=>a (ob_row.2 e.symm))⟩
section
variable{E:bk}{sz bytes:Nat}
theorem Wi{a:L od}{l c:Nat}(b:lK P T E sz bytes)(e:ρ x=.slice a l c)(hl:l<=c)(f:ρ y=.slice bd 0 0):
  (bn ρ ⟨d,.call {callee:=.builtin .append,args:= #[x,y],argTypes:= #[T,T]},ty,pos,af,g⟩).run P w=.ok (.value (.slice a l c)) w:=by
 obtain⟨i,z,hi,j,W,_,_⟩:=b.info;cases a<;>simp[bn,jM,mA,mb,e,f,jy,cF,b.desc,hQ,ee,hi,tt,hl,qS,storeCells]
variable{α:Type}{R:uO α}{u:B}
theorem WD{A:BS}{l m:H α}(o:lK P T E sz bytes)(W:R.sz=sz)(S:ρ x=v)(hv:dz R E w A v l)(hy:ρ y=u)(hu:ek R w BE A u m)(hA:∀b,ob v b->A b)(a:(O l+O m)*bytes<=140737488355328)(hm:O l+O m<=9223372036854775807):
    ∃p w',(bn ρ ⟨d,.call {callee:=.builtin .append,args:= #[x,y],argTypes:= #[T,T]},ty,pos,af,g⟩).run P w=.ok (.value p) w'/\dz R E w' A p (l++m)/\bF (ob v) w w'/\(∀b,ob p b->b<w.heap.size->ob v b):=by
  subst W;have ab:=hv;obtain⟨xs,t,h3⟩:=hv;rcases hu.row with⟨rfl,rfl⟩|⟨ad,c,news,rfl,n1,n2,n3,n4⟩
  · have hw:(bn ρ ⟨d,.call {callee:=.builtin .append,args:= #[x,y],argTypes:= #[T,T]},ty,pos,af,g⟩).run P w=.ok (.value v) w:=by
      rcases t.2 with⟨rfl,hn⟩|⟨gg,cap,cur,rfl,_,_,hc,_⟩
      · exact Wi o S (cl _) hy
      · exact Wi o S hc hy
    exact⟨v,w,hw,by simpa using ab,bF.refl _ _,λ_ a _=>a⟩
  · obtain⟨i,z,hi,N,W,q,Zs⟩:=o.info;obtain⟨p,w',k,F,hg,_⟩:=run_append_own (P:=P) w 0 T ty E i z R.sz bytes o.desc hi N W q Zs R.pos v (O l) xs t ad (O m) c news n1 n2 n3 (by unfold mC;omega) a (gk _);have hk:=ED hg;have n:∀b,ob p b->b<w.heap.size->ob v b:=by
      rcases t.2 with⟨rfl,hn⟩|⟨gg,cap,cur,rfl,_,hgg,hc,hcm,hcs,htake⟩
      · by_cases K:O m=0
        · have r:news=[]:=cA (by rw[n1,K];simp);subst r;have e:(jy #[T,T] ty #[.slice bd 0 0,.slice (U ad) (O m) c]).run P w=.ok (.slice bd 0 0) w:=by
            simp[jy,cF,o.desc,hQ,ee,hi,tt,K,qS,loadCells,loadCellsFrom]
          rw[e]at k;cases k;exact λb a _=>a
        · have e:=run_append_nil (P:=P) w T ty E i z o.desc hi N ad (O m) c news (by rw[W];exact n1) n2 V V (by rw[q];have:=a;rw[cj]at this;omega);rw[e]at k;cases k;intro b a hl;simp[ob]at a;omega
      · by_cases f:O l+O m<=cap
        · have aq:O l*i.size+O news<=cur.size:=by rw[n1,W,hcs,<-cj];exact bj _ f
          have e:=run_append_room (P:=P) w T ty E i o.desc hi gg (O l) cap cur hgg ad (O m) c news (by rw[W];exact n1) n2 n3 f aq;rw[e]at k;cases k;exact λb a _=>a
        · have holds:∀j u,xs[j]? =U u->w.cell? ((⟨gg,0,bd⟩:od).add j)=U u:=t.cells (g:=gg) Z;have e:=run_append_grow (P:=P) w T ty E i z o.desc hi N ⟨gg,0,bd⟩ (O l) cap xs (by rw[W];exact t.1) holds ad (O m) c news (by rw[W];exact n1) n2 V V (growslice_fits V (by rw[q];exact a));rw[e]at k;cases k;intro b a hl;simp[ob]at a;omega
    have al:(bn ρ ⟨d,.call {callee:=.builtin .append,args:= #[x,y],argTypes:= #[T,T]},ty,pos,af,g⟩).run P w=.ok (.value p) w':=by
      simp only[bn,jM,mA,mb,cD,cR,bT,hS,cr,jt,S,hy,k]
    refine⟨p,w',al,⟨xs++news,by rw[bm];exact F,?_⟩,hk,n⟩;intro i sc;have C:=t.1;have w0:∀b,A b\/ob p b->b<w.heap.size->A b\/ob v b:=λb a hl=>a.imp id λa=>n b a hl;by_cases s:i<O l
    · have X:=R.go (h3 i s) hk (λb a _=>.inr a) w0;have M:(i+1)*R.sz<=O l*R.sz:=bj _ s;rw[cj]at M;rw[fm s,ia V,de (by rw[cQ];omega)];exact X
    · rw[bm]at sc;have X:=R.go (n4 (i-O l) V) hk (λb a _=>hA b a) λb a hl=>(w0 b a hl).elim id<|hA b;rw[gD V,lz,cC (by rw[C];exact bj _ V),cc,C,<-tj];exact X
theorem SH.xX(h:SH I M K w J)(i:Nat):SH I M K w (cz J i (.own R E (.slice bd 0 0) ([]:H α))):=
 h.learn i (bF.refl BE w) (λ_ h=>h.elim) dz.nil
theorem jm{l m:H α}(h:SH I M K w J)(i:Nat)(hi:J i=.own R E v l)(r:ek R w BE (SH.A M J) u m)(p:lK P T E sz bytes)(W:R.sz=sz)(j:ev n env x=v)(q:ev n env y=u)(a:(O l+O m)*bytes<=140737488355328)(e:O l+O m<=9223372036854775807)(k:∀w' c,SH I M K w' (cz J i (.own R E c (l++m)))->WL P ops sc rest n (gp env d c) w'):
    WL P ops sc (⟨d,.call {callee:=.builtin .append,args:= #[x,y],argTypes:= #[T,T]},ty,pos,af,bd⟩::rest) n env w:=by
  obtain⟨c,w',f,o,t,s⟩:=WD (d:=d) (ty:=ty) (pos:=pos) (af:=af) (g:=bd) p W j (h.bW i hi) q r (λb a=>.inr ⟨i,by rw[hi];exact a⟩) a e;refine aC f (k w' c (h.step i t (λb a _=>by rw[hi];exact a) (λb a hl=>by rw[hi];exact s b a hl) ?_));refine dz.go o (bF.refl BE w') (λ_ h=>h.elim) (λ_ h=>h.elim) λb a _=>?_;rcases a with a|a|a
  · exact .inl<|.inl a
  · exact .inl<|.inr<|nQ a
  · exact .inr a
variable{parts:Array (Nat×bt)}{len:Nat}{vs:H B}{xs:H α}
theorem run_bs{A:BS}(F:lK P T E sz bytes)(W:R.sz=sz)(ab:(parts.toList.map λp=>(p.1,ev n env p.2))=vs.zipIdx.map λp=>(p.2,p.1))(y:O vs=len)(aq:Oe R w A vs xs)(X:∀b,A b->b<w.heap.size)(S:len*sz<=16777216):
    ∃u w',(bn (ev n env) ⟨d,.buildSlice T len parts,ty,pos,af,g⟩).run P w=.ok (.value u) w'/\Grow w w'/\dz R E w' A u xs/\∀b,ob u b->w.heap.size=b:=by
  subst W;subst y;obtain⟨i,z,hi,M,o,N,Zs⟩:=F.info;have c:=aq.sizes;have l:=aq.len;let zero:Array Value:=if O vs*R.sz=0 then #[]else z.cells
  let a:Array Value:=(pP (O vs*R.sz)).map (zero[· %zero.size]!);have e:a.size=O vs*R.sz:=by simp[a]
  obtain⟨out,s,al⟩:=IS R.pos vs 0 a c (by rw[e];simp);have f:=flat_len c;have m:out.toList=(vs.map λv=>v.cells.toList).flatten:=by
    rw[al,vj];simp only[Q7,List.take_zero,cc,hJ];rw[cC (by rw[cx,e,f];omega),List.append_nil]
  have j:out.size=O vs*R.sz:=by rw[<-cx,m,f]
  have t:(parts.map λp=>(p.1,ev n env p.2)).toList=vs.zipIdx.map λp=>(p.2,p.1):=by simpa using ab
  have r:(bn (ev n env) ⟨d,.buildSlice T (O vs) parts,ty,pos,af,g⟩).run P w=.ok (.value<|.slice (U ⟨w.heap.size,0,bd⟩) (O vs) (O vs)) (w.alloc<|.cells out E):=by
    simp only[bn,Instr.buildSlice,cF,hQ,ee];have w0:¬(O vs*R.sz>2 ^ 24):=by omega
    by_cases q:O vs*R.sz=0
    · simp only[cD,gf,bT,F.desc,cR,hi,o,wc,q,if_true];have:out= #[]:=Array.eq_empty_of_size_eq_zero (by rw[j,q]);have K:nb (λi=>U (i*R.sz,R.sz)) ((pP 0).map λx=>(#[]:Array B)[x%(#[]:Array B).size]!) (parts.map λp=>(p.1,ev n env p.2)).toList=U out:=by
        rw[t];have:a=(pP 0).map (λx=>(#[]:Array B)[x%(#[]:Array B).size]!):=by simp[a,q]
        rw[<-this];exact s
      rw[K];simp[yb,nF,-kn]
    · simp only[cD,gf,bT,F.desc,cR,hi,o,wc,Z4 w0,q,if_false,mL,ee,M];have K:nb (λi=>U (i*R.sz,R.sz)) ((pP<|O vs*R.sz).map λx=>z.cells[x%z.cells.size]!) (parts.map λp=>(p.1,ev n env p.2)).toList=U out:=by
        rw[t];have:a=(pP<|O vs*R.sz).map (λx=>z.cells[x%z.cells.size]!):=by simp[a,zero,q]
        rw[<-this];exact s
      rw[K];simp[yb,nF,-kn]
  refine⟨_,_,r,Grow.alloc _ _,⟨out.toList,⟨by rw[cx,j,l],.inr ⟨w.heap.size,O vs,out,by rw[l],gk _,Pt _ _,by omega,?_,j,?_⟩⟩,?_⟩,?_⟩
  · unfold mC;have:O vs<=O vs*R.sz:=pf _ R.pos;omega
  · rw[ku];rw[cx,j,l];exact cl _
  · intro i C;have sc:=R.go (A':=λb=>A b\/ob (.slice (U ⟨w.heap.size,0,bd⟩) (O vs) (O vs)) b) (aq.at i C) (Grow.alloc w (.cells out E)) (λ_ h=>h.elim) (λb k hl=>by
      rcases k with k|k
      · exact k
      · simp[ob]at k;omega)
    rw[m];exact sc
  · intro b k;simp[ob]at k;exact k.symm
theorem uP(h:SH I M K w J)(i:Nat)(j:lK P T E sz bytes)(W:R.sz=sz)(e:(parts.toList.map λp=>(p.1,ev n env p.2))=vs.zipIdx.map λp=>(p.2,p.1))(a:O vs=len)(r:Oe R w (SH.A M J) vs xs)(c:ly (len*sz) 16777216=bh)(k:∀w' u,SH I M K w' (cz J i (.own R E u xs))->WL P ops sc rest n (gp env d u) w'):
  WL P ops sc (⟨d,.buildSlice T len parts,ty,pos,af,bd⟩::rest) n env w:=by
 obtain⟨u,w',m,f,q,o⟩:=run_bs (d:=d) (ty:=ty) (pos:=pos) (af:=af) (g:=bd) j W e a r h.lt<|gE c;exact aC m<|k w' u<|h.wJ i f q λb l=>py<|o b l
theorem run_places{P:cd}{w:ay}:∀(fs:H Field) (a:H (Nat×Nat)),fs.map (λf=>(f.offset,(P.info? f.type).map (·.size)))=a.map (λp=>(p.1,U p.2))->
    (fs.mapM (m:=Sem) λf=>do pure (f.offset,<-hQ f.type)).run P w=.ok a w
  |[],[],_=>rfl
  |[],_::_,h=>by simp at h
  |_::_,[],h=>by simp at h
  |f::fs,p::a,h=>by
    simp only[cr,List.cons.injEq,ie]at h;obtain⟨⟨d,b⟩,e⟩:=h;have c:=run_places (w:=w) fs a e;obtain⟨i,hi,W⟩:∃i,P.info? f.type=U i/\i.size=p.2:=by
      cases hi:P.info? f.type with
      |none=>simp[hi]at b
      |some i=>simp[hi]at b;exact⟨i,Z,b⟩
    rw[ra];simp only[cD,hQ,ee,gf,bT,hi,cR,W,d];simp only[hQ,ee]at c;rw[c];simp
theorem lD{zs out:H B}{b:H (Nat×Nat)}{pv:H (Nat×B)}(n:Struct P T zs b)(J:(parts.toList.map λp=>(p.1,ρ p.2))=pv)(r:X6 b zs pv out):
  (bn ρ ⟨d,.build T parts,ty,pos,af,g⟩).run P w=.ok (.value (.agg (ar out))) w:=by
 obtain⟨fs,k,c⟩:=n.desc;obtain⟨i,hi,o⟩:∃i,P.info? T=U i/\i.zero=U (.agg (ar zs)):=by
  have:=n.zero;cases hi:P.info? T with
  |none=>simp[hi]at this
  |some i=>simp[hi]at this;exact⟨i,Z,this⟩
 have q:=run_places (w:=w) fs.toList b c;have j:(fs.mapM (m:=Sem) λf=>do pure (f.offset,<-hQ f.type)).run P w=.ok (ar b) w:=by
  rw[Array.mapM_eq_mapM_toList];simp only[Sem.run_map,q,bT]
 have l:(parts.map λp=>(p.1,ρ p.2)).toList=pv:=by rw[<-J];simp
 have a:=fill_ok r;simp only[bn,Instr.build,mL,ee,cF];simp only[cD,gf,bT,hi,cR,o,k,j,l,vi];have e:(fun(x:Nat)=>(ar b)[x]?)=fun(i:Nat)=>b[i]? :=by funext x;simp
 rw[e,a];simp
def isNil:B->YU| .slice bd _ _=>bh|_=>aw
variable{aq A:BS}{l:H α}
theorem Dm{T2 E:bk}{sz:Nat}{w1:ay}(f:SliceOf P T E sz)(e:ρ x=v)(i:ek R w1 aq A v l)(j:ρ y=.slice bd 0 0):(bn ρ ⟨d,.binOp .eql T x y T2,ty,pos,af,g⟩).run P w=.ok (.value (.bool (isNil v))) w:=by
 obtain⟨a,cap,rfl,m,k,o,n⟩:=i;have b:∀a l c,(tW Op.maxDepth T (.slice a l c)<|.slice bd 0 0).run P w=.ok a.isNone w:=by
  intro a l c;show(tW (9999+1) T (.slice a l c)<|.slice bd 0 0).run P w=_;unfold tW;simp only[cD,cF,gf,bT,f.desc,cR];cases a<;>simp
 cases a<;>simp[bn,e,j,fN,nD,isNil,Op.equal,b]
theorem qj(b:ek R w aq A v l)(h:isNil v=bh):v=.slice bd 0 0/\l=[]:=by
 obtain⟨a,cap,rfl,e,d,c,f⟩:=b;cases a with
 |none=>
  have:=c Z;subst this;have hl:O l=0:=by omega
  exact⟨by rw[hl],cA hl⟩
 |some a=>simp[isNil]at h
variable{k:Int}{a:α}
theorem SH.p9{b:Nat}(h:SH I M K w J)(i:Nat)(hi:J i=.own R E v l)(j:ob v b)(f:l[k.toNat]? =U a):
    ∃cs,At w b (k.toNat*R.sz) cs/\R.rd w (SH.A M J) cs a:=by
  have c:k.toNat<O l:=by
    rcases cG k.toNat (O l) with h|h
    · exact h
    · rw[bE h]at f;cases f
  have g:l[k.toNat]=a:=by rw[bl c]at f;exact dp f
  obtain⟨a',cap,rfl,s,r,t,p⟩:=h.cZ i hi;obtain⟨b',o,cells,F,m,rfl,_,n,d⟩:=p k.toNat c;have:b=b':=j;subst this;have ho:o=0:=by
    obtain⟨xs,q,_⟩:=h.bW i hi;rcases q.2 with⟨e,_⟩|⟨_,_,_,e,_⟩
    · cases e
    · cases e;rfl
  subst ho;rw[g]at d;rw[hJ]at d;exact⟨_,⟨cells,F,m,n,by rw[R.len d]⟩,d⟩
theorem SH.Tn{sz:Nat}(h:SH I M K w J)(i:Nat)(hi:J i=.own R E v l)(f:SliceOf P T E sz)(W:R.sz=sz)(e:0<=k)(j:l[k.toNat]? =U a):
    ∃b,ob v b/\IxOk P T v k (.pointer (U ⟨b,k.toNat*sz,bd⟩)):=by
  subst W;have q:k.toNat<O l:=by
    rcases cG k.toNat (O l) with h|h
    · exact h
    · rw[bE h]at j;cases j
  obtain⟨xs,p,_⟩:=h.bW i hi;rcases p.2 with⟨rfl,hn⟩|⟨g',cap,cur,rfl,_⟩
  · omega
  refine⟨g',Z,fun ρ x y w d ty pos af g m o=>?_⟩;obtain⟨i,hi,W⟩:∃i,P.info? E=U i/\i.size=R.sz:=by
    have:=f.info;cases hi:P.info? E with
    |none=>simp[hi]at this
    |some i=>simp[hi]at this;exact⟨i,Z,this⟩
  simp only[bn,Bk,m,o,ks,cF,hQ,ee];have n:(⟨g',0,bd⟩:od).add (k.toNat*R.sz)=⟨g',k.toNat*R.sz,bd⟩:=by
    unfold jH;split
    · next hz=>rw[hz]
    · simp
  have c:k<(O l:Int):=by omega
  simp[f.desc,hi,W,e,c,n]
theorem SH.cutO{sz:Nat}{b:Int}(h:SH I M K w J)(i:Nat)(hi:J i=.own R E v l)(r:SliceOf P T E sz)(W:R.sz=sz)(m:0<=b)(N:b<=O l):
    ∃u,SH I M K w (cz J i (.own R E u (l.take b.toNat)))/\SlOk P T v 0 b (O l) u:=by
  subst W;have n:b.toNat<=O l:=by omega
  have d:O (l.take b.toNat)=b.toNat:=by rw[cf];omega
  obtain⟨xs,Zs,S⟩:=h.bW i hi;obtain⟨u,w0,X⟩:=r_sl (P:=P) (T:=T) r (h.cZ i hi) (Int.le_refl 0) m N;have hv:∃cap,v=.slice bd 0 0\/∃g,v=.slice (U ⟨g,0,bd⟩) (O l) cap:=by
    rcases Zs.2 with⟨rfl,_⟩|⟨g',cap,cur,rfl,_⟩
    · exact⟨0,.inl Z⟩
    · exact⟨cap,.inr ⟨g',Z⟩⟩
  have e:=w0 (λo=>match o with| .tmp 0=>v| .const v=>v|_=>gC) (.tmp 0) bd (U<|.const<|.int .i64 b) w bd 0 "" #[] bd Z (.inl ⟨Z,Z⟩) (.inr Z);rcases Zs.2 with⟨rfl,hn⟩|⟨g',cap,cur,rfl,e1,e2,e3,e4,e5,e6⟩
  · have aq:l=[]:=cA hn;subst aq;obtain⟨a,cap,rfl,h1,h2,h3,h4⟩:=X;have F:b=0:=by simp at N;omega
    subst F;have:a=bd/\cap=0:=by
      obtain⟨p,k⟩:∃p,P.info? E=U p:=by
        have:=r.info;cases q:P.info? E with
        |none=>simp[q]at this
        |some i=>exact⟨i,rfl⟩
      simp[bn,lx,me,cF,r.desc,du,eV,ks,hQ,ee,k,cut]at e;exact⟨e.1.symm,e.2.symm⟩
    obtain⟨rfl,rfl⟩:=this;refine⟨_,?_,w0⟩;have:=h.step (c:=.own R E (.slice bd 0 0) ([]:H α)) i (bF.refl BE w) (λ_ h=>h.elim) (λ_ h=>h.elim) dz.nil;simpa[cut]using this
  · have C:u=.slice (U ⟨g',0,bd⟩) b.toNat cap:=by
      obtain⟨p,k,t⟩:∃p,P.info? E=U p/\p.size=R.sz:=by
        have:=r.info;cases q:P.info? E with
        |none=>simp[q]at this
        |some i=>simp[q]at this;exact⟨i,Z,this⟩
      obtain⟨z,rfl⟩:=ck m;have A:z<=cap:=by simp at n;omega
      have y:(⟨g',0,bd⟩:od).add 0=⟨g',0,bd⟩:=rfl;have a0:(0:Int)<=(z:Int):=ke z;have sc:(z:Int)<=(cap:Int):=by omega
      by_cases s:cap=0
      · subst s;have m:z=0:=by omega
        subst m;simp[bn,lx,me,cF,r.desc,du,eV,ks,hQ,ee,k,t]at e;simpa using e.symm
      · simp[bn,lx,me,cF,r.desc,du,eV,ks,hQ,ee,k,t,A,s,y]at e;simpa using e.symm
    subst C;refine⟨_,h.step (c:=.own R E (.slice (U ⟨g',0,bd⟩) b.toNat cap) (l.take b.toNat)) i (bF.refl BE w) (λ_ h=>h.elim) (λx f _=>by rw[hi];exact f) ⟨xs.take (b.toNat*R.sz),⟨?_,.inr ⟨g',cap,cur,by rw[d],e1,e2,?_,e4,e5,?_⟩⟩,?_⟩,w0⟩
    · rw[d,cf,Zs.1,cX (bj _ n)]
    · rw[d];omega
    · rw[d,<-e6,eg,cX (bj _ n)]
    · intro j ab;rw[d]at ab;have al:j<O l:=by omega
      have q:=R.go (A':=λx=>(M x\/SH.av J i (.own R E (.slice (U ⟨g',0,bd⟩) b.toNat cap) (l.take b.toNat)) x)\/ob (.slice (U ⟨g',0,bd⟩) b.toNat cap) x) (S j al) (bF.refl BE w) (λ_ h=>h.elim) (λx f _=>by
        rcases f with(f|f|f)|f
        · exact .inl<|.inl f
        · exact .inl<|.inr<|nQ f
        · exact .inr f
        · exact .inr f)
      rw[og];rw[et,eg,cX]
      · exact q
      · have:(j+1)*R.sz<=b.toNat*R.sz:=bj _ ab;rw[cj]at this;omega
theorem Wj{i o s off:Nat}{x:α}(ho:o=i+off):((l.set o x).drop i).take s=((l.drop i).take s).set off x:=by
 subst ho;rw[Cl,Z4 V,Nat.add_sub_cancel_left,rm]
theorem Tt{i o s:Nat}{x:α}(h:o<i\/i+s<=o):((l.set o x).drop i).take s=(l.drop i).take s:=by
  rw[Cl];split
  · rfl
  · rw[rm,List.set_eq_of_length_le];rw[cf];omega
theorem Kv{sz:Nat}{a a':α}{b off:Nat}{z u:B}(h:SH I M K w J)(i:Nat)(hi:J i=.own R E u l)(r:ob u b)(W:R.sz=sz)(q:l[k.toNat]? =U a)(X:One P T z)(c:ev n env x=.pointer (U ⟨b,k.toNat*sz+off,bd⟩))(hy:ev n env y=v)(N:v.oneCell'=bh)(o:mz off sz=bh)(C6:∀cs,R.rd w (SH.A M J) cs a->R.rd w (SH.A M J) (cs.set off v) a')(kk:∀w',SH I M K w' (cz J i (.own R E u (l.set k.toNat a')))->WL P ops sc rest n (gp env d gC) w'):
    WL P ops sc (⟨d,.store T x y,ty,pos,af,bd⟩::rest) n env w:=by
  subst W;rw[px]at o;have g:k.toNat<O l:=by
    rcases cG k.toNat (O l) with h|h
    · exact h
    · rw[bE h]at q;cases q
  have F:l[k.toNat]=a:=by rw[bl g]at q;exact dp q
  generalize k.toNat=k at*;have e:∀b,ob u b->SH.A M J b:=λb r=>.inr ⟨i,by rw[hi];exact r⟩;obtain⟨xs,Zs,ab⟩:=h.bW i hi;rcases Zs.2 with⟨rfl,hn⟩|⟨g',cap,cur,rfl,e1,e2,e3,e4,e5,e6⟩
  · omega
  have aq:b=g':=r;subst aq;have C:(k+1)*R.sz<=O l*R.sz:=bj _ g;have S:O l*R.sz<=cap*R.sz:=bj _ e3;rw[cj]at C;have al:k*R.sz+off<cur.size:=by omega
  have m:=bF.yA w b<|.cells (cur.setIfInBounds (k*R.sz+off) v) E (0,0);refine BO (YZ X c e2 al hy N) (kk _ (h.step i m (λx c _=>by rw[hi];exact c) (λx c _=>by rw[hi];exact c) ⟨xs.set (k*R.sz+off) v,⟨?_,.inr ⟨b,cap,cur.setIfInBounds (k*R.sz+off) v,?_,e1,?_,?_,e4,?_,?_⟩⟩,?_⟩))
  · rw[cp,cp];exact Zs.1
  · rw[cp]
  · rw[wK (jf e2)]
  · rw[cp];exact e3
  · simpa using e5
  · rw[cp,na,rm,e6]
  · intro f s;have t:f<O l:=by rwa[cp]at s
    have p:=λcs a(h:R.rd w (SH.A M J) cs a)=>R.go (A':=λx=>(M x\/(SH.av J i (.own R E (.slice (U ⟨b,0,bd⟩) (O l) cap) (l.set k a'))) x)\/ob (.slice (U ⟨b,0,bd⟩) (O l) cap) x) h m (λx c _=>e x c) (λx c _=>by
      rcases c with(c|c|c)|c
      · exact .inl c
      · exact .inr<|nQ c
      · exact e x c
      · exact e x c)
    have w0:=λj(hj:j<O l)=>R.go (A':=SH.A M J) (ab j hj) (bF.refl BE w) (λ_ h=>h.elim) λx c _=>.inl c;by_cases hik:f=k
    · subst hik;rw[qg,Wj rfl];exact p _ _<|C6 _<|F▸w0 f g
    · rw[sa (Ne.symm hik),Tt]
      · exact p _ _<|w0 f t
      · rcases cG k f with h5|h5
        · left;have:(k+1)*R.sz<=f*R.sz:=bj _ h5;rw[cj]at this;omega
        · right;have:(f+1)*R.sz<=k*R.sz:=bj _ V;rw[cj]at this;omega
end
structure WK(P:cd)(ops:Array ec)(w:ay)(sc:Act->Prop)(l:List ec)(n:Nat)(env:Nat->B):Prop where
 out:uT P ops (λx=>x=w) sc l (DB n env)
end
section
variable{P:cd}{ops:Array ec}
theorem zH{w:ay}{sc:Act->Prop}:∀{l:H ec} {a:Act},uT P ops (λx=>x=w) sc l a->wpStill P ops w sc l a
  |[],_,h=>h
  |o::rest,a,h=>by
    unfold uT at h;unfold wpStill;split
    · rename_i d;rw[Z3 d]at h;obtain⟨v,g,c⟩:=h;have b:=g w Z;unfold Oper.quietAt at b;unfold Oper.still;generalize (bn a.eval o).run P w=r at b⊢;cases r with
      |ok n w'=>
        cases n<;>simp only[Bs]at b<;>simp only[Oper.stillUpon];case value u=>exact⟨b.1,by rw[b.2];exact zH c⟩
        case skip=>exact⟨b.1,by rw[<-b.2];exact zH c⟩
        case enter f args=>exact⟨b.1,v,b.2.mono (λe i h=>h),zH c⟩
      |halt x w'=>simp only[Bs]at b
    · rename_i d;rw[Z4 d]at h;exact zH h
end
section
variable{P:cd}{ops:Array ec}{sc:gd->Act->ay->Prop}{n:Nat}{env:Nat->B}{w w' I:ay}{M K:BS}{J:Nat->Chunk}{rest:H ec}
 {d:L Nat} {op:Op} {ty:bk} {pos:String} {af:Array hX} {v:B} {g:L (Nat×YU)} {T:bk} {ρ:bt->B} {x y:bt}
variable{Q1:Act->Prop}
theorem eG(c:(bn (ev n env) ⟨d,op,ty,pos,af,bd⟩).run P w=.ok (.value v) w)(h:WK P ops w Q1 rest n (gp env d v)):WK P ops w Q1 (⟨d,op,ty,pos,af,bd⟩::rest) n env:=by
  refine⟨?_⟩;unfold uT;have a:cq ⟨d,op,ty,pos,af,bd⟩ (fa ops (DB n env).tmps)=true:=rfl;rw[Z3 a];refine⟨v,λw' b=>?_,?_⟩
  · subst b;unfold Oper.quietAt;rw[jB,c];exact⟨Z,Z⟩
  · rw[KF];exact h.out
section
variable{j dj:Nat}{b:YU}
theorem wk_on(f:(ops[j]?).bind (·.dst)=U dj)(c:ev n env (.tmp dj)=.bool b)(h:WK P ops w Q1 (⟨d,op,ty,pos,af,bd⟩::rest) n env):WK P ops w Q1 (⟨d,op,ty,pos,af,U (j,b)⟩::rest) n env:=by
  have g:=H8 (ops:=ops) f c;have e:cq ⟨d,op,ty,pos,af,U (j,b)⟩ (fa ops (DB n env).tmps)=true:=by simp[cq,g]
  have a:cq ⟨d,op,ty,pos,af,bd⟩ (fa ops (DB n env).tmps)=true:=rfl;obtain⟨h⟩:=h;refine⟨?_⟩;unfold uT at h⊢;rw[Z3 a]at h;rw[Z3 e];exact h
theorem wk_skip(a:cq ⟨d,op,ty,pos,af,g⟩ (fa ops (DB n env).tmps)=aw)(h:WK P ops w Q1 rest n (gp env d gC)):WK P ops w Q1 (⟨d,op,ty,pos,af,g⟩::rest) n env:=by
 refine⟨?_⟩;unfold uT;rw[Z4 (by rw[a];decide),KF];exact h.out
theorem Ka{b b':YU}(f:(ops[j]?).bind (·.dst)=U dj)(e:ev n env (.tmp dj)=.bool b')(a:(b'==b)=aw)(h:WK P ops w Q1 rest n (gp env d gC)):WK P ops w Q1 (⟨d,op,ty,pos,af,U (j,b)⟩::rest) n env:=
  wk_skip (by have c:=H8 (ops:=ops) f e;simpa[cq,c]using a) h
theorem OL(b:(ops[j]?).bind (·.dst)=U dj)(c:ev n env (.tmp dj)=gC):fa ops (DB n env).tmps j=none:=by
  unfold fa;have a:(DB n env).eval (.tmp dj)=undef:=by rw[jB];exact c
  simp only[b,cJ];simp only[ki]at a;cases h2:(DB n env).tmps[dj]? with
  |none=>rfl
  |some x=>simp[da,h2]at a;subst a;rfl
theorem EE(c:(ops[j]?).bind (·.dst)=U dj)(a:ev n env (.tmp dj)=gC)(h:WK P ops w Q1 rest n (gp env d gC)):WK P ops w Q1 (⟨d,op,ty,pos,af,U (j,b)⟩::rest) n env:=
  wk_skip (by simp[cq,OL c a]) h
theorem wl_offU(e:(ops[j]?).bind (·.dst)=U dj)(a:ev n env (.tmp dj)=gC)(h:WL P ops sc rest n (gp env d gC) w):WL P ops sc (⟨d,op,ty,pos,af,U (j,b)⟩::rest) n env w:=by
  have c:cq ⟨d,op,ty,pos,af,U (j,b)⟩ (fa ops (DB n env).tmps)=false:=by simp[cq,OL e a]
  refine⟨?_⟩;unfold tf;rw[Z4 (by rw[c];decide),KF];exact h.out
theorem wk_gd{b want:YU}(a:YU)(g:(ops[j]?).bind (·.dst)=U dj)(f:ev n env (.tmp dj)=gv a (.bool b))(l:(a&&(b==want))=bh->(bn (ev n env) ⟨d,op,ty,pos,af,bd⟩).run P w=.ok (.value v) w)(h:WK P ops w Q1 rest n (gp env d (gv (a&&(b==want)) v))):
    WK P ops w Q1 (⟨d,op,ty,pos,af,U (j,want)⟩::rest) n env:=by
  by_cases c:(a&&(b==want))=bh
  · have k:=gl c;have m:=gr c;rw[iY k]at f;rw[iY c]at h;have i:b=want:=by simpa using m
    subst i;exact wk_on g f<|eG (l c) h
  · have e:(a&&(b==want))=false:=by simpa using c
    rw[e]at h;cases a with
    |true=>exact Ka g f (by simpa using e) h
    |false=>exact EE g f h
theorem qW{b want:YU}(e:(ops[j]?).bind (·.dst)=U dj)(a:ev n env (.tmp dj)=.bool b)(c:(b==want)=bh->(bn (ev n env) ⟨d,op,ty,pos,af,bd⟩).run P w=.ok (.value v) w)(h:WK P ops w Q1 rest n (gp env d (gv (b==want) v))):
    WK P ops w Q1 (⟨d,op,ty,pos,af,U (j,want)⟩::rest) n env:=
  wk_gd bh e a (λh=>c (by simpa using h)) (by simpa using h)
variable{l:H ec}
theorem wL(h:WL P ops sc l n env w):WK P ops w (λa=>tf P ops sc l a w) [] n env:=⟨h.out⟩
variable{id:Nat}
theorem oJ(k:Nat)(b:P.follows .mixedOrders=bh)(c:yc .any (ar l) k=bh)(h:SH I M K w J)(kk:∀w,SH I M K w J->WK P (ar l) w (λa=>tf P (ar l) sc (l.drop k) a w) (l.take k) n env):WC P (jn id (ar l) bh) sc n env w:=
 ⟨AE k b c (zH (kk _ (h.grow (Grow.drew w))).out)⟩
theorem nT(b:P.follows .mixedOrders=bh)(c:Region.lexB .any (ar l)=bh)(h:SH I M K w J)(kk:∀w,SH I M K w J->WK P (ar l) w (λa=>∀w',w'=w->sc .normal a w') l n env):WC P (jn id (ar l) bh) sc n env w:=
 ⟨wp_region_quiet (C:=λx=>x=w.drew) b c Z (kk _ (h.grow (Grow.drew w))).out⟩
end
theorem wk_end(h:sc .normal (DB n env) w):WK P ops w (λa=>∀w',w'=w->sc .normal a w') [] n env:=⟨λ_ e=>by rw[e];exact h⟩
end
open Go.RowKit
section
variable{P:cd}{ops:Array ec}{sc:gd->Act->ay->Prop}{n:Nat}{env:Nat->B}{w w' I:ay}{M K:BS}{J:Nat->Chunk}{rest:H ec}
 {d:L Nat} {op:Op} {ty:bk} {pos:String} {af:Array hX} {v:B} {g:L (Nat×YU)} {T:bk} {ρ:bt->B} {x y:bt}
theorem FX{v:B}(h:v.oneCell'=bh):v.cells= #[v]:=by
 cases v<;>first|rfl|simp[db]at h
theorem bY{v:B}(h:v.oneCell'=bh):v.cells.toList=[v]:=by rw[FX h]
section
variable{α:Type}{R:uO α}{A:BS}{l:H α}
theorem ek.Sy(h:bX R w A v l):(ui R).rd w A v.cells.toList l:=by
 rw[FX h.one];exact⟨v,Z,h⟩
theorem gvn{c d:YU}{v:B}(h:c=bh):gv (c&&d) v=gv d v:=by rw[h,gw]
theorem eu:∀v∈([]:H B),v.oneCell'=true:=λ_ h=>by cases h
theorem ones_cons{a:B}{l:H B}(c:a.oneCell'=bh)(b:∀v∈l,v.oneCell'=bh):∀v∈a::l,v.oneCell'=true:=λv h=>by
  rcases bs.1 h with rfl|h
  · exact c
  · exact b v h
def Room{α:Type}(bytes:Nat)(l m:H α):Prop:=(O l+O m)*bytes<=140737488355328/\O l+O m<=9223372036854775807
instance {α:Type} (bytes:Nat) (l m:List α):Decidable (Room bytes l m):=inferInstanceAs (Decidable (_/\_))
theorem Room.mk{bytes:Nat}{l m:H α}(b:(O l+O m)*bytes<=140737488355328)(a:O l+O m<=9223372036854775807):Room bytes l m:=⟨b,a⟩
theorem set1{cs:H B}{a a':α}{v:B}(h:R.rd w A v.cells.toList a')(d:R.rd w A cs a)(W:R.sz=1:=by rfl)(b:v.oneCell'=true:=by assumption):R.rd w A (cs.set 0 v) a':=by
 have:=R.len d;rw[W]at this
 match cs,this with
 |[c],_=>rw[bY b]at h;exact h
variable{f:nd}{first captured:Array B}{xs:Array bt}{args:H B}
theorem di{ts:Array bk}(g:VR P f)(a:ev n env x=.func (.func f) first captured)(b:first.toList++xs.toList.map (ev n env)++captured.toList=args)(c:bp P f (ar args) w (λe w'=>∃v,e=.returned v/\WL P ops sc rest n (gp env d v) w')):
  WL P ops sc (⟨d,.call {callee:=.value x,args:=xs,argTypes:=ts},ty,pos,af,bd⟩::rest) n env w:=
 OJ g a b c (λ_ _ h=>h)
theorem fG{a b:α}{l m:H α}(h:a=b)(c:l=m):a::l=b::m:=by rw[h,c]
variable{j dj:Nat}{b want:YU}
theorem W6{ts:Array bk}(c:YU)(l:(ops[j]?).bind (·.dst)=U dj)(i:ev n env (.tmp dj)=gv c (.bool b))(u:VR P f)(m:ev n env x=.func (.func f) first captured)(q:(c&&(b==want))=bh->first.toList++xs.toList.map (ev n env)++captured.toList=args)(s:bp P f (ar args) w (λe w'=>Grow w w'/\e=.returned v))(k:∀w',Grow w w'->WL P ops sc rest n (gp env d (gv (c&&(b==want)) v)) w'):
    WL P ops sc (⟨d,.call {callee:=.value x,args:=xs,argTypes:=ts},ty,pos,af,U (j,want)⟩::rest) n env w:=by
  by_cases a:(c&&(b==want))=bh
  · have o:=gl a;have t:=gr a;rw[iY o]at i;have p:b=want:=by simpa using t
    subst p;refine YW l i<|OJ u m (q a) s ?_;rintro e w'⟨r,rfl⟩;refine⟨_,Z,?_⟩;have:=k w' r;rw[iY a]at this;exact this
  · have g:(c&&(b==want))=false:=by simpa using a
    have h:=k w<|bF.refl _ _;rw[g]at h;cases c with
    |true=>exact ny l i (by simpa using g) h
    |false=>exact wl_offU l i h
theorem uz{ts:Array bk}(l:(ops[j]?).bind (·.dst)=U dj)(c:ev n env (.tmp dj)=.bool b)(m:VR P f)(a:ev n env x=.func (.func f) first captured)(g:(b==want)=bh->first.toList++xs.toList.map (ev n env)++captured.toList=args)(i:bp P f (ar args) w (λe w'=>Grow w w'/\e=.returned v))(k:∀w',Grow w w'->WL P ops sc rest n (gp env d (gv (b==want) v)) w'):
    WL P ops sc (⟨d,.call {callee:=.value x,args:=xs,argTypes:=ts},ty,pos,af,U (j,want)⟩::rest) n env w:=
  W6 bh l c m a (λh=>g (by simpa using h)) i (by simpa using k)
variable{E:bk}
theorem SH.kL(h:SH I M BE w J)(i:Nat)(hi:J i=.own R E v l):dz R E w M v l/\∀b,ob v b->I.heap.size<=b:=
 ⟨dz.go (h.bW i hi) (bF.refl BE w) (λ_ h=>h.elim) (λ_ h=>h.elim) (λb a _=>.inl (.inl a)),λb a=>h.fresh i b (by rw[hi];exact a)⟩
theorem lQ{s:Nat}:∀b,ob (.slice bd 0 0) b->s<=b:=λ_ h=>h.elim
theorem sM{P:cd}{z:B}{s b:Nat}(h:(P.info? E).map (λi=>(i.zero,i.size,i.bytes))=U (U z,s,b))(a:z.cells.size=s):∃i z,P.info? E=U i/\i.zero=U z/\i.size=s/\i.bytes=b/\z.cells.size=s:=by
 cases hi:P.info? E with
 |none=>simp[hi]at h
 |some i=>simp[hi]at h;exact⟨i,z,Z,h.1,h.2.1,h.2.2,a⟩
variable{p q:Int}
theorem r_max{T2:bk}(a:ρ x=.int .i64 p)(b:ρ y=.int .i64 q):(bn ρ ⟨d,.call {callee:=.builtin .max,args:= #[x,y],argTypes:= #[T,T2]},ty,pos,af,g⟩).run P w=.ok (.value (.int .i64 (max p q))) w:=by
 have h:(if q>p then q else p)=max p q:=by split<;>omega
 simp[bn,jM,mA,mb,Builtin.max_,Builtin.max2,a,b,h]
theorem r_min{T2:bk}(a:ρ x=.int .i64 p)(b:ρ y=.int .i64 q):(bn ρ ⟨d,.call {callee:=.builtin .min,args:= #[x,y],argTypes:= #[T,T2]},ty,pos,af,g⟩).run P w=.ok (.value (.int .i64 (min p q))) w:=by
 have h:(if q<p then q else p)=min p q:=by split<;>omega
 simp[bn,jM,mA,mb,Builtin.min_,Builtin.min2,a,b,h]
theorem FY{zs vs cs:H B}{b i:Nat}(e:SH I M K w J)(hi:J i=.blk b cs)(f:yV P T zs)(hl:O vs=O zs)(j:cs=vs):(ya T ⟨b,0,bd⟩).run P w=.ok (.agg (ar vs)) w:=by
 subst j;have h:=BC (P:=P) (ρ:=λ_=>.pointer (U ⟨b,0,bd⟩)) (d:=bd) (ty:=0) (pos:= "") (af:= #[]) (g:=bd) (x:=.tmp 0) (o:=0) (vs:=cs) e i hi f Z (by rw[<-hl];simp) hl;simp only[bn,uH,km]at h;have c:((ya T ⟨b,0,bd⟩).run P w).andThen (λa w'=>wA (Next.value a) w')=wA (Next.value (Value.agg (ar cs))) w:=by simpa using h
 cases hres:(ya T ⟨b,0,bd⟩).run P w with
 |ok v w'=>rw[hres]at c;simp at c;rw[c.1,c.2]
 |halt x w'=>rw[hres]at c;simp[Result.andThen]at c
theorem fin_tct{fn:Func}{R:td->ay->Prop}{t u a:Tmp}{T:bk}{v1 v3:B}{zs vs:H B}{b:Nat}(m:fn.results= #[.tmp t,.cell a T,.tmp u])(o:ev n env (.tmp t)=v1)(l:ev n env (.tmp a)=.pointer (U ⟨b,0,bd⟩))(g:ev n env (.tmp u)=v3)
  (j:SH I M K w J) (i:Nat) (hi:J i=.blk b vs) (k:yV P T zs) (hl:O vs=O zs) (h:R (.returned (.tuple #[v1,.agg (ar vs),v3])) w):kt P fn R .ret (DB n env) w:=by
 refine⟨Z,_,?_,h⟩;have d:=congrFun (jB n env)<|.tmp t;have e:=congrFun (jB n env)<|.tmp u;have c:=congrFun (jB n env)<|.tmp a;rw[o]at d;rw[g]at e;rw[l]at c;simp only[ki]at d e c;rw[da]at d e c;have f:=FY (P:=P) j hi k hl Z;unfold results;rw[m];simp[d,e,c,asAddr,f]
theorem SH.jV(h:SH I M K w J)(j i:Nat)(p:J j=.own R E v l)(hi:J i=.no)(s:j≠i):SH I M K w (cz (cz J j .no) i (.own R E v l)):=by
  have ho:=h.bW j p;have d:∀x b,(cz (cz J j .no) i (.own R E v l) x).own' b->∃y,(J y).own' b/\(x=i->y=j)/\(x≠i->y=x/\x≠j):=by
    intro x b a;by_cases e:x=i
    · subst e;rw[dG]at a;exact⟨j,by rw[p];exact a,λ_=>rfl,λh=>ZL Z h⟩
    · rw[iH e]at a;by_cases c:x=j
      · subst c;rw[dG]at a;exact a.elim
      · rw[iH c]at a;exact⟨x,a,λh=>ZL h e,λ_=>⟨Z,c⟩⟩
  have f:∀b,kg (cz (cz J j .no) i<|.own R E v l) b->kg J b:=λb⟨x,m⟩=>let ⟨y,g,_⟩:=d x b m;⟨y,g⟩;refine⟨h.keep,h.ltM,λx b a=>let ⟨y,g,_⟩:=d x b a;h.apM y b g,λx=>?_,λx y k b m g=>?_,λx b a=>let ⟨y,g,_⟩:=d x b a;h.old y b g⟩
  · by_cases e:x=i
    · subst e;rw[dG];have:=h.ok j;rw[p]at this;exact Chunk.sub this λb a _=>f b a
    · rw[iH e];by_cases c:x=j
      · subst c;rw[dG];trivial
      · rw[iH c];exact Chunk.sub (h.ok x) (λb a _=>f b a)
  · obtain⟨x',t,r,o⟩:=d x b m;obtain⟨q,k1,k2,n⟩:=d y b g;have:x'≠q:=by
      by_cases e:x=i
      · have c:y≠i:=λh=>k<|e.trans h.symm;rw[r e,(n c).1];exact λh=>(n c).2 h.symm
      · by_cases c:y=i
        · rw[k2 c,(o e).1];exact(o e).2
        · rw[(o e).1,(n c).1];exact k
    exact h.apart x' q this b t k1
theorem SH.iM(h:SH I M K w J)(j i:Nat)(a:J j=.rd R v l):SH I M K w (cz J i (.rd R v l)):=h.aA i (h.dQ j a)
theorem SH.lH(h:SH I M K w J)(i:Nat)(hi:J i=.rd R v l):bX R w M v l:=
 (h.dQ i hi).sub (λb a _=>.inl a) (λb a _=>.inl a)
def Dd{α:Type}(bytes:Nat)(a:H α):L (H α):=iC (Room bytes ([]:H α) a) (U a)
structure Arr2(P:cd)(T E:bk):Prop where
  desc:P.underlying T=U (.array 2 E)
  zero:∃z0 z1,(P.info? T).map (·.zero)=U (U (.agg #[z0,z1]))
  size:(P.info? E).map (·.size)=U 1
  plain:∃F,P.underlying E=U (.slice F)
theorem r_build2{x y:bt}{p q:B}(f:Arr2 P T E)(l:ρ x=p)(m:ρ y=q)(o:p.oneCell'=bh)(r:q.oneCell'=bh):(bn ρ ⟨d,.build T #[(0,x),(1,y)],ty,pos,af,g⟩).run P w=.ok (.value (.agg #[p,q])) w:=by
 obtain⟨c,k,e⟩:=f.zero;obtain⟨i,hi,a⟩:∃i,P.info? T=U i/\i.zero=U (.agg #[c,k]):=by
  cases hi:P.info? T with
  |none=>simp[hi]at e
  |some i=>simp[hi]at e;exact⟨i,Z,e⟩
 obtain⟨j,s,b⟩:∃j,P.info? E=U j/\j.size=1:=by
  have:=f.size;cases hi:P.info? E with
  |none=>simp[hi]at this
  |some i=>simp[hi]at this;exact⟨i,Z,this⟩
 have c1:=FX o;have c2:=FX r;simp only[bn,Instr.build,l,m,cF,mL,ee,hQ];have n:(Value.agg #[c,k]).cells= #[c,k]:=rfl;simp[hi,a,f.desc,s,b,nb,c1,c2,n,l,m]
theorem r_index2{x y:bt}{p q v:B}{k:Nat}(b:Arr2 P T E)(l:ρ x=.agg #[p,q])(m:ρ y=.int .i64 k)(a:[p,q][k]? =U v):(bn ρ ⟨d,.index T x y,ty,pos,af,g⟩).run P w=.ok (.value v) w:=by
  obtain⟨F,o⟩:=b.plain;obtain⟨j,r,c⟩:∃j,P.info? E=U j/\j.size=1:=by
    have:=b.size;cases hi:P.info? E with
    |none=>simp[hi]at this
    |some i=>simp[hi]at this;exact⟨i,Z,this⟩
  have f:k<2:=by
    rcases cG k 2 with h|h
    · exact h
    · rw[bE (by simpa using h)]at a;cases a
  have n:(#[p,q]:Array B)[k]? =U v:=by simpa using a
  have e:((k:Int)<2):=by omega
  simp only[bn,Instr.index,l,m,cF,ks,part,isAgg,hQ,ee];simp[b.desc,r,c,o,e,f];rw[bl (by simpa using f)]at a;exact dp a
structure PairI(P:cd)(T:bk):Prop where
 desc:∃f0 f1,P.underlying T=U (.struct #[f0,f1])/\f0.name≠ "_" /\f1.name≠ "_" /\f0.offset=0/\f1.offset=1/\P.underlying f0.type=U (.int .i64)/\P.underlying f1.type=U (.int .i64)/\P.plainKey f0.type=bh/\P.plainKey f1.type=bh
 stood:P.stoodInHeld T=aw
 guard:P.eqGuardType P.depth T=aw
theorem eq_pairI(d:PairI P T)(a b c e:Int):(tW 10000 T (.agg #[.int .i64 a,.int .i64 b]) (.agg #[.int .i64 c,.int .i64 e])).run P w=.ok (G (a=c)&&G (b=e)) w:=by
  obtain⟨f,j,i,p,q,n,o1,o,l,g,k1⟩:=d.desc;have k:P.fieldsOf T= #[f,j]:=by simp[Program.fieldsOf,i]
  rw[show(10000:Nat)=9999+1 from rfl,run_equalIn_agg w 9999 T _ _ (by rw[k];exact i) d.stood,k];simp only[Op.eqFields,p,q,ne_eq,not_false_eq_true,if_true,n,o1,cD];rw[sx w g (xs:= #[.int .i64 a,.int .i64 b]) (off:=0) (v:=.int .i64 a) rfl];simp only[bT];rw[sx w g (xs:= #[.int .i64 c,.int .i64 e]) (off:=0) (v:=.int .i64 c) rfl];simp only[bT];rw[show(9999:Nat)=9998+1 from rfl,run_equalIn_int w 9998 f.type .i64 .i64 a c o];simp only[bT,wc,cD];by_cases h:a=c
  · subst h;simp only[beq_self_eq_true,Bool.not_true,cL,if_false];rw[sx w k1 (xs:= #[.int .i64 a,.int .i64 b]) (off:=1) (v:=.int .i64 b) rfl];simp only[bT];rw[sx w k1 (xs:= #[.int .i64 a,.int .i64 e]) (off:=1) (v:=.int .i64 e) rfl];simp only[bT];rw[run_equalIn_int w 9998 j.type .i64 .i64 b e l];by_cases m:b=e<;>simp[m]
  · simp[h]
variable{T2:bk}
theorem r_eqlP{a b c e:Int}(f:PairI P T)(i:ρ x=.agg #[.int .i64 a,.int .i64 b])(j:ρ y=.agg #[.int .i64 c,.int .i64 e]):(bn ρ ⟨d,.binOp .eql T x y T2,ty,pos,af,g⟩).run P w=.ok (.value (.bool (G (a=c)&&G (b=e)))) w:=by
 simp only[bn,i,j,cD,run_eqGuard_agg w .eql T x y _ _ f.guard,bT,run_eql_struct,eq_pairI f];simp
theorem r_neqP{a b c e:Int}(f:PairI P T)(i:ρ x=.agg #[.int .i64 a,.int .i64 b])(j:ρ y=.agg #[.int .i64 c,.int .i64 e]):(bn ρ ⟨d,.binOp .neq T x y T2,ty,pos,af,g⟩).run P w=.ok (.value (.bool (!(G (a=c)&&G (b=e))))) w:=by
 simp only[bn,i,j,cD,run_eqGuard_agg w .neq T x y _ _ f.guard,bT,run_neq_struct,eq_pairI f];simp
end
end
section
variable{σ:Type}{n:Nat}{e HR:Nat->B}{mod:Nat->YU}{live:σ->H (Nat×B)}{hp:σ->ay->Prop}{w:ay}
theorem lend{μ:σ->Nat}{s0:σ}(s:σ)(d:hp s w)(a:μ s<μ s0:=by dsimp only;omega)(b:DH e (live s):=by repeat (first|exact an|refine⟨rfl,?_⟩))
 (c:Bb mod e HR:=by repeat (first|(with_reducible exact Bb.refl _ _)|(with_reducible exact Bb.YS _ _ _)|(with_reducible refine Bb.on ?_)|((with_reducible refine Bb.hin ?_ ?_);rfl)|(with_reducible refine Bb.un ?_)|((with_reducible refine Bb.os ?_ ?_);rfl)|((with_reducible refine Bb.uc ?_ ?_);rfl))):
 JL n mod HR live hp μ s0 (DB n e) w:=⟨s,e,rfl,c,b,d,a⟩
end
section
variable{P:cd}{sc:gd->Act->ay->Prop}{n:Nat}{env:Nat->B}{w:ay}
theorem wc_rounds{c:Code}(m:Nat)(h:WC P c (Exit.then (vH P c sc m) sc) n env w):WC P (zt c) sc n env w:=⟨wp_loop_rounds (m+1) h.out⟩
theorem L1{c:Code}{m:Nat}(h:WC P c (Exit.then (vH P c sc m) sc) n env w):Exit.then (vH P c sc (m+1)) sc .normal (DB n env) w:=h.out
end
theorem SH.cn{I w:ay}{M K:BS}{J:Nat->Chunk}(h:SH I M K w J)(l:H (Nat×Chunk))(hl:Ra J l:=by repeat (first|exact an|refine⟨rfl,?_⟩)):SH I M K w (C6 l):=h.canon l hl
section
variable{α β σ ρ:Type}
section
variable{l:H α}
theorem X2{k:Nat}(h:G ((k:Int)<(O l:Int))=bh):∃x,l[k]? =U x/\l.drop k=x::l.drop (k+1):=by
 have a:k<O l:=by have:=of_decide_eq_true h;omega
 exact⟨l[k],bl a,cy a⟩
theorem drop_ge{k:Nat}(h:G ((k:Int)<(O l:Int))=aw):l.drop k=[]:=by
 have:=of_decide_eq_false h;exact cC V
variable{k:σ->ρ}{x:α}{s:σ}
theorem fQ{body:α->σ->(σ->ρ)->ρ}:vq body k (x::l) s=body x s (vq body k l):=rfl
theorem kJ{body:α->σ->(σ->ρ)->ρ}:vq body k [] s=k s:=rfl
variable{body:Int->α->σ->(σ->ρ)->ρ}{i:Int}
theorem Ay:ic body k i (x::l) s=body i x s (ic body k (i+1) l):=rfl
theorem Va:ic body k i [] s=k s:=rfl
variable{j m:Nat}
theorem upto_lt{body:Int->σ->(σ->ρ)->ρ}(h:j<m):Ax body k i (m-j) s=body i s (Ax body k (i+1) (m-(j+1))):=by
 rw[show m-j=(m-(j+1))+1 by omega];rfl
theorem upto_ge{body:Int->σ->(σ->ρ)->ρ}(h:m<=j):Ax body k i (m-j) s=k s:=by
 rw[show m-j=0 by omega];rfl
theorem again_pos{body:σ->(σ->L β)->L β}{m:Nat}{r:β}(h:again body m s=U r):∃a,m=a+1/\body s (again body a)=U r:=by
 cases m with
 |zero=>cases h
 |succ m=>exact⟨m,rfl,h⟩
theorem Y1{k:Nat}(hi:i=(k:Int))(h:l[k]? =U x):l[i.toNat]? =U x:=by subst hi;simpa using h
theorem nat_nn{k:Nat}(hi:i=(k:Int)):0<=i:=by omega
theorem nat_rng{k:Nat}(hl:O l<=9223372036854775807)(hi:i=(k:Int))(a:G (i<(O l:Int))=bh):j6 (i+1):=by
 have:=of_decide_eq_true a;exact⟨by omega,by omega⟩
end
end
open Go.RowKit
section
variable{P:cd}{ops:Array ec}{C:ay->Prop}{sc:gd->Act->ay->Prop}{n:Nat}{env:Nat->B}{w w':ay}{rest:H ec}
 {d:L Nat} {op:Op} {ty:bk} {pos:String} {af:Array hX} {v:B} {g:L (Nat×YU)} {T:bk} {ρ:bt->B}
def BndN(o:L B)(a b:Nat):Prop:=(o=bd/\a=b)\/o=U (.int .i64 a)
theorem addr_zero(g:Nat):(⟨g,0,bd⟩:od).add 0=⟨g,0,bd⟩:=rfl
theorem yu{x:bt}{lo:L bt}{hi:bt}{E:bk}{sz b len cap:Nat}{ad:L od}(l:SliceOf P T E sz)(o:ρ x=.slice ad len cap)(n:ad=bd\/∃g,ad=U ⟨g,0,bd⟩)(j:BndN (lo.map ρ) 0 0)(a:ρ hi=.int .i64 b)(k:b<=cap):
    (bn ρ ⟨d,.slice T x lo (U hi) bd,ty,pos,af,g⟩).run P w=.ok (.value (.slice ad b cap)) w:=by
  obtain⟨i,f,e⟩:∃i,P.info? E=U i/\i.size=sz:=by
    have:=l.info;cases hi:P.info? E with
    |none=>simp[hi]at this
    |some i=>simp[hi]at this;exact⟨i,Z,this⟩
  have c:(du bh len cap (lo.map ρ) ((U hi).map ρ) bd).run P w=.ok (0,b,cap) w:=by
    have m:(b:Int)<=(cap:Int):=by omega
    rcases j with⟨e1,_⟩|e1
    · simp[du,e1,a,eV,ks,k]
    · simp[du,e1,a,eV,ks,k]
  simp only[bn,lx,me,cF,o];simp only[dt,a]at c;rcases n with rfl|⟨g,rfl⟩<;>simp[l.desc,c,hQ,ee,f,e,a,addr_zero]
theorem tT{x:bt}{lo hi l:L bt}{E:bk}{sz gg a b m len cap:Nat}(t:SliceOf P T E sz)(u:ρ x=.slice (U ⟨gg,0,bd⟩) len cap)(k:BndN (lo.map ρ) a 0)(s:BndN (hi.map ρ) b len)(n:(l.map ρ=bd/\m=cap)\/(l.map ρ=U (.int .i64 m)/\hi.map ρ=U (.int .i64 b)))
    (c:a<=b) (j:b<=m) (p:m<=cap):
    (bn ρ ⟨d,.slice T x lo hi l,ty,pos,af,g⟩).run P w=.ok (.value (.slice (U (if m=a then⟨gg,0,bd⟩else⟨gg,a*sz,bd⟩)) (b-a) (m-a))) w:=by
  obtain⟨i,r,q⟩:∃i,P.info? E=U i/\i.size=sz:=by
    have:=t.info;cases hi:P.info? E with
    |none=>simp[hi]at this
    |some i=>simp[hi]at this;exact⟨i,Z,this⟩
  have f:(du bh len cap (lo.map ρ) (hi.map ρ)<|l.map ρ).run P w=.ok (a,b,m) w:=by
    have z:(0:Int)<=(a:Int):=ke a;have y:(0:Int)<=(b:Int):=ke b;have e:b<=cap:=by omega
    have o:a<=m:=by omega
    rcases n with⟨g1,g2⟩|⟨g1,f1⟩
    · subst g2;rcases k with⟨e1,e2⟩|e1<;>rcases s with⟨f1,f2⟩|f1<;>(try subst e2)<;>(try subst f2)<;>
        simp[du,e1,f1,g1,eV,ks,c,j,e]
    · rcases k with⟨e1,e2⟩|e1<;>(try subst e2)<;>
        simp[du,e1,f1,g1,eV,ks,c,j,p,o]
  have v:(⟨gg,0,bd⟩:od).add (a*sz)=⟨gg,a*sz,bd⟩:=by
    unfold jH;split
    · next hz=>rw[hz]
    · simp
  simp only[bn,lx,me,cF,u];simp[t.desc,f,hQ,ee,r,q,v];split<;>rfl
structure Raw(w:ay)(gg cap sz:Nat)(E:bk)(cur:List B):Prop where
 blk:w.heap[gg]? =U (.cells cur.toArray E (0,0))
 len:cur.length=cap*sz
 le:cap<=mC
theorem FT(gg o k:Nat):(⟨gg,o,bd⟩:od).add k=⟨gg,o+k,bd⟩:=by
  unfold jH;split
  · next hz=>rw[hz];rfl
  · rfl
theorem Y2{x y:bt}{E:bk}{sz bytes gg cap a m c j:Nat}{cur:H B}{ad:od}(v:lK P T E sz bytes)(o:Raw w gg cap sz E cur)(al:ev n env x=.slice (U ⟨gg,0,bd⟩) a cap)(w0:ev n env y=.slice (U ad) m c)
    (t:m=0\/ad=⟨gg,j*sz,bd⟩) (K:j+m<=cap) (p:a+m<=cap) (C:∀u∈(cur.drop (j*sz)).take (m*sz),u.oneCell'=bh)
    (h:∀w',bF (λx=>x=gg) w w'->Raw w' gg cap sz E (cur.take (a*sz)++(cur.drop (j*sz)).take (m*sz)++cur.drop (a*sz+m*sz))->WL P ops sc rest n (gp env d (.slice (U ⟨gg,0,bd⟩) (a+m) cap)) w'):
    WL P ops sc (⟨d,.call {callee:=.builtin .append,args:= #[x,y],argTypes:= #[T,T]},ty,pos,af,bd⟩::rest) n env w:=by
  obtain⟨i,z,hi,Zs,W,aq,A⟩:=v.info;have F:j*sz+m*sz<=cap*sz:=by rw[<-cj];exact bj _ K
  have q:a*sz+m*sz<=cap*sz:=by rw[<-cj];exact bj _ p
  have e:=o.len;have b:O ((cur.drop<|j*sz).take<|m*sz)=m*sz:=by rw[cf,cQ];omega
  have l:∀k u,((cur.drop<|j*sz).take<|m*sz)[k]? =U u->w.cell? (ad.add k)=U u:=by
    intro k u r;rcases t with rfl|rfl
    · simp at r
    · rw[FT];have s:k<m*sz:=by
        rcases cG k (m*sz)with h|h
        · exact h
        · rw[bE V]at r;cases r
      rw[ca,Z3 s,ct]at r;simp[fh,o.blk,r]
  have f:=run_append_room (P:=P) w T ty E i v.desc hi gg a cap (ar cur) o.blk ad m c _ (by rw[W];exact b) l C p (by rw[W,b];simpa[e]using q);have g:(bn (ev n env) ⟨d,.call {callee:=.builtin .append,args:= #[x,y],argTypes:= #[T,T]},ty,pos,af,bd⟩).run P w=.ok (.value<|.slice (U ⟨gg,0,bd⟩) (a+m) cap) (yA w gg<|.cells (ar (cur.take (a*sz)++(cur.drop<|j*sz).take (m*sz)++cur.drop (a*sz+m*sz))) E (0,0)):=by
    rw[W,b,Od o.blk]at f;simp only[bn,jM,mA,mb,cD,cR,bT,hS,cr,jt,al,w0,f]
  refine aC g<|h _ (bF.yA _ _ _) ⟨wK<|jf o.blk,?_,o.le⟩;rw[bm,bm,b,cf,cQ,e];omega
def ZeroOne(P:cd)(E:bk):Prop:=∃z,(P.info? E).map (·.zero)=U (U z)/\z.cells.all (·.oneCell')=bh
theorem PB{z:Array B}{k:Nat}(h:z.all (·.oneCell')=bh):∀u∈(cH z k).toList,u.oneCell'=true:=by
  intro u c;simp only[cH,tb,fi]at c;obtain⟨i,hi,rfl⟩:=c;have b:i<k*z.size:=by simpa using hi
  have d:0<z.size:=by
    rcases Nat.eq_zero_or_pos z.size with h0|h0
    · rw[h0,Nat.mul_zero]at b;omega
    · exact h0
  have a:i%z.size<z.size:=pA _ d;rw[getElem!_pos z (i%z.size) a];exact(Array.all_eq_true.1 h) _ a
theorem HP{x:bt}{E:bk}{sz bytes gg cap m k c:Nat}{cur:H B}(A:lK P T E sz bytes)(v:ZeroOne P E)(g:Raw w gg cap sz E cur)(C:ev n env x=.slice (U ⟨gg,m*sz,bd⟩) k c)(F:0<k)(s:m+k<=cap)
    (h:∀w' e,bF (λx=>x=gg) w w'->Raw w' gg cap sz E e->e.take (m*sz)=cur.take (m*sz)->WL P ops sc rest n (gp env d (.tuple #[])) w'):
    WL P ops sc (⟨d,.call {callee:=.builtin .clear,args:= #[x],argTypes:= #[T]},ty,pos,af,bd⟩::rest) n env w:=by
  obtain⟨i,z,hi,y,W,aq,r⟩:=A.info;obtain⟨q,j,o⟩:=v;have u:q=z:=by simp[hi,y]at j;exact j.symm
  subst u;have t:m*sz+k*sz<=cap*sz:=by rw[<-cj];exact bj _ s
  have b:=g.len;have f:O (cH q.cells k).toList=k*sz:=by rw[cx,oY,r]
  have a:=tr (P:=P) gg (m*sz) E (cH q.cells k).toList 0 (ar cur) w g.blk (by rw[f];simpa[b]using t) (PB o);rw[Od g.blk]at a;obtain⟨p,rfl⟩:∃p,k=p+1:=⟨k-1,by omega⟩;have l:(bn (ev n env) ⟨d,.call {callee:=.builtin .clear,args:= #[x],argTypes:= #[T]},ty,pos,af,bd⟩).run P w=.ok (.value<|.tuple #[]) (yA w gg<|.cells (ar (cur.take (m*sz)++(cH q.cells<|p+1).toList++cur.drop (m*sz+(p+1)*sz))) E (0,0)):=by
    rw[f]at a;simp only[Nat.add_zero]at a;simp only[bn,jM,mA,mb,Builtin.clear_,cF,mL,ee,cD,cR,bT,hS,cr,jt,C];simp[A.desc,hi,y,a]
  refine aC l<|h _ _ (bF.yA _ _ _) ⟨wK<|jf g.blk,?_,g.le⟩ ?_
  · rw[bm,bm,f,cf,cQ,b];omega
  · rw[cg,de (by rw[cf];omega),eg,Nat.min_self]
end
section
variable{α:Type}{R:uO α}{E:bk}{A:BS}{l:H α}
theorem Y3{w:ay}{v:B}(h:dz R E w A v l)(hl:0<O l):
    ∃gg cap cur,v=.slice (U ⟨gg,0,bd⟩) (O l) cap/\Raw w gg cap R.sz E cur/\O l<=cap/\∀i (h:i<O l),R.rd w (λb=>A b\/b=gg) ((cur.drop (i*R.sz)).take R.sz) l[i]:=by
  obtain⟨xs,d,e⟩:=h;rcases d.2 with⟨rfl,hn⟩|⟨gg,cap,cur,rfl,e1,e2,e3,e4,e5,e6⟩
  · omega
  refine⟨gg,cap,cur.toList,Z,⟨by simpa using e2,by simpa using e5,e4⟩,e3,λi hi=>?_⟩;have a:(i+1)*R.sz<=O l*R.sz:=bj _ hi;rw[cj]at a;have c:=e i hi;rw[<-e6,et,eg,cX V]at c;exact c
variable{cur:H B}
theorem rd_ones{w:ay}(h:∀i (h:i<O l),R.rd w A ((cur.drop (i*R.sz)).take R.sz) l[i]){j m:Nat}(f:j+m<=O l):∀u∈(cur.drop (j*R.sz)).take (m*R.sz),u.oneCell'=true:=by
 intro u d;obtain⟨k,c,rfl⟩:=List.getElem_of_mem d;have a:k<m*R.sz:=by rw[cf]at c;omega
 have J:=R.pos;have g:k / R.sz<m:=qE (by rw[mT];exact a);refine R.one (h (j+k / R.sz) V) _ ?_;rw[List.mem_iff_getElem?];refine⟨k%R.sz,?_⟩;have b:k%R.sz<R.sz:=pA _ J;rw[ca,Z3 b,ct,og,sB];have e:(j+k / R.sz)*R.sz+k%R.sz=j*R.sz+k:=by
  rw[cj,kj,mT (k / R.sz),Bw]
 rw[e,bl]
variable{w w':ay}
theorem raw_del{gg cap i j:Nat}{cur d:H B}(o:Raw w' gg cap R.sz E d)(z:Raw w gg cap R.sz E cur)(aq:bF (λx=>x=gg) w w')(r:i<=j)(Zs:j<=O l)(u:O l<=cap)(f:∀k (h:k<O l),R.rd w (λb=>A b\/b=gg) ((cur.drop (k*R.sz)).take R.sz) l[k])(K:d.take ((i+(O l-j))*R.sz)=cur.take (i*R.sz)++(cur.drop (j*R.sz)).take ((O l-j)*R.sz)):
    dz R E w' A (.slice (U ⟨gg,0,bd⟩) (i+(O l-j)) cap) (l.take i++l.drop j):=by
  have c:O (l.take i++l.drop j)=i+(O l-j):=by rw[bm,cf,cQ];omega
  have v:=z.len;have C:O l*R.sz<=cap*R.sz:=bj _ u;have w0:j*R.sz<=O l*R.sz:=bj _ Zs;have al:i*R.sz<=j*R.sz:=bj _ r;have t:(O l-j)*R.sz=O l*R.sz-j*R.sz:=tj _ _ _;have m:O (cur.take<|i*R.sz)=i*R.sz:=by rw[cf];omega
  refine⟨cur.take (i*R.sz)++(cur.drop<|j*R.sz).take ((O l-j)*R.sz),⟨?_,.inr ⟨gg,cap,ar d,?_,gk _,o.blk,?_,o.le,?_,?_⟩⟩,?_⟩
  · rw[c,bm,m,cf,cQ,cj];omega
  · rw[c]
  · rw[c];omega
  · simpa using o.len
  · rw[c];exact K
  · intro k q;rw[c]at q;have g:=λcs a(h:R.rd w (λb=>A b\/b=gg) cs a)=>R.go (A':=λb=>A b\/b=gg) h aq (λx y _=>.inr y) λ_ h _=>h;by_cases n:k<i
    · have e:(k+1)*R.sz<=i*R.sz:=bj _ n;rw[cj]at e;have p:=g _ _<|f k V;rw[fm (by rw[cf];omega),og,ia V,de (by rw[cQ];omega),et,eg,cX V];exact p
    · have p:=g _ _<|f (j+(k-i)) V;have e:(k-i+1)*R.sz<=(O l-j)*R.sz:=bj _ V;rw[cj]at e;have hik:i*R.sz<=k*R.sz:=bj _ V;have s:(k-i)*R.sz=k*R.sz-i*R.sz:=tj _ _ _;rw[gD (by rw[cf];omega)];have F:(l.drop j)[k-O (l.take i)]'(by rw[cf,cQ];omega)=l[j+(k-i)]'V:=by
        rw[sB];congr 1;rw[cf];omega
      rw[F,lz,cC V,cc,m,<-s,et,eg,cX V,pZ,<-cj];exact p
theorem Raw.keep{gg cap sz:Nat}{N:BS}(h:Raw w gg cap sz E cur)(a:bF N w w')(hn:¬N gg):Raw w' gg cap sz E cur:=⟨a.blk h.blk hn,h.len,h.le⟩
end
section
variable{P:cd}{sc:gd->Act->ay->Prop}{n:Nat}{env:Nat->B}{w w' I:ay}{M K:BS}{J:Nat->Chunk}
theorem Y4{id:Nat}(k:Nat){l:H ec}(c:P.follows .mixedOrders=bh)(d:yc .any (ar l) k=bh)
  (kk:∀b,Grow w b->WK P (ar l) b (λa=>tf P (ar l) sc (l.drop k) a b) (l.take k) n env):WC P (jn id (ar l) bh) sc n env w:=
 ⟨AE k c d (zH (kk _ (Grow.drew w)).out)⟩
section
variable{α:Type}{R:uO α}{E:bk}{v u:B}
theorem SH.given{l c:H α}(h:SH I M K w J)(i:Nat)(hi:J i=.own R E v l)(ho:dz R E w' (λb=>M b\/rest J i b) u c)(d:bF (ob v) w w')(hn:∀b,ob u b->b<w.heap.size->ob v b):SH I M K w' (cz J i (.own R E u c)):=by
  refine h.step i d (λb a _=>by rw[hi];exact a) (λb a hl=>by rw[hi];exact hn b a hl) ?_;refine dz.go ho (bF.refl BE w') (λ_ h=>h.elim) (λ_ h=>h.elim) λb a _=>?_;rcases a with a|a|a
  · exact .inl<|.inl a
  · exact .inl<|.inr a
  · exact .inr a
variable{l:H α}
theorem SH.giveO{v:B}(h:SH I M K w J)(i:Nat)(hi:J i=.own R E v l):dz R E w (λb=>M b\/rest J i b) v l:=
 dz.go (h.bW i hi) (bF.refl BE w) (λ_ h=>h.elim) (λ_ h=>h.elim) (λb a _=>.inl (a.imp id nQ))
theorem SH.zI{α β:Type}{R:uO α}{R':uO β}{l:H α}{d:H β}(h:SH I M K w J)(i j:Nat)(hi:J i=.rd R v l)(c:J j=.own R' E u d):bX R w (λb=>M b\/ob u b) v l:=
 (h.dQ i hi).sub (λb a _=>a.elim .inl (λa=>.inr ⟨j,by rw[c];exact a⟩)) (λb a _=>a.elim .inl (λa=>.inr ⟨j,by rw[c];exact a⟩))
theorem bX.VS{α β:Type}{R:uO α}{R':uO β}{l:H α}{d:H β}{i:Nat}(h:bX R w (λb=>SH.A M J b\/ob u b) v l):bX R w (SH.A M (cz J i (.own R' E u d))) v l:=by
  have c:∀b,SH.A M (cz J i<|.own R' E u d) b->SH.A M J b\/ob u b:=by
    rintro b(a|⟨j,a⟩)
    · exact .inl<|.inl a
    · by_cases e:j=i
      · subst e;rw[dG]at a;exact .inr a
      · rw[iH e]at a;exact .inl (.inr ⟨j,a⟩)
  exact h.sub (λb a _=>c b a) λb a _=>c b a
theorem SH.toSr{v:B}(h:SH I M K w J)(j i:Nat)(c:J j=.rd R v l):SH I M K w (cz J i (.sr R v l)):=
 h.know i (λ_ h=>h) (ek.sub (h.dQ j c) (λb a _=>.inr a) (λb a _=>a))
theorem SH.Y5{v:B}(h:SH I M K w J)(j i:Nat)(a:J j=.sr R v l):SH I M K w (cz J i (.sr R v l)):=
 h.know i (λ_ h=>h) (h.srAt j a)
theorem del_len{i j l cap sz:Nat}{cur:H B}(hl:O cur=cap*sz)(b:i<=j)(k:j<=l)(d:l<=cap):
  ((cur.take (i*sz)++(cur.drop (j*sz)).take ((l-j)*sz)++cur.drop (i*sz+(l-j)*sz)).take ((i+(l-j))*sz))=cur.take (i*sz)++(cur.drop (j*sz)).take ((l-j)*sz):=by
 have f:i*sz<=j*sz:=bj _ b;have e:j*sz+(l-j)*sz=l*sz:=by rw[<-cj];congr 1;omega
 have g:l*sz<=cap*sz:=bj _ d;have c:O (cur.take<|i*sz)=i*sz:=by rw[cf];omega
 have a:O ((cur.drop<|j*sz).take ((l-j)*sz))=(l-j)*sz:=by rw[cf,cQ];omega
 rw[cj,de (by rw[bm,c,a];omega),ku (by rw[bm,c,a];omega)]
def del1{α:Type}(l:H α)(i j:Int):L (H α):=if 0<=i/\i<j/\j<=O l then U (l.take i.toNat++l.drop j.toNat)else bd
theorem o_del{l r:H α}{i j:Int}(h:del1 l i j=U r):∃a b:Nat,i=a/\j=b/\a<b/\b<=O l/\r=l.take a++l.drop b:=by
  unfold del1 at h;by_cases J:0<=i/\i<j/\j<=O l
  · rw[Z3 J]at h;cases h;exact⟨i.toNat,j.toNat,by omega,by omega,by omega,by omega,Z⟩
  · rw[Z4 J]at h;cases h
end
end
open Go.RowKit
def selK(K:Act->ay->Prop)(sc:gd->Act->ay->Prop):gd->Act->ay->Prop
 | .normal,a,w=>K a w
 |e,a,w=>sc e a w
section
variable{P:cd}{ops:Array ec}
variable{sc:gd->Act->ay->Prop}{n:Nat}{env:Nat->B}{w I:ay}{M K:BS}{J:Nat->Chunk}
theorem P4{S S':ay->Prop}(b:∀w,S' w->S w):∀(fuel:Nat) (listed:Array YU) (a:Act) (w:ay),wpAnyH P .any ops sc S' fuel listed a w->wpAnyH P .any ops sc S fuel listed a w
 |0,_,_,_,h=>h
 |fuel+1,_,_,_,h=>⟨h.1,λi hi=>wpOp_mono (λa' w' c=>⟨b _ c.1,P4 b fuel _ a' w' c.2⟩) (h.2 i hi)⟩
variable{d:L Nat}{op:Op}{ty:bk}{pos:String}{af:Array hX}{v:B}{g:L (Nat×YU)}{i fuel:Nat}{listed:Array YU}
theorem bu:cq ⟨d,op,ty,pos,af,bd⟩ (fa ops (DB n env).tmps)=true:=rfl
theorem fH{j dj:Nat}{b:YU}(e:(ops[j]?).bind (·.dst)=U dj)(c:ev n env (.tmp dj)=.bool b):cq ⟨d,op,ty,pos,af,U (j,b)⟩ (fa ops (DB n env).tmps)=true:=by
  have a:=H8 (ops:=ops) e c;simp[cq,a]
theorem eB{j dj:Nat}{b b':YU}(f:(ops[j]?).bind (·.dst)=U dj)(e:ev n env (.tmp dj)=.bool b')(a:(b'==b)=aw):cq ⟨d,op,ty,pos,af,U (j,b)⟩ (fa ops (DB n env).tmps)=false:=by
  have c:=H8 (ops:=ops) f e;simpa[cq,c]using a
theorem WJ{j dj:Nat}{b:YU}(e:(ops[j]?).bind (·.dst)=U dj)(c:ev n env (.tmp dj)=gC):cq ⟨d,op,ty,pos,af,U (j,b)⟩ (fa ops (DB n env).tmps)=false:=by
  have a:=OL (ops:=ops) e c;simp[cq,a]
theorem Y6{K:Act->ay->Prop}{Q1:gd->Act->ay->Prop}(hi:ops[i]? =U ⟨d,op,ty,pos,af,g⟩)(k:cq ⟨d,op,ty,pos,af,g⟩ (fa ops (DB n env).tmps)=bh)
    (h:WL P ops (selK K Q1) [⟨d,op,ty,pos,af,bd⟩] n env w):wpOp P ops Q1 i K (DB n env) w:=by
  unfold wpOp;simp only[hi,k,if_true];have b:=h.out;unfold tf at b;rw[Z3 (show cq _ _=bh from rfl)]at b;rcases b with b|⟨ha,hl⟩
  rotate_left
  · exact .inr ⟨ha,let ⟨a,w,h⟩:=hl;⟨a,w,h⟩⟩
  refine .inl ?_;unfold xW at b⊢;have e:(bn (DB n env).eval ⟨d,op,ty,pos,af,g⟩)=bn (DB n env).eval ⟨d,op,ty,pos,af,bd⟩:=by unfold bn;rfl
  rw[e];generalize (bn (DB n env).eval ⟨d,op,ty,pos,af,bd⟩).run P w=r at b⊢;cases r with
  |ok nx w'=>
    cases nx with
    |value v=>exact b
    |skip=>exact b
    |defer d=>exact b
    |enter f args=>
      refine Calls.mono b λe l j=>?_;cases e with
      |returned v=>exact j
      |panicked c=>exact j
      |outgrown=>exact j
    |row r args=>exact b
    |_=>exact b
  |halt x w'=>
    cases x<;>exact b
variable{w':ay}{rest:H ec}{T:bk}{x y:bt}
theorem oI{α:Type}{R:uO α}{E:bk}{sz bytes:Nat}{parts:Array (Nat×bt)}{len:Nat}{vs:H B}{xs:H α}(h:SH I M K w J)(i:Nat)(m:lK P T E sz bytes)(W:R.sz=sz)
  (l:(parts.toList.map λp=>(p.1,ev n env p.2))=vs.zipIdx.map λp=>(p.2,p.1)) (a:O vs=len) (o:Oe R w (SH.A M J) vs xs) (e:ly (len*sz) 16777216=bh)
  (k:∀w' u,SH I M K w' (cz J i (.own R E u xs))->Grow w w'->(∀b,ob u b->w.heap.size<=b)->WL P ops sc rest n (gp env d u) w'):
  WL P ops sc (⟨d,.buildSlice T len parts,ty,pos,af,bd⟩::rest) n env w:=by
 obtain⟨u,w',q,f,r,j⟩:=run_bs (d:=d) (ty:=ty) (pos:=pos) (af:=af) (g:=bd) m W l a o h.lt<|gE e;exact aC q<|k w' u (h.wJ i f r λb c=>py<|j b c) f λb c=>py<|j b c
theorem bF.fresh{a b c:ay}{N:BS}(h:Grow a b)(k:bF N b c)(hN:∀x,N x->a.heap.size<=x):Grow a c:=h.step k (λx d hl=>by have:=hN x d;omega)
end
open Go.RowKit Go.Deep
def Bd{α:Type}(P:cd)(T:bk)(R:uO α):Prop:=
 ∀(ZD:Type) (enc:bk×B->ZD) (w:ay) (spare:Nat->YU) (held:YU) (fuel:Nat) (cs:H B) (x:DataW ZD×H vl),tv enc P w 0 spare held fuel T cs=U x->∃d,R.rd w BE cs d
section
variable{P:cd}{T:bk}
theorem opens_int(a:P.underlying T=U (.int .i64)):Bd P T dL:=by
 intro ZD enc w spare held fuel cs x h;obtain⟨n,rfl,_,b⟩:=AF a h;exact⟨n,Z⟩
theorem opens_bool(a:P.underlying T=U .bool):Bd P T rBool:=by
 intro ZD enc w spare held fuel cs x h;obtain⟨b,rfl,_⟩:=DataW.trod_bool a h;exact⟨b,Z⟩
variable{α:Type}{R:uO α}
theorem Av{T E:bk}(X:P.underlying T=U (.slice E))(w0:P.cellsOf E=R.sz)(h:Bd P E R):Bd P T (ui R):=by
  intro ZD enc w spare held fuel cs x sc;rcases open_slice X sc with⟨rfl,rfl⟩|⟨a,len,cap,m,n,D,Pl,rfl,_,hl,hm,hmm,rfl,hel⟩
  · exact⟨[],_,Z,ek.nil⟩
  · have N:len<=m:=by rw[hmm];split<;>omega
    have y:∀i,i<len->∃d:α,∃b o cells F g,a=⟨b,o,bd⟩/\w.heap[b]? =U (.cells cells F g)/\R.rd w BE ((cells.toList.drop<|o+i*R.sz).take R.sz) d:=by
      intro i hi;obtain⟨c,K,h2⟩:=hel i V;obtain⟨d,ab⟩:=h ZD enc w spare held n c _ h2;refine⟨d,?_⟩;rw[w0]at K;obtain⟨_,Zs,l⟩:=wW K;have J:=R.pos;have r:a.spot=none:=by
        obtain⟨u,g1,_⟩:=hel 0 V;rw[w0]at g1;obtain⟨_,M,p⟩:=wW g1;have al:=p 0 J;rw[vj,add_add,hJ]at al;have:∃v,u[0]? =U v:=⟨u[0]'V,bl V⟩;obtain⟨v,aq⟩:=this;rw[aq]at al;have:=World.cell?_spot al;simpa[jH]using this
      obtain⟨b,o,sp⟩:=a;simp only at r;subst r;have t:∀k,(⟨b,o,bd⟩:od).add k=⟨b,o+k,bd⟩:=by
        intro k;unfold jH;split<;>simp_all
      have s:∀j,j<R.sz->w.cell? ⟨b,o+i*R.sz+j,bd⟩=c[j]? :=by
        intro j z;have:=l j z;rw[add_add,t]at this;rw[<-this,kj]
      have A:=s 0 J;have aq:c[0]? =U (c[0]'V):=bl V;rw[aq]at A;unfold fh at A;cases q:w.heap[b]? with
      |none=>simp[q]at A
      |some ob=>
        cases ob with
        |cells cells F g=>
          refine⟨b,o,cells,F,g,Z,q,?_⟩;have e:(cells.toList.drop<|o+i*R.sz).take R.sz=c:=by
            apply cP;intro j;rw[ca,ct];by_cases z:j<R.sz
            · rw[Z3 z,<-s j z];simp[fh,q]
            · rw[Z4 z,bE V]
          rw[e];exact ab
        |_=>simp[q]at A
    obtain⟨f,S⟩:∃f:(i:Nat)->i<len->α,∀i hi,∃b o cells F g,a=⟨b,o,bd⟩/\w.heap[b]? =U (.cells cells F g)/\R.rd w BE ((cells.toList.drop<|o+i*R.sz).take R.sz) (f i hi):=
      ⟨λi hi=>Classical.choose (y i hi),λi hi=>Classical.choose_spec (y i hi)⟩
    refine⟨List.ofFn λi:Fin len=>f i.val i.isLt,_,Z,U a,cap,by simp,by simpa using hl,hm,(λh=>by cases h),?_⟩;intro i hi;have C:i<len:=by simpa using hi
    obtain⟨b,o,cells,F,g,rfl,q,hr⟩:=S i C;refine⟨b,o,cells,F,g,Z,λh=>h,q,?_⟩;simpa using hr
variable{ZD:Type}{enc:bk×B->ZD}{w:ay}{spare:Nat->YU}{held:YU}{fs:Array Field}{cs:H B}
theorem Cg{fuel:Nat}{x:DataW ZD×H vl}(d:P.underlying T=U (.struct fs))(h:tv enc P w 0 spare held fuel T cs=U x):
    O cs=P.cellsOf T/\∃n:Nat,∀(i:Nat) (f:Field),fs[i]? =U f->∃y:DataW ZD×H vl,tv enc P w 0 spare held n f.type ((cs.drop f.offset).take (P.cellsOf f.type))=U y:=by
  obtain⟨xs,n,_,_,hl,a,c⟩:=DataW.trod_struct d h;refine⟨hl,n,λi f hi=>?_⟩;have:=c i f hi;have b:i<O xs:=by
    rw[a];rcases cG i fs.size with h1|h1
    · exact h1
    · rw[pe h1]at hi;cases hi
  rw[bl b]at this;exact⟨_,this⟩
variable{n:Nat}
theorem iA{i:Nat}{f:Field}(h:∀(i:Nat) (f:Field),fs[i]? =U f->∃y:DataW ZD×H vl,tv enc P w 0 spare held n (Field.type f) ((cs.drop f.offset).take (P.cellsOf f.type))=U y)(hi:fs[i]? =U f)(b:P.cellsOf f.type=R.sz)(c:Bd P f.type R):
  ∃d,R.rd w BE ((cs.drop f.offset).take R.sz) d:=by
 obtain⟨y,a⟩:=h i f hi;rw[b]at a;exact c ZD enc w spare held n _ _ a
theorem zZ{l:H B}{o:Nat}{v:B}(h:(l.drop o).take 1=[v]):l[o]? =U v:=by
 have:=ZS (λl=>l[0]?) h;simpa[ca,ct]using this
theorem wM{l:H α}(h:O l=n+1):∃a t,l=a::t/\O t=n:=by
 cases l with
 |nil=>simp at h
 |cons a t=>exact⟨a,t,rfl,by simpa using h⟩
theorem nobody:∀b,BE b->b<w.heap.size:=λ_ h=>h.elim
end
open Go.RowKit Go.MapKept
def aget(z:B)(jc:H (Int×B))(k:Int):Value:=match jc with|[]=>z|p::r=>if k=p.1 then p.2 else aget z r k
def Mz(jc:H (Int×B))(k:Int)(v:B):H (Int×B):=match jc with|[]=>[(k,v)]|p::r=>if k=p.1 then(p.1,v)::r else p::Mz r k v
def ahas(jc:H (Int×B))(k:Int):YU:=match jc with|[]=>aw|p::r=>if k=p.1 then bh else ahas r k
def WM(jc:H (Int×B))(k:Int)(i:Nat):L (Nat×B):=match jc with|[]=>bd|p::r=>if k=p.1 then U (i,p.2)else WM r k (i+1)
theorem KH{jc:H (Int×B)}{k:Int}:∀{es:H MapEntry} {i:Nat},es.map (λe=>(e.key,e.val))=jc.map (λp=>(dd .i64 p.1,p.2))->
    ua (.int .i64) (.int .i64 k) es i=U (WM jc k i):=by
  induction jc with
  |nil=>intro es i h;cases es with|nil=>rfl|cons e r=>simp at h
  |cons p r ih=>
    intro es i h;cases es with
    |nil=>simp at h
    |cons e s=>
      simp only[cr,List.cons.injEq,ie]at h;obtain⟨⟨b,c⟩,d⟩:=h;unfold ua WM;by_cases a:k=p.1
      · simp[ub,b,c,a]
      · have:(k==p.1)=false:=by simpa using a
        simp[ub,b,this,a,ih d]
theorem Mw{z:B}{k:Int}:∀{jc:H (Int×B)} {i:Nat},aget z jc k=match WM jc k i with|some (_,v)=>v|none=>z
  |[],i=>rfl
  |p::r,i=>by
    unfold aget WM;by_cases a:k=p.1
    · simp[a]
    · simp only[a,if_false];exact Mw
theorem GB{k:Int}{v:B}:∀{jc:H (Int×B)} {i:Nat},WM jc k i=bd->Mz jc k v=jc++[(k,v)]
  |[],i,_=>rfl
  |p::r,i,h=>by
    unfold WM at h;unfold Mz;by_cases a:k=p.1
    · simp[a]at h
    · simp only[a,if_false]at h⊢;rw[GB h];rfl
theorem F1{k:Int}{v u:B}:∀{jc:H (Int×B)} {i j:Nat},WM jc k i=U (j,u)->i<=j/\∃p,jc[j-i]? =U p/\p.1=k/\Mz jc k v=jc.set (j-i) (k,v)
  |[],i,j,h=>by cases h
  |p::r,i,j,h=>by
    unfold WM at h;unfold Mz;by_cases a:k=p.1
    · simp only[a,if_true,fb,ie]at h;obtain⟨rfl,_⟩:=h;refine⟨cl _,p,by simp,a.symm,?_⟩;simp[a]
    · simp only[a,if_false]at h⊢;obtain⟨e,q,b,d,c⟩:=F1 (v:=v) h;refine⟨by omega,q,?_,d,?_⟩
      · rw[show j-i=(j-(i+1))+1 by omega];simpa using b
      · rw[show j-i=(j-(i+1))+1 by omega,c];simp
section
variable{P:cd}{ops:Array ec}{sc:gd->Act->ay->Prop}{n:Nat}{env:Nat->B}{w w' I:ay}{M K:BS}{J:Nat->Chunk}{rest:H ec}
 {d:L Nat} {op:Op} {ty:bk} {pos:String} {af:Array hX} {v:B} {g:L (Nat×YU)} {T:bk} {ρ:bt->B}
structure D3(P:cd)(T:bk)(z:B):Prop where
  desc:∃K E,P.underlying T=U (.map K E)/\P.underlying K=U (.int .i64)/\(P.info? E).map (·.zero)=U (U z)
theorem P2:(bn ρ ⟨d,.makeMap T bd,ty,pos,af,g⟩).run P w=.ok (.value (.map (U w.heap.size))) (w.alloc (.map #[] 0)):=by
 simp[bn,Instr.makeMap,nF,-kn]
section
variable{k:Int}
theorem ckInt{e:YU}{K:bk}(a:P.underlying K=U (.int .i64)):(Instr.checkKey e 10000 K (.int .i64 k)).run P w=.ok () w:=
 run_checkKey a (by trivial) e 9999
variable{es:Array MapEntry}{c:Nat}
theorem LF.push(h:LF es c)(k v:B):LF (es.push {key:=k,val:=v,born:=c}) (c+1):=by
  refine⟨λe a=>?_,?_⟩
  · simp only[wX,dq,gA]at a;rcases a with a|rfl
    · exact Nat.lt_succ_of_lt<|h.1 e a
    · exact AG c
  · rw[wX,List.map_append,List.nodup_append];refine⟨h.2,by simp,λx b y d=>?_⟩;simp only[cr,jt,gA]at d;obtain⟨e,a,rfl⟩:=fi.1 b;have:=h.1 e a;omega
theorem LF.modify(h:LF es c)(j:Nat)(k v:B):LF (es.modify j λe=>{e with key:=k,val:=v}) c:=by
  have e:(es.modify j λe=>{e with key:=k,val:=v}).toList.map (·.born)=es.toList.map (·.born):=by
    apply cP;intro i;simp only[eo,iu,fk];by_cases hi:j=i
    · subst hi;cases es[j]? <;>simp
    · simp[hi]
  refine⟨λx b=>?_,by rw[e];exact h.2⟩;have:x.born∈(es.modify j λe=>{e with key:=k,val:=v}).toList.map (·.born):=fi.2 ⟨x,b,Z⟩;rw[e]at this;obtain⟨y,d,a⟩:=fi.1 this;rw[<-a];exact h.1 y d
variable{z:B}{b:Nat}{jc:H (Int×B)}
theorem r_lookup{x y:bt}(m:D3 P T z)(l:ρ x=.map (U b))(o:ρ y=.int .i64 k)(c:Oc w b jc):
  (bn ρ ⟨d,.lookup T x y aw,ty,pos,af,g⟩).run P w=.ok (.value (aget z jc k)) w:=by
 obtain⟨K,E,t,j,f⟩:=m.desc;obtain⟨es,a,c,u,r⟩:=c;obtain⟨i,hi,n⟩:∃i,P.info? E=U i/\i.zero=U z:=by
  cases hi:P.info? E with
  |none=>simp[hi]at f
  |some i=>simp[hi]at f;exact⟨i,Z,f⟩
 have v:=KH (k:=k) (i:=0) u;have s:(kx b).run P w=.ok (.map es a) w:=by simp[kx,lA,c]
 rw[Mw (z:=z) (k:=k) (jc:=jc) (i:=0)];simp only[bn,Cp,cF,l,o];have q:=λe=>ckInt (P:=P) (w:=w) (e:=e) (K:=K) (k:=k) j;simp only[cD,gf,bT,t,cR,s,q,iv,cF,j,v];cases ha:WM jc k 0 with
 |none=>simp[mL,ee,hi,n]
 |some p=>simp
variable{x y u:bt}
theorem wl_mapUpdate(X:D3 P T z)(w0:ev n env x=.map (U b))(M:ev n env y=.int .i64 k)(S:ev n env u=v)(c:Oc w b jc)(h:∀w',bF (λx=>x=b) w w'->Oc w' b (Mz jc k v)->WL P ops sc rest n (gp env d gC) w'):
    WL P ops sc (⟨d,.mapUpdate T x y u,ty,pos,af,bd⟩::rest) n env w:=by
  obtain⟨K,E,R,aq,h3⟩:=X.desc;obtain⟨es,a,c,s,r⟩:=c;have t:=KH (k:=k) (i:=0) s;have ab:(kx b).run P w=.ok (.map es a) w:=by simp[kx,lA,c]
  have m:=jf c;have N:=λe=>ckInt (P:=P) (w:=w) (e:=e) (K:=K) (k:=k) aq;have o:O es.toList=O jc:=by have:=ZS O s;simpa using this
  cases ha:WM jc k 0 with
  |none=>
    refine BO (w':=yA w b<|.map (es.push {key:=.int .i64 k,val:=v,born:=a})<|a+1) ?_<|h _ (bF.yA _ _ _) ⟨_,_,wK m,?_,r.push _ _⟩
    · rw[ha]at t;simp only[bn,mx,cF,w0,M,S];simp only[cD,gf,bT,R,cR,ab,N,iv,cF,aq,t,run_setObj_map _ c];rfl
    · rw[GB ha];simp[s]
  |some p=>
    obtain⟨j,u0⟩:=p;obtain⟨_,q,A,F,C6⟩:=F1 (v:=v) ha;simp only[Nat.sub_zero]at A C6;have C:j<es.size:=by
      have f:j<O jc:=by
        rcases cG j (O jc) with f|f
        · exact f
        · rw[bE f]at A;cases A
      simpa[<-o]using f
    have g:es[j].key=.int .i64 k:=by
      have Zs:=ZS (λl=>l[j]?) s;simp[A,C]at Zs;rw[Zs.1,F]
    refine BO (w':=yA w b<|.map (es.modify j λe=>{e with key:=.int .i64 k,val:=v}) a) ?_<|h _ (bF.yA _ _ _) ⟨_,_,wK m,?_,r.modify _ _ _⟩
    · rw[ha]at t;have al:(kb (.int .i64 k)<|.int .i64 k).run P w=.ok (.int .i64 k) w:=by simp[kb,AH]
      simp only[bn,mx,cF,w0,M,S];simp only[cD,gf,bT,R,cR,ab,N,iv,cF,aq,t,jx C,dt,fR,g,al,run_setObj_map _ c];rfl
    · rw[C6,List.map_set,<-s];apply cP;intro i;simp only[eo,iu,fk,fL,dr,cx];by_cases hi:j=i
      · subst hi;simp[C]
      · simp[hi]
theorem wl_insert(X:D3 P T z)(w0:ev n env x=.map (U b))(M:ev n env y=.int .i64 k)(S:ev n env u=v)(c:Oc w b jc)(h:∀w',bF (λx=>x=b) w w'->Oc w' b (Mz jc k v)->WL P ops sc rest n (gp env d gC) w'):
    WL P ops sc (⟨d,.insert T x y u,ty,pos,af,bd⟩::rest) n env w:=by
  obtain⟨K,E,R,aq,h3⟩:=X.desc;obtain⟨es,a,c,s,r⟩:=c;have t:=KH (k:=k) (i:=0) s;have ab:(kx b).run P w=.ok (.map es a) w:=by simp[kx,lA,c]
  have m:=jf c;have N:=λe=>ckInt (P:=P) (w:=w) (e:=e) (K:=K) (k:=k) aq;have o:O es.toList=O jc:=by have:=ZS O s;simpa using this
  cases ha:WM jc k 0 with
  |none=>
    refine BO (w':=yA w b<|.map (es.push {key:=.int .i64 k,val:=v,born:=a})<|a+1) ?_<|h _ (bF.yA _ _ _) ⟨_,_,wK m,?_,r.push _ _⟩
    · rw[ha]at t;simp only[bn,mx,cF,w0,M,S];simp only[cD,gf,bT,R,cR,ab,N,iv,cF,aq,t,run_setObj_map _ c];rfl
    · rw[GB ha];simp[s]
  |some p=>
    obtain⟨j,u0⟩:=p;obtain⟨_,q,A,F,C6⟩:=F1 (v:=v) ha;simp only[Nat.sub_zero]at A C6;have C:j<es.size:=by
      have f:j<O jc:=by
        rcases cG j (O jc) with f|f
        · exact f
        · rw[bE f]at A;cases A
      simpa[<-o]using f
    have g:es[j].key=.int .i64 k:=by
      have Zs:=ZS (λl=>l[j]?) s;simp[A,C]at Zs;rw[Zs.1,F]
    refine BO (w':=yA w b<|.map (es.modify j λe=>{e with key:=.int .i64 k,val:=v}) a) ?_<|h _ (bF.yA _ _ _) ⟨_,_,wK m,?_,r.modify _ _ _⟩
    · rw[ha]at t;have al:(kb (.int .i64 k)<|.int .i64 k).run P w=.ok (.int .i64 k) w:=by simp[kb,AH]
      simp only[bn,mx,cF,w0,M,S];simp only[cD,gf,bT,R,cR,ab,N,iv,cF,aq,t,jx C,dt,fR,g,al,run_setObj_map _ c];rfl
    · rw[C6,List.map_set,<-s];apply cP;intro i;simp only[eo,iu,fk,fL,dr,cx];by_cases hi:j=i
      · subst hi;simp[C]
      · simp[hi]
theorem aidx_has:∀{jc:H (Int×B)} {i:Nat},ahas jc k=(WM jc k i).isSome
  |[],i=>rfl
  |p::r,i=>by
    unfold ahas WM;by_cases a:k=p.1
    · simp[a]
    · simp only[a,if_false];exact aidx_has
theorem r_lookup2{x y:bt}(m:D3 P T z)(l:ρ x=.map (U b))(o:ρ y=.int .i64 k)(c:Oc w b jc):
  (bn ρ ⟨d,.lookup T x y bh,ty,pos,af,g⟩).run P w=.ok (.value (.tuple #[aget z jc k,.bool (ahas jc k)])) w:=by
 obtain⟨K,E,t,j,f⟩:=m.desc;obtain⟨es,a,c,u,r⟩:=c;obtain⟨i,hi,n⟩:∃i,P.info? E=U i/\i.zero=U z:=by
  cases hi:P.info? E with
  |none=>simp[hi]at f
  |some i=>simp[hi]at f;exact⟨i,Z,f⟩
 have v:=KH (k:=k) (i:=0) u;have s:(kx b).run P w=.ok (.map es a) w:=by simp[kx,lA,c]
 rw[Mw (z:=z) (k:=k) (jc:=jc) (i:=0),aidx_has (i:=0)];simp only[bn,Cp,cF,l,o];have q:=λe=>ckInt (P:=P) (w:=w) (e:=e) (K:=K) (k:=k) j;simp only[cD,gf,bT,t,cR,s,q,iv,cF,j,v];cases ha:WM jc k 0 with
 |none=>simp[mL,ee,hi,n]
 |some p=>simp
def lk{α:Type}(k:Int):H (Int×α)->L α
 |[]=>bd
 |p::r=>if k=p.1 then U p.2 else lk k r
variable{α:Type}{f:α->B}
theorem Ik{z:α}:∀(l:H (Int×α)),aget (f z) (l.map λp=>(p.1,f p.2)) k=f ((lk k l).getD z)
  |[]=>rfl
  |p::r=>by
    show(if k=p.1 then f p.2 else aget _ _ k)=f ((if k=p.1 then U p.2 else lk k r).getD z);by_cases h:k=p.1
    · simp[h]
    · simp only[h,if_false];exact Ik r
theorem ahas_lk:∀(l:H (Int×α)),ahas (l.map λp=>(p.1,f p.2)) k=(lk k l).isSome
  |[]=>rfl
  |p::r=>by
    show(if k=p.1 then bh else ahas _ k)=(if k=p.1 then U p.2 else lk k r).isSome;by_cases h:k=p.1
    · simp[h]
    · simp only[h,if_false];exact ahas_lk r
variable{zz:α}
theorem r_lk2{x y:bt}(l:H (Int×α))(h:SH I M K w J)(i:Nat)(hi:J i=.mp b jc)(c:D3 P T z)(a:ρ x=.map (U b))(m:ρ y=.int .i64 k)(j:z=f zz)(e:jc=l.map λp=>(p.1,f p.2)):
  (bn ρ ⟨d,.lookup T x y bh,ty,pos,af,g⟩).run P w=.ok (.value (.tuple #[f ((lk k l).getD zz),.bool (lk k l).isSome])) w:=by
 have:=r_lookup2 (d:=d) (ty:=ty) (pos:=pos) (af:=af) (g:=g) c a m<|h.mpAt i hi;rw[j,e,Ik,ahas_lk]at this;exact this
theorem r_lk1{x y:bt}(l:H (Int×α))(h:SH I M K w J)(i:Nat)(hi:J i=.mp b jc)(c:D3 P T z)(a:ρ x=.map (U b))(m:ρ y=.int .i64 k)(j:z=f zz)(e:jc=l.map λp=>(p.1,f p.2)):
  (bn ρ ⟨d,.lookup T x y aw,ty,pos,af,g⟩).run P w=.ok (.value (f ((lk k l).getD zz))) w:=by
 have:=r_lookup (d:=d) (ty:=ty) (pos:=pos) (af:=af) (g:=g) c a m<|h.mpAt i hi;rw[j,e,Ik]at this;exact this
theorem K9(h:SH I M K w J)(i:Nat)(k:∀w' b,SH I M K w' (cz J i (.mp b []))->WL P ops sc rest n (gp env d (.map (U b))) w'):WL P ops sc (⟨d,.makeMap T bd,ty,pos,af,bd⟩::rest) n env w:=
 aC P2 (k _ _ (h.learn i (Grow.alloc _ _) (λb a=>py a.symm) ⟨#[],0,Pt _ _,rfl,by simp[LF]⟩))
theorem SH.mpSet{jc nA:H (Int×B)}(h:SH I M K w J)(i:Nat)(hi:J i=.mp b jc)(c:bF (λx=>x=b) w w')(d:Oc w' b nA):SH I M K w' (cz J i (.mp b nA)):=
 h.step i c (λx a _=>by rw[hi];exact a) (λx a _=>by rw[hi];exact a) d
theorem kr{jc nA:H (Int×B)}(h:SH I M K w J)(i:Nat)(hi:J i=.mp b jc)(c:D3 P T z)(a:ev n env x=.map (U b))(l:ev n env y=.int .i64 k)(g:ev n env u=v)(f:Mz jc k v=nA)(kk:∀w',SH I M K w' (cz J i (.mp b nA))->WL P ops sc rest n (gp env d gC) w'):WL P ops sc (⟨d,.insert T x y u,ty,pos,af,bd⟩::rest) n env w:=
 wl_insert c a l g (h.mpAt i hi) λw' j e=>kk w' (h.mpSet i hi j (f▸e))
theorem Tu{jc nA:H (Int×B)}(h:SH I M K w J)(i:Nat)(hi:J i=.mp b jc)(c:D3 P T z)(a:ev n env x=.map (U b))(l:ev n env y=.int .i64 k)(g:ev n env u=v)(f:Mz jc k v=nA)(kk:∀w',SH I M K w' (cz J i (.mp b nA))->WL P ops sc rest n (gp env d gC) w'):WL P ops sc (⟨d,.mapUpdate T x y u,ty,pos,af,bd⟩::rest) n env w:=
 wl_mapUpdate c a l g (h.mpAt i hi) λw' j e=>kk w' (h.mpSet i hi j (f▸e))
end
end
theorem SH.Wl{w:ay}{M K:BS}{J:Nat->Chunk}{I:ay}{b:Nat}{cs:H B}(h:SH I M K w J)(i:Nat)(ho:∃E,w.heap[b]? =U (.cells (ar cs) E (0,0)))(hn:∀b,¬kg J b):SH I M K w (cz J i (.pt b 0 cs)):=by
 obtain⟨E,ho⟩:=ho;exact h.know i (λ_ h=>h) ⟨hn b,_,_,_,ho,by simp⟩
open Go.RowKit
def DM(s:vh)(c:UInt8):YU:=G (0<=Go.Lib.indexByte s c)
section
variable{P:cd}{ops:Array ec}{sc:gd->Act->ay->Prop}{n:Nat}{env:Nat->B}{w:ay}{rest:H ec}
 {d:L Nat} {ty:bk} {pos:String} {af:Array hX} {v:B} {x:bt}
theorem Vb{f:nd}(captured:H B){xs:Array bt}{ts:Array bk}{args:H B}{j dj:Nat}{b want:YU}(c:YU)(l:(ops[j]?).bind (·.dst)=U dj)(i:ev n env (.tmp dj)=gv c (.bool b))(u:VR P f)(m:(c&&(b==want))=bh->ev n env x=.func (.func f) #[] (ar captured))
    (q:(c&&(b==want))=bh->xs.toList.map (ev n env)++captured=args) (s:bp P f (ar args) w (λe w'=>Grow w w'/\e=.returned v))
    (k:∀w',Grow w w'->WL P ops sc rest n (gp env d (gv (c&&(b==want)) v)) w'):
    WL P ops sc (⟨d,.call {callee:=.value x,args:=xs,argTypes:=ts},ty,pos,af,U (j,want)⟩::rest) n env w:=by
  by_cases a:(c&&(b==want))=bh
  · have o:=gl a;have t:=gr a;rw[iY o]at i;have p:b=want:=by simpa using t
    subst p;refine YW l i<|OJ u (m a) (by simpa using q a) s ?_;rintro e w'⟨r,rfl⟩;refine⟨_,Z,?_⟩;have:=k w' r;rw[iY a]at this;exact this
  · have g:(c&&(b==want))=false:=by simpa using a
    have h:=k w<|bF.refl _ _;rw[g]at h;cases c with
    |true=>exact ny l i (by simpa using g) h
    |false=>exact wl_offU l i h
theorem O2{f:nd}(captured:H B){xs:Array bt}{ts:Array bk}{args:H B}{j dj:Nat}{b want:YU}(i:(ops[j]?).bind (·.dst)=U dj)(a:ev n env (.tmp dj)=.bool b)(m:VR P f)(l:(b==want)=bh->ev n env x=.func (.func f) #[] (ar captured))
    (c:(b==want)=bh->xs.toList.map (ev n env)++captured=args) (g:bp P f (ar args) w (λe w'=>Grow w w'/\e=.returned v))
    (k:∀w',Grow w w'->WL P ops sc rest n (gp env d (gv (b==want) v)) w'):
    WL P ops sc (⟨d,.call {callee:=.value x,args:=xs,argTypes:=ts},ty,pos,af,U (j,want)⟩::rest) n env w:=
  Vb captured bh i a m (λh=>l (by simpa using h)) (λh=>c (by simpa using h)) g (by simpa using k)
end
open Go.RowKit
section
variable{P:cd}{ops:Array ec}{sc:gd->Act->ay->Prop}{n:Nat}{env:Nat->B}{w w' I:ay}{M K:BS}{J:Nat->Chunk}{rest:H ec}
 {d:L Nat} {op:Op} {ty:bk} {pos:String} {af:Array hX} {v:B} {g:L (Nat×YU)} {T:bk} {ρ:bt->B}
theorem Y7{x:bt}{T E:bk}{sz:Nat}{a:L od}{l c:Nat}(e:SliceOf P T E sz)(b:ρ x=.slice a l c):
  (bn ρ ⟨d,.call {callee:=.builtin .cap,args:= #[x],argTypes:= #[T]},ty,pos,af,g⟩).run P w=.ok (.value (.int .i64 c)) w:=by
 simp[bn,jM,mA,mb,Builtin.cap_,b,cF,e.desc,goInt]
theorem Sz(w:ay)(t u ty e:bk)(i:TypeInfo)(z:B)(C:P.underlying t=U (.slice e))(o:P.underlying u=U (.int .i64))(hi:P.info? e=U i)(x:i.zero=U z)(W:0<i.size)
  (b:od) (a c:Nat) (d:H B) (p:O d=a*i.size) (holds:∀j v,d[j]? =U v->w.cell? (b.add j)=U v)
  (n:Nat) (E:0<n) (F:c<a+n) (aq:((a+n:Nat):Int)<=9223372036854775807) (s:lj (a+n) c*i.bytes<=281474976710656) (y:n*i.bytes<=281474976710656):
  (jy #[t,u] ty #[.slice (U b) a c,.int .i64 n]).run P w=
   .ok (.slice (U ⟨w.heap.size,0,bd⟩) (a+n) (iJ w (a+n) c e))
    (w.drew.alloc (.cells (ar d++cH z.cells n++cH z.cells (iJ w (a+n) c e-(a+n))) e)):=by
 have hn:¬(a+n<=c):=by omega
 have f:n≠0:=by omega
 have m:¬(9223372036854775807<((a:Int)+(n:Int))):=by omega
 have k:¬(281474976710656<lj (a+n) c*i.bytes):=by omega
 have A:IntKind.i64.wrap (n:Int)=n:=by rw[IntKind.wrap_i64];omega
 have l:¬(281474976710656<(n:Int)*(i.bytes:Int)):=by
  rw[<-Bx];omega
 have g:¬((n:Int)<0):=by omega
 have r:¬(n*i.size=0):=Nat.mul_ne_zero f V;have q:=run_firstCells_some (P:=P) w.drew i.size a b a c d p (by simpa using holds);simp[jy,vm C,vm o,hQ,ee,mL,hi,x,asInt,ks,A,hn,f,g,r,m,k,l,Question.forced,q,yb,iJ]
theorem wl_growRaw{x y:bt}{E o:bk}{sz bytes gg cap a k:Nat}{cur:H B}(C:lK P T E sz bytes)(ab:P.underlying o=U (.int .i64))(w0:Raw w gg cap sz E cur)(M:ev n env x=.slice (U ⟨gg,0,bd⟩) a cap)(N:ev n env y=.int .i64 (k:Nat))(W:0<sz)(aq:a<=cap)(R:0<k)(S:cap<a+k)
    (X:(a+k)*bytes<=140737488355328) (K:a+k<=mC)
    (h:∀w' g2 b c,Grow w w'->w.heap.size<=g2->a+k<=b->Raw w' g2 b sz E c->c.take (a*sz)=cur.take (a*sz)->WL P ops sc rest n (gp env d (.slice (U ⟨g2,0,bd⟩) (a+k) b)) w'):
    WL P ops sc (⟨d,.call {callee:=.builtin .append,args:= #[x,y],argTypes:= #[T,o]},ty,pos,af,bd⟩::rest) n env w:=by
  obtain⟨i,z,hi,Zs,s,e,q⟩:=C.info;have F:a*sz<=cap*sz:=bj _ aq;have al:=w0.len;have l:O (cur.take<|a*sz)=a*sz:=by rw[cf];omega
  have holds:∀j u,(cur.take<|a*sz)[j]? =U u->w.cell? ((⟨gg,0,bd⟩:od).add j)=U u:=by
    intro j u p;rw[FT,hJ];rw[ca]at p;split at p
    · simp[fh,w0.blk,p]
    · cases p
  have A:((a+k:Nat):Int)<=9223372036854775807:=by simp only[mC]at K;omega
  have t:lj (a+k) cap<=2*(a+k):=by
    exact nextslicecap_le V
  have g:lj (a+k) cap*i.bytes<=281474976710656:=by
    have:=bj i.bytes t;rw[Nat.mul_assoc,e]at this;rw[e];omega
  have r:k*i.bytes<=281474976710656:=by
    rw[e];have:k*bytes<=(a+k)*bytes:=bj _ V;omega
  have f:=Sz (P:=P) w T o ty E i z C.desc ab hi Zs V ⟨gg,0,bd⟩ a cap (cur.take (a*sz)) (by rw[s];exact l) holds k R S A g r;have m:(bn (ev n env) ⟨d,.call {callee:=.builtin .append,args:= #[x,y],argTypes:= #[T,o]},ty,pos,af,bd⟩).run P w=.ok (.value<|.slice (U ⟨w.heap.size,0,bd⟩) (a+k)<|iJ w (a+k) cap E) (w.drew.alloc<|.cells (ar (cur.take<|a*sz)++cH z.cells k++cH z.cells (iJ w (a+k) cap E-(a+k))) E):=by
    simp only[bn,jM,mA,mb,cD,cR,bT,hS,cr,jt,M,N,f]
  have E0:=AI w (a+k) cap E;have v:iJ w (a+k) cap E<=maxLen:=tg w (a+k) cap E K;refine aC m<|h _ _ _ ((cur.take<|a*sz)++(cH z.cells k).toList++(cH z.cells<|iJ w (a+k) cap E-(a+k)).toList) ?_ (cl _) E0 ⟨?_,?_,v⟩ ?_
  · exact(Grow.drew w).trans<|Grow.alloc _ _
  · have:=heap_alloc_new w.drew<|.cells (ar (cur.take<|a*sz)++cH z.cells k++cH z.cells (iJ w (a+k) cap E-(a+k))) E;rw[show ar ((cur.take (a*sz))++(cH z.cells k).toList++(cH z.cells (iJ w (a+k) cap E-(a+k))).toList)=(ar (cur.take (a*sz))++cH z.cells k++cH z.cells (iJ w (a+k) cap E-(a+k))) by apply mS;simp];exact this
  · rw[bm,bm,l,cx,cx,oY,oY,q,<-cj,<-cj];congr 1;omega
  · rw[cg,de V,ku V]
theorem run_copyN(w:ay)(dT p ty d:bk)(i:TypeInfo)(g o c k:Nat)(a:od)(b l:Nat)(cur:Array B)(t:bk)(cs:H B)
  (r:P.underlying dT=U (.slice d)) (hi:P.info? d=U i)
  (n:w.heap[g]? =U (.cells cur t (0,0))) (hn:O cs=lE b c*i.size)
  (f:∀j v,cs[j]? =U v->w.cell? (a.add j)=U v) (e:o+O cs<=cur.size) (q:∀v∈cs,v.oneCell'=bh):
  (zv #[dT,p] ty #[.slice (U ⟨g,o,bd⟩) c k,.slice (U a) b l]).run P w=
   .ok (goInt (lE b c)) (w.setRow g (ar (cur.toList.take o++cs++cur.toList.drop (o+O cs)))):=by
 have hl:=Cf (P:=P) w a cs f;have m:=tr P g o t cs 0 cur w n (by simpa using e) q;simp[zv,vm r,tt,qS,hQ,ee,hi,<-hn,hl,m]
theorem Rb{x y:bt}{E p:bk}{sz bytes gg cap o dl dc m c:Nat}{cur news:H B}{ad:od}(r:lK P T E sz bytes)(g:Raw w gg cap sz E cur)(A:ev n env x=.slice (U ⟨gg,o*sz,bd⟩) dl dc)(aq:ev n env y=.slice (U ad) m c)
  (hl:O news=lE m dl*sz) (e:∀j u,news[j]? =U u->w.cell? (ad.add j)=U u) (v:∀u∈news,u.oneCell'=bh) (f:o+lE m dl<=cap)
  (h:∀w',bF (λx=>x=gg) w w'->Raw w' gg cap sz E (cur.take (o*sz)++news++cur.drop (o*sz+O news))->WL P ops sc rest n (gp env d (.int .i64 (lE m dl:Nat))) w'):
  WL P ops sc (⟨d,.call {callee:=.builtin .copy,args:= #[x,y],argTypes:= #[T,p]},ty,pos,af,bd⟩::rest) n env w:=by
 obtain⟨i,z,hi,C,l,t,s⟩:=r.info;have b:=g.len;have q:o*sz+O news<=cap*sz:=by rw[hl,<-cj];exact bj _ f
 have a:=run_copyN (P:=P) w T p ty E i gg (o*sz) dl dc ad m c (ar cur) E news r.desc hi g.blk (by rw[l];exact hl) e (by simpa[b]using q) v;rw[Od g.blk]at a;have k:(bn (ev n env) ⟨d,.call {callee:=.builtin .copy,args:= #[x,y],argTypes:= #[T,p]},ty,pos,af,bd⟩).run P w=.ok (.value<|.int .i64 (lE m dl:Nat)) (yA w gg<|.cells (ar (cur.take (o*sz)++news++cur.drop (o*sz+O news))) E (0,0)):=by
  simp only[bn,jM,mA,mb,cD,cR,bT,hS,cr,jt,A,aq,a];rfl
 refine aC k<|h _ (bF.yA _ _ _) ⟨wK<|jf g.blk,?_,g.le⟩;rw[bm,bm,cf,cQ,b];omega
structure OverFn(P:cd)(f:nd)(T aq:bk):Prop where
 out:∀(args:Array B) (w:ay),(callFunc f args).run P w=((Extern.SlicesOverlaps.overlaps #[T,T] #[aq] args).run P w).andThen λv w'=>.ok (.value v) w'
theorem wl_overlaps{x:bt}{xs:Array bt}{ts:Array bk}{f:nd}{E aq:bk}{sz bytes g1 g2 c2 o1 o2 m1 m2 k1 k2:Nat}{a b:H B}{p:bk}(u:OverFn P f T aq)(o:lK P T E sz bytes)(j:w.heap[g1]? =U (.cells (ar a) p (0,0)))(q:Raw w g2 c2 sz E b)(g:g1≠g2)(m:0<c2*sz)
  (t:ev n env x=.func (.func f) #[] #[]) (l:xs.toList.map (ev n env)=[.slice (U ⟨g1,o1,bd⟩) m1 k1,.slice (U ⟨g2,o2,bd⟩) m2 k2])
  (h:WL P ops sc rest n (gp env d (.bool aw)) w):
  WL P ops sc (⟨d,.call {callee:=.value x,args:=xs,argTypes:=ts},ty,pos,af,bd⟩::rest) n env w:=by
 obtain⟨i,z,hi,v,k,s,r⟩:=o.info;have ho:=Lib.run_overlaps_apart (P:=P) w T aq E o.desc sz (λw=>by simp[hQ,ee,hi,k]) ⟨g1,o1,bd⟩ ⟨g2,o2,bd⟩ m1 k1 m2 k2 g p E (O a) (O b) (by simp[Cx,j]) (by simp[Cx,q.blk]) (by rw[q.len];omega) (by simp[qX,j]) (by simp[qX,j]);have e:xs.map (ev n env)= #[.slice (U ⟨g1,o1,bd⟩) m1 k1,.slice (U ⟨g2,o2,bd⟩) m2 k2]:=by
  apply mS;simpa using l
 have c:=u.out #[.slice (U ⟨g1,o1,bd⟩) m1 k1,.slice (U ⟨g2,o2,bd⟩) m2 k2] w;rw[ho]at c;refine aC ?_ h;simp only[bn,jM,t,Deferred.ofValue,mA];simp[e,c]
end
open Go.RowKit
section
variable{β:Type}
theorem ins_l1{C X:H β}{p s:Nat}(a:O X=s)(J:p<=O C):(C.take p++X++C.drop (p+s)).take (p+s)=C.take p++X:=by
 have h:O (C.take p++X)=p+s:=by simp[a];omega
 rw[<-h,jz]
theorem ins_l2{aq D R:H β}{p q:Nat}(b:p<=O aq)(a:O D=q):(aq.take p++D++R).take (p+q)=aq.take p++D:=by
 have h:O (aq.take p++D)=p+q:=by simp[a];omega
 rw[<-h,jz]
theorem ins_l3{C X D R:H β}{p s q:Nat}(c:O X=s)(J:p+s<=O C)(e:O D=q):
  ((C.take (p+s)++D++R).take p++X++(C.take (p+s)++D++R).drop (p+s)).take (p+s+q)=C.take p++X++D:=by
 have d:O (C.take<|p+s)=p+s:=by simp;omega
 have f:(C.take (p+s)++D++R).take p=C.take p:=by
  rw[cg,de V,eg,cX V]
 have a:(C.take (p+s)++D++R).drop (p+s)=D++R:=by
  rw[cg];exact AK d
 rw[f,a,<-cg];have b:O (C.take p++X++D)=p+s+q:=by simp[c,e];omega
 rw[<-b,jz]
end
theorem raw_ins{α:Type}{R:uO α}{E:bk}{w w':ay}{A N:BS}{l:H α}{x:α}{gg g2 c i:Nat}{cur f g:H B}(v:Raw w' g2 c R.sz E f)(Zs:bF (λy=>y=gg) w w')(s:g2<w.heap.size->g2=gg)(hi:i<=O l)(T:O l+1<=c)(P:O l*R.sz<=O cur)
    (q:∀k (h:k<O l),R.rd w (λb=>A b\/b=gg) ((cur.drop (k*R.sz)).take R.sz) l[k]) (K:R.rd w N g x) (hN:∀b,(A b\/b=gg)->b<w.heap.size->N b) (ab:gg<w.heap.size)
    (S:f.take (i*R.sz+R.sz+(O l-i)*R.sz)=cur.take (i*R.sz)++g++(cur.drop (i*R.sz)).take ((O l-i)*R.sz)):
    dz R E w' A (.slice (U ⟨g2,0,bd⟩) (O l+1) c) (l.take i++[x]++l.drop i):=by
  have d:O (l.take i++[x]++l.drop i)=O l+1:=by simp;omega
  have n:=R.len K;have sc:i*R.sz<=O l*R.sz:=bj _ hi;have m:(O l-i)*R.sz=O l*R.sz-i*R.sz:=tj _ _ _;have p:O (cur.take<|i*R.sz)=i*R.sz:=by rw[cf];omega
  have w0:(O l+1)*R.sz=i*R.sz+R.sz+(O l-i)*R.sz:=by rw[cj,m];omega
  have r:∀cs a,R.rd w (λb=>A b\/b=gg) cs a->R.rd w' (λb=>A b\/ob (.slice (U ⟨g2,0,bd⟩) (O l+1) c) b) cs a:=λcs a h=>
    R.go h Zs (λb e _=>.inr e) (λb e hl=>e.elim .inl (λe=>.inr (by have:b=g2:=e;subst this;exact s hl)))
  have F:R.rd w' (λb=>A b\/ob (.slice (U ⟨g2,0,bd⟩) (O l+1) c) b) g x:=
    R.go K Zs (λb e hl=>hN b (.inr e) hl) (λb e hl=>hN b (e.elim .inl (λe=>.inr (by have:b=g2:=e;subst this;exact s hl))) hl)
  refine⟨cur.take (i*R.sz)++g++(cur.drop<|i*R.sz).take ((O l-i)*R.sz),⟨?_,.inr ⟨g2,c,ar f,?_,gk _,v.blk,?_,v.le,?_,?_⟩⟩,?_⟩
  · rw[d,w0,bm,bm,p,n,cf,cQ,m];omega
  · rw[d]
  · rw[d];omega
  · simpa using v.len
  · rw[d,w0];exact S
  · intro k C;rw[d]at C;by_cases u:k<i
    · have o:(k+1)*R.sz<=i*R.sz:=bj _ u;rw[cj]at o;have aq:=r _ _<|q k V;have t:(l.take i++[x]++l.drop i)[k]'(by rw[d];omega)=l[k]'V:=by
        rw[fm (by simp;omega),fm (by simp;omega),og]
      rw[t,cg,ia V,de (by rw[cQ];omega),et,eg,cX V];exact aq
    · by_cases al:k=i
      · subst al;have t:(l.take k++[x]++l.drop k)[k]'(by rw[d];omega)=x:=by
          rw[fm (by simp;omega),gD (by simp;omega)];simp
        rw[t,cg];have z:(cur.take (k*R.sz)++(g++(cur.drop<|k*R.sz).take ((O l-k)*R.sz))).drop (k*R.sz)=g++(cur.drop<|k*R.sz).take ((O l-k)*R.sz):=by
          exact AK p
        rw[z,<-n,jz];exact F
      · obtain⟨j,rfl⟩:∃j,k=i+1+j:=⟨k-i-1,by omega⟩;have aq:=r _ _<|q (i+j) V;have t:(l.take i++[x]++l.drop i)[i+1+j]'(by rw[d];omega)=l[i+j]'V:=by
          rw[gD (by simp;omega),sB];congr 1;simp;omega
        have M:O (cur.take (i*R.sz)++g)=i*R.sz+R.sz:=by rw[bm,p,n]
        have z:(cur.take (i*R.sz)++g++(cur.drop<|i*R.sz).take ((O l-i)*R.sz)).drop ((i+1+j)*R.sz)=((cur.drop<|i*R.sz).take ((O l-i)*R.sz)).drop (j*R.sz):=by
          rw[show(i+1+j)*R.sz=O (cur.take (i*R.sz)++g)+j*R.sz by rw[M,cj,cj,ti]];rw[lz];have:(cur.take (i*R.sz)++g).drop (O (cur.take (i*R.sz)++g)+j*R.sz)=[]:=cC V;rw[this,cc];congr 1;omega
        have o:(j+1)*R.sz<=(O l-i)*R.sz:=bj _ V;rw[cj]at o;rw[t,z,et,eg,cX V,pZ,<-cj];exact aq
def ins1{α:Type}(l:H α)(i:Int)(m:H α):L (H α):=if 0<=i/\i<=O l then U (l.take i.toNat++m++l.drop i.toNat)else bd
theorem o_ins{α:Type}{l r m:H α}{i:Int}(h:ins1 l i m=U r):∃a:Nat,i=a/\a<=O l/\r=l.take a++m++l.drop a:=by
  unfold ins1 at h;by_cases J:0<=i/\i<=O l
  · rw[Z3 J]at h;cases h;exact⟨i.toNat,by omega,by omega,Z⟩
  · rw[Z4 J]at h;cases h
theorem Vd{w:ay}{gg cap sz:Nat}{E:bk}{cur:H B}(b:Raw w gg cap sz E cur)(o k:Nat):∀j u,((cur.drop o).take k)[j]? =U u->w.cell? ((⟨gg,o,bd⟩:od).add j)=U u:=by
  intro j u a;rw[FT];rw[ca]at a;split at a
  · rw[ct]at a;simp[fh,b.blk,a]
  · cases a
theorem dz.srcO{α:Type}{R:uO α}{E:bk}{w:ay}{A:BS}{v:B}{l:H α}(h:dz R E w A v l):ek R w BE (λb=>A b\/ob v b) v l:=by
  obtain⟨xs,a,c⟩:=h;rcases a.2 with⟨rfl,hn⟩|⟨g,cap,cur,rfl,e1,e2,e3,e4,e5,e6⟩
  · have:l=[]:=cA hn;subst this;exact ek.nil
  · refine⟨U ⟨g,0,bd⟩,cap,Z,e3,e4,(λh=>by cases h),λi hi=>⟨g,0,cur,E,(0,0),Z,λh=>h,e2,?_⟩⟩;have:=c i hi;rw[<-e6,et,eg,cX ?_]at this
    · rw[hJ];exact this
    · have:(i+1)*R.sz<=O l*R.sz:=bj _ hi;rw[cj]at this;omega
section
variable{P:cd}{ops:Array ec}{sc:gd->Act->ay->Prop}{n:Nat}{env:Nat->B}{w:ay}{rest:H ec}
 {d:L Nat} {ty:bk} {pos:String} {af:Array hX} {v:B} {T:bk} {x y:bt}
theorem wl_appO{α:Type}{R:uO α}{E:bk}{sz bytes:Nat}{A:BS}{u:B}{l m:H α}(i:lK P T E sz bytes)(W:R.sz=sz)(j:dz R E w A v l)(s:ek R w BE A u m)(c:ev n env x=v)(p:ev n env y=u)
  (o:∀b,ob v b->A b) (f:(O l+O m)*bytes<=140737488355328) (q:O l+O m<=9223372036854775807)
  (k:∀w' a,dz R E w' A a (l++m)->bF (ob v) w w'->(∀b,ob a b->b<w.heap.size->ob v b)->WL P ops sc rest n (gp env d a) w'):
  WL P ops sc (⟨d,.call {callee:=.builtin .append,args:= #[x,y],argTypes:= #[T,T]},ty,pos,af,bd⟩::rest) n env w:=by
 obtain⟨a,w',r,e,z,t⟩:=WD (d:=d) (ty:=ty) (pos:=pos) (af:=af) (g:=bd) i W c j p s o f q;exact aC r<|k w' a e z t
end
theorem ins_av{α β:Type}{R:uO α}{R':uO β}{E d:bk}{I w:ay}{M K:BS}{J:Nat->Chunk}{i j:Nat}{v u:B}{l:H α}{m:H β}(h:SH I M K w J)(c:i≠j)(hi:J i=.own R E v l)(f:J j=.own R' d u m):∀b,((M b\/rest J i b)\/ob v b)->b<w.heap.size->(M b\/rest J j b)\/ob u b:=by
  rintro b((a|⟨k,g,a⟩)|a)_
  · exact .inl<|.inl a
  · by_cases e:k=j
    · subst e;rw[f]at a;exact .inr a
    · exact .inl<|.inr ⟨k,e,a⟩
  · exact .inl (.inr ⟨i,c,by rw[hi];exact a⟩)
open Go.RowKit
section
variable{P:cd}{ops:Array ec}
variable{sc:gd->Act->ay->Prop}{n:Nat}{env:Nat->B}{w I:ay}{M K:BS}{J:Nat->Chunk}
structure Px(P:cd)(ops:Array ec)(Zs:BS)(ws:ay)(sc:gd->Act->ay->Prop)(fuel:Nat)(listed:Array Bool)(n:Nat)(env:Nat->B)(w:ay):Prop where
 out:wpAnyH P .any ops (NoPanic sc) (bF Zs ws) fuel listed (DB n env) w
theorem dO{Zs:BS}{id:Nat}{l:H ec}(b:P.follows .mixedOrders=bh)(a:SH I M K w J)
  (h:∀w,SH I M K w J->Px P (ar l) Zs w sc (O l) (zr (O l) aw) n env w):WC P (jn id (ar l) bh) sc n env w:=
 ⟨wp_region_noPanic (wp_region_held (S:=bF Zs w.drew) b (h _ (a.grow (Grow.drew w))).out)⟩
variable{d:L Nat}{op:Op}{ty:bk}{pos:String}{af:Array hX}{v:B}{g:L (Nat×YU)}{i fuel:Nat}{listed:Array YU}
section
variable{Zs:BS}{ws:ay}
theorem RE{o:ec}(c:bF Zs ws w)(hi:ops[i]? =U o)(W:ef ops=bh)(a:fo .any ops listed i=bh)(d:(dy .any ops listed).contains i=bh)(b:YieldsIf P ops (bF Zs ws) o v (DB n env))(h:Px P ops Zs ws sc fuel (listed.setIfInBounds i bh) n (gp env o.dst v) w):Px P ops Zs ws sc (fuel+1) listed n env w:=by
 refine⟨wpAnyH_take hi W a d (λ_ _ _ h=>h) b c ?_⟩;rw[KF];exact h.out
theorem iQ(i:Nat)(c:bF Zs ws w)(hi:ops[i]? =U ⟨d,op,ty,pos,af,g⟩)(b:cq ⟨d,op,ty,pos,af,g⟩ (fa ops (DB n env).tmps)=bh)(W:ef ops=bh)(j:fo .any ops listed i=bh)(e:(dy .any ops listed).contains i=bh)(f:∀a,bF Zs ws a->(bn (ev n env) ⟨d,op,ty,pos,af,g⟩).run P a=.ok (.value v) a)(h:Px P ops Zs ws sc fuel (listed.setIfInBounds i bh) n (gp env d v) w):Px P ops Zs ws sc (fuel+1) listed n env w:=
 RE (o:=⟨d,op,ty,pos,af,g⟩) c hi W j e (.inl ⟨b,λa k=>by rw[jB];exact f a k⟩) h
theorem dR(i:Nat)(c:bF Zs ws w)(hi:ops[i]? =U ⟨d,op,ty,pos,af,g⟩)(b:cq ⟨d,op,ty,pos,af,g⟩ (fa ops (DB n env).tmps)=aw)(W:ef ops=bh)(a:fo .any ops listed i=bh)(e:(dy .any ops listed).contains i=bh)(h:Px P ops Zs ws sc fuel (listed.setIfInBounds i bh) n (gp env d gC) w):Px P ops Zs ws sc (fuel+1) listed n env w:=
 RE (o:=⟨d,op,ty,pos,af,g⟩) c hi W a e (.inr ⟨b,rfl⟩) h
theorem whk_done(a:dy .any ops listed=[])(h:sc .normal (DB n env) w):Px P ops Zs ws sc fuel listed n env w:=⟨wpAnyH_done a (NoPanic.normal h) fuel⟩
def WN(P:cd)(ops:Array ec)(Zs:BS)(ws:ay)(sc:gd->Act->ay->Prop)(fuel:Nat)(listed:Array YU):gd->Act->ay->Prop:=
 selK (λa' w'=>bF Zs ws w'/\wpAnyH P .any ops (NoPanic sc) (bF Zs ws) fuel listed a' w') (NoPanic sc)
theorem ah(a:bF Zs ws w)(h:Px P ops Zs ws sc fuel listed n env w):WN P ops Zs ws sc fuel listed .normal (DB n env) w:=⟨a,h.out⟩
theorem KI(i:Nat)(c:dy .any ops listed=[i])(hi:ops[i]? =U ⟨d,op,ty,pos,af,g⟩)(b:cq ⟨d,op,ty,pos,af,g⟩ (fa ops (DB n env).tmps)=bh)(h:WL P ops (WN P ops Zs ws sc fuel (listed.setIfInBounds i bh)) [⟨d,op,ty,pos,af,bd⟩] n env w):Px P ops Zs ws sc (fuel+1) listed n env w:=by
 refine⟨Cy c C7 λk a=>?_⟩;obtain rfl:k=i:=by simpa using a
 exact Y6 hi b h
theorem gu{d':L Nat}{e:Op}{c:bk}{a:String}{b:Array hX}{m:L (Nat×YU)}(i j:Nat)(o:dy .any ops listed=[i,j])(hi:ops[i]? =U ⟨d,op,ty,pos,af,g⟩)(p:cq ⟨d,op,ty,pos,af,g⟩ (fa ops (DB n env).tmps)=bh)(r:ops[j]? =U ⟨d',e,c,a,b,m⟩)(f:cq ⟨d',e,c,a,b,m⟩ (fa ops (DB n env).tmps)=bh)(h:WL P ops (WN P ops Zs ws sc fuel (listed.setIfInBounds i bh)) [⟨d,op,ty,pos,af,bd⟩] n env w)(q:WL P ops (WN P ops Zs ws sc fuel (listed.setIfInBounds j bh)) [⟨d',e,c,a,b,bd⟩] n env w):Px P ops Zs ws sc (fuel+1) listed n env w:=by
  refine⟨Cy o C7 λk l=>?_⟩;rcases bs.1 l with rfl|l
  · exact Y6 hi p h
  · obtain rfl:k=j:=by simpa using l
    exact Y6 r f q
end
end
theorem bF.zJ{a b c:ay}{Zs N:BS}(h:bF Zs a b)(k:bF N b c)(hN:∀x,N x->a.heap.size<=x):bF Zs a c:=h.step k (λx d hl=>by have:=hN x d;omega)
theorem bF.same{a b c:ay}{Zs:BS}(h:bF Zs a b)(k:bF Zs b c):bF Zs a c:=h.step k (λ_ d _=>d)
section
variable{P:cd}{ops:Array ec}{sc:gd->Act->ay->Prop}{n:Nat}{env:Nat->B}{w w' I:ay}{M K:BS}{J:Nat->Chunk}{rest:H ec}
 {d:L Nat} {op:Op} {ty:bk} {pos:String} {af:Array hX} {v:B} {g:L (Nat×YU)} {T:bk} {ρ:bt->B} {x y:bt}
theorem w_stOG{α:Type}{R:uO α}{E:bk}{sz:Nat}{l:H α}{k:Int}{a a':α}{b off:Nat}{z u:B}(h:SH I M K w J)(i:Nat)(hi:J i=.own R E u l)(r:ob u b)(W:R.sz=sz)(q:l[k.toNat]? =U a)(X:One P T z)(c:ev n env x=.pointer (U ⟨b,k.toNat*sz+off,bd⟩))
    (hy:ev n env y=v) (N:v.oneCell'=bh) (o:mz off sz=bh) (C6:∀cs,R.rd w (SH.A M J) cs a->R.rd w (SH.A M J) (cs.set off v) a')
    (kk:∀w',SH I M K w' (cz J i (.own R E u (l.set k.toNat a')))->bF (ob u) w w'->WL P ops sc rest n (gp env d gC) w'):
    WL P ops sc (⟨d,.store T x y,ty,pos,af,bd⟩::rest) n env w:=by
  subst W;rw[px]at o;have m:k.toNat<O l:=by
    rcases cG k.toNat (O l) with h|h
    · exact h
    · rw[bE h]at q;cases q
  have F:l[k.toNat]=a:=by rw[bl m]at q;exact dp q
  generalize k.toNat=k at*;have e:∀b,ob u b->SH.A M J b:=λb r=>.inr ⟨i,by rw[hi];exact r⟩;obtain⟨xs,Zs,ab⟩:=h.bW i hi;rcases Zs.2 with⟨rfl,hn⟩|⟨g',cap,cur,rfl,e1,e2,e3,e4,e5,e6⟩
  · omega
  have aq:b=g':=r;subst aq;have C:(k+1)*R.sz<=O l*R.sz:=bj _ m;have S:O l*R.sz<=cap*R.sz:=bj _ e3;rw[cj]at C;have al:k*R.sz+off<cur.size:=by omega
  have g:=bF.yA w b<|.cells (cur.setIfInBounds (k*R.sz+off) v) E (0,0);refine BO (YZ X c e2 al hy N) (kk _ (h.step i g (λx c _=>by rw[hi];exact c) (λx c _=>by rw[hi];exact c) ⟨xs.set (k*R.sz+off) v,⟨?_,.inr ⟨b,cap,cur.setIfInBounds (k*R.sz+off) v,?_,e1,?_,?_,e4,?_,?_⟩⟩,?_⟩) (g.weaken (λx c _=>c)))
  · rw[cp,cp];exact Zs.1
  · rw[cp]
  · rw[wK (jf e2)]
  · rw[cp];exact e3
  · simpa using e5
  · rw[cp,na,rm,e6]
  · intro f s;have t:f<O l:=by rwa[cp]at s
    have p:=λcs a(h:R.rd w (SH.A M J) cs a)=>R.go (A':=λx=>(M x\/(SH.av J i (.own R E (.slice (U ⟨b,0,bd⟩) (O l) cap) (l.set k a'))) x)\/ob (.slice (U ⟨b,0,bd⟩) (O l) cap) x) h g (λx c _=>e x c) (λx c _=>by
      rcases c with(c|c|c)|c
      · exact .inl c
      · exact .inr<|nQ c
      · exact e x c
      · exact e x c)
    have w0:=λj(hj:j<O l)=>R.go (A':=SH.A M J) (ab j hj) (bF.refl BE w) (λ_ h=>h.elim) λx c _=>.inl c;by_cases hik:f=k
    · subst hik;rw[qg,Wj rfl];exact p _ _<|C6 _<|F▸w0 f m
    · rw[sa (Ne.symm hik),Tt]
      · exact p _ _<|w0 f t
      · rcases cG k f with h5|h5
        · left;have:(k+1)*R.sz<=f*R.sz:=bj _ h5;rw[cj]at this;omega
        · right;have:(f+1)*R.sz<=k*R.sz:=bj _ V;rw[cj]at this;omega
end
open Go.RowKit Go.Sort
section
variable{α β:Type} [Inhabited α] [Inhabited β]
section
variable{f:α->β}
theorem get_map(a:f default=default)(d:Array α)(i:Nat):(d.map f)[i]! =f d[i]! :=by
  rcases cG i d.size with h|h
  · rw[getElem!_pos (d.map f) i (by simpa using h),getElem!_pos d i h];simp
  · rw[getElem!_neg (d.map f) i (by simpa using h),getElem!_neg d i V];exact a.symm
theorem swp_map(a:f default=default)(d:Array α)(i j:Nat):(swp d i j).map f=swp (d.map f) i j:=by
  unfold swp;rw[get_map a,get_map a];apply rl;intro k;simp only[Array.getElem?_map,mm,Array.size_setIfInBounds,Array.size_map];split
  · split<;>simp
  · split
    · split<;>simp
    · rfl
theorem Y8(b:f default=default)(lt:β->β->YU)(a:Nat):∀(j:Nat) (d:Array α),(insInner (λx y=>lt (f x) (f y)) a j d).map f=insInner lt a j (d.map f)
  |0,d=>rfl
  |j+1,d=>by
    unfold insInner;simp only[get_map b];split
    · rw[Y8 b lt a j,swp_map b]
    · rfl
theorem insOuter_map(c:f default=default)(lt:β->β->YU)(a b:Nat):∀(m i:Nat) (d:Array α),b-i=m->(insOuter (λx y=>lt (f x) (f y)) a b i d).map f=insOuter lt a b i (d.map f):=by
 intro m;induction m with
 |zero=>
  intro i d h
  conv=>lhs;rw[insOuter.eq_def]
  conv=>rhs;rw[insOuter.eq_def]
  rw[Z4 V,Z4 V]
 |succ m ih=>
  intro i d h;rw[insOuter.eq_def]
  conv=>rhs;rw[insOuter.eq_def]
  rw[Z3 V,Z3 V,ih (i+1) _ V,Y8 c]
theorem Y9(c:f default=default)(lt:β->β->YU)(d:Array α)(a b:Nat):(gh (λx y=>lt (f x) (f y)) d a b).map f=gh lt (d.map f) a b:=insOuter_map c lt a b _ _ d Z
variable{p:α->Prop}
theorem swp_all{d:Array α}{i j:Nat}(hi:i<d.size)(b:j<d.size)(h:∀k,k<d.size->p d[k]!):∀k,k<(swp d i j).size->p (swp d i j)[k]! :=by
  intro k a;rw[size_swp]at a;rw[swp_get d hi b];split
  · exact h i hi
  · split
    · exact h j b
    · exact h k a
theorem Za(lt:α->α->YU)(a:Nat):∀(j:Nat) (d:Array α),j<d.size->(∀k,k<d.size->p d[k]!)->(insInner lt a j d).size=d.size/\∀k,k<(insInner lt a j d).size->p (insInner lt a j d)[k]!
  |0,d,_,h=>⟨rfl,h⟩
  |j+1,d,hj,h=>by
    unfold insInner;split
    · have:=Za lt a j (swp d (j+1) j) (by rw[size_swp];omega) (swp_all hj V h);rw[size_swp]at this;exact this
    · exact⟨Z,h⟩
theorem WB(lt:α->α->YU)(a b:Nat):∀(m i:Nat) (d:Array α),b-i=m->b<=d.size->(∀k,k<d.size->p d[k]!)->(insOuter lt a b i d).size=d.size/\∀k,k<(insOuter lt a b i d).size->p (insOuter lt a b i d)[k]! :=by
 intro m;induction m with
 |zero=>
  intro i d h e J;rw[insOuter.eq_def,Z4 V];exact⟨Z,J⟩
 |succ m ih=>
  intro i d h e J;rw[insOuter.eq_def,Z3 V];obtain⟨f,c⟩:=Za (p:=p) lt a i d V J;obtain⟨j,g⟩:=ih (i+1) (insInner lt a i d) V V c;exact⟨j.trans f,g⟩
end
end
theorem bF.mapBlock(w:ay)(b:Nat)(f:Array B->Array B):bF (λx=>x=b) w (rq w b f):=
 ⟨rfl,rfl,rfl,by simp[rq],λk a _=>by
  have:b≠k:=λe=>a e.symm;simp[rq,fk,this]⟩
theorem Grow.ahead(w:ay)(n:Nat):Grow w (tz w n):=⟨rfl,rfl,rfl,cl _,λ_ _ _=>rfl⟩
theorem Grow.grow(w:ay)(os:Array Obj):Grow w (nc w os):=
 ⟨rfl,rfl,rfl,by simp[nc],λk _ a=>by simp[nc,tw a]⟩
section
variable{α β:Type} [Inhabited α]{R:uO β}{E:bk}{w:ay}{A:BS}{v:B}{l:H β}{enc:α->H B}{f:α->β}
theorem own_holds(ZD:∀w A cs x,R.rd w A cs x->∃p,enc p=cs/\f p=x)(C:dz R E w A v l)(hl:0<O l):
    ∃gg cap cur,∃d:Array α,v=.slice (U ⟨gg,0,bd⟩) (O l) cap/\d.size=O l/\d.toList.map f=l/\vI enc R.sz w gg 0 d/\Raw w gg cap R.sz E cur/\O l<=cap/\(∀k,k<d.size->R.rd w (λb=>A b\/b=gg) (enc d[k]!) (f d[k]!)):=by
  obtain⟨gg,cap,cur,rfl,c,o,n⟩:=Y3 C hl;have a:∀i:Fin (O l),∃p,enc p=(cur.drop<|i.1*R.sz).take R.sz/\f p=l[i.1]:=λi=>ZD _ _ _ _<|n i.1 i.2;have g:(rj λi:Fin (O l)=>(a i).choose).size=O l:=by simp
  have m:∀k (j:k<O l),(rj λi:Fin (O l)=>(a i).choose)[k]! =(a ⟨k,j⟩).choose:=by
    intro k j;rw[getElem!_pos _ k (by simpa using j)];simp
  refine⟨gg,cap,cur,rj λi:Fin (O l)=>(a i).choose,Z,g,?_,?_,c,o,?_⟩
  · apply List.ext_getElem
    · simp
    · intro k y q;simp only[List.getElem_map,Array.getElem_toList,Array.getElem_ofFn];exact(a ⟨k,q⟩).choose_spec.2
  · intro t u;rw[size_flatK,g]at u;have J:=R.pos;have aq:t / R.sz<O l:=qE (by rw[mT];exact u);have s:t%R.sz<R.sz:=pA _ J;have e:t / R.sz*R.sz+t%R.sz=t:=by rw[mT];exact Bw _ _
    have z:=c.len;have r:(t / R.sz+1)*R.sz<=cap*R.sz:=bj _ V;rw[cj]at r;constructor
    · rw[get_flatK _ _ _ _ (by rw[g];exact u),m _ aq,(a ⟨t / R.sz,aq⟩).choose_spec.1];have y:((cur.drop<|t / R.sz*R.sz).take R.sz)[t%R.sz]? =cur[t]? :=by rw[ca,Z3 s,ct,e]
      have q:t<O cur:=by omega
      rw[getElem!_def,y,bl q];simp[fh,c.blk,q]
    · simp[qX,c.blk]
  · intro k j;rw[g]at j;rw[m k j,(a ⟨k,j⟩).choose_spec.1,(a ⟨k,j⟩).choose_spec.2];exact n k j
theorem holds_own{gg cap n:Nat}{cur:H B}{d d':Array α}{os:Array Obj}(a:Raw w gg cap R.sz E cur)(s:∀x,O (enc x)=R.sz)(W:d'.size=d.size)(e:d.size<=cap)(w0:vI enc R.sz w gg 0 d)
    (p:∀k,k<d'.size->R.rd w (λb=>A b\/b=gg) (enc d'[k]!) (f d'[k]!)):
    dz R E (ix enc R.sz w gg 0 n d' os) A (.slice (U ⟨gg,0,bd⟩) d.size cap) (d'.toList.map f)/\bF (λx=>x=gg) w (ix enc R.sz w gg 0 n d' os):=by
  have g:=a.len;have al:d.size*R.sz<=cap*R.sz:=bj _ e;have m:bF (λx=>x=gg) w (vd enc R.sz (tz w n) gg 0 d'):=(Grow.ahead w n).keep.step (bF.mapBlock _ _ _) λ_ h _=>h;have y:bF (λx=>x=gg) w (ix enc R.sz w gg 0 n d' os):=m.grow<|Grow.grow _ _;refine⟨⟨(flatK enc R.sz d').toList,⟨by simp,.inr ⟨gg,cap,rr id 0 (flatK enc R.sz d') (ar cur),by simp[W],gk _,?_,by simp[W,e],a.le,by simp[rr,g],?_⟩⟩,?_⟩,y⟩
  · have q:(vd enc R.sz (tz w n) gg 0 d').heap[gg]? =U (.cells (rr id 0 (flatK enc R.sz d') (ar cur)) E (0,0)):=by
      unfold vd Sort.putRow rq;simp only[fk,if_true];rw[show(tz w n).heap[gg]? =U (.cells (ar cur) E (0,0))from a.blk];rfl
    exact(Grow.grow _ os).blk q
  · apply cP;intro t;rw[ca];have r:O (d'.toList.map f)=d'.size:=by simp
    rw[r];split
    · next ht=>
      have q:t<O cur:=by rw[g];rw[W]at ht;omega
      have K:t<(flatK enc R.sz d').size:=by rw[size_flatK];exact ht
      simp[rr,q,ht]
    · next ht=>
      rw[bE];simp only[cx,size_flatK];omega
  · intro i hi;have j:i<d'.size:=by simpa using hi
    have J:=R.pos;have c:((flatK enc R.sz d').toList.drop<|i*R.sz).take R.sz=enc d'[i]! :=by
      apply cP;intro t;rw[ca];split
      · next ht=>
        have o:(i+1)*R.sz<=d'.size*R.sz:=bj _ j;rw[cj]at o;have v:(i*R.sz+t) / R.sz=i:=(Sort.blk_iff R.sz i _ J).1 ⟨by omega,by omega⟩;have z:(i*R.sz+t)%R.sz=t:=by rw[Nat.mod_eq_sub_div_mul,v];omega
        have u:=get_flatK enc R.sz d' (i*R.sz+t) V;rw[v,z]at u;rw[ct,iu,jx (by rw[size_flatK];omega),bl (by rw[s];exact ht)];rw[getElem!_pos (flatK enc R.sz d') _ (by rw[size_flatK];omega),getElem!_pos (enc d'[i]!) t (by rw[s];exact ht)]at u;rw[u]
      · next ht=>rw[bE (by rw[s];omega)]
    have C:=p i j;rw[c];have F:(d'.toList.map f)[i]=f d'[i]! :=by
      simp[getElem!_pos d' i j]
    rw[F];exact R.go C y (λx aq _=>.inr aq) (λb l _=>l.imp id (λl=>by simpa[ob]using l))
end
def Jy{α:Type} [Inhabited α](lt:α->α->YU)(l:H α):H α:=(gh lt (ar l) 0 (O l)).toList
structure One1 where
 v:B
 one:v.oneCell'=bh
instance:Inhabited One1:=⟨⟨.bool aw,rfl⟩⟩
theorem sort_own{α β:Type} [Inhabited α] [Inhabited β]{R:uO β}{E:bk}{w:ay}{A:BS}{l:H β}{enc:α->H B}{f:α->β}{gg cap n:Nat}{cur:H B}{d:Array α}{os:Array Obj}{lt:β->β->YU}{lt':α->α->YU}(s:f default=default)(g:lt'=λx y=>lt (f x) (f y))(a:Raw w gg cap R.sz E cur)(o:∀x,O (enc x)=R.sz)(W:d.size=O l)(i:O l<=cap)(q:vI enc R.sz w gg 0 d)(hl:d.toList.map f=l)
  (c:∀k,k<d.size->R.rd w (λb=>A b\/b=gg) (enc d[k]!) (f d[k]!)):
  dz R E (ix enc R.sz w gg 0 n (gh lt' d 0 d.size) os) A (.slice (U ⟨gg,0,bd⟩) (O l) cap) (Jy lt l)/\bF (λx=>x=gg) w (ix enc R.sz w gg 0 n (gh lt' d 0 d.size) os):=by
 subst g;obtain⟨r,m⟩:=WB (p:=λx=>R.rd w (λb=>A b\/b=gg) (enc x)<|f x) (λx y=>lt (f x)<|f y) 0 d.size _ 1 d Z (cl _) c;have j:=holds_own (f:=f) (n:=n) (os:=os) (E:=E) (d':=gh (λx y=>lt (f x)<|f y) d 0 d.size) a o r V q m;have e:(gh (λx y=>lt (f x)<|f y) d 0 d.size).toList.map f=Jy lt l:=by
  rw[<-tb,Y9 s];unfold Jy;have:d.map f=ar l:=by apply mS;rw[tb];simpa using hl
  rw[this,W]
 rw[e,W]at j;rw[W];exact j
open Go.RowKit
def rPtr{α:Type}(R:uO α):uO (L α) where
  sz:=1
  rd w A cs x:=∃v,cs=[v]/\((v=.pointer bd/\x=bd)\/∃b cells E fz a,v=.pointer (U ⟨b,0,bd⟩)/\¬A b/\w.heap[b]? =U (.cells cells E fz)/\R.rd w A (cells.toList.take R.sz) a/\x=U a)
  len:=by rintro w A cs x ⟨v,rfl,_⟩;rfl
  one:=by
    rintro w A cs x⟨v,rfl,h⟩u hu;simp at hu;subst hu;rcases h with⟨rfl,_⟩|⟨b,cells,E,fz,a,rfl,_⟩<;>rfl
  pos:=by decide
  go:=by
    rintro w A cs x w' A' K⟨v,rfl,h⟩hk hK hA;refine⟨v,Z,?_⟩;rcases h with h|⟨b,cells,E,fz,a,h1,h2,h3,h4,h5⟩
    · exact .inl h
    · exact .inr ⟨b,cells,E,fz,a,h1,λhb=>h2<|hA b hb<|jf h3,hk.blk h3 λhb=>h2<|hK b hb<|jf h3,R.go h4 hk hK hA,h5⟩
section
variable{I w:ay}{M K:BS}{J:Nat->Chunk}{α:Type}{R:uO α}
theorem SH.rpAt{v:B}{x:α}(h:SH I M K w J)(i:Nat)(hi:J i=.rp R v x):R.rd w (SH.A M J) [v] x:=by
 have:=h.ok i;rw[hi]at this;exact this
theorem SH.gZ(h:SH I M K w J)(i:Nat):SH I M K w (cz J i .no):=h.step i (bF.refl BE w) (λ_ h=>h.elim) (λ_ h=>h.elim) an
theorem SH.nilRp(h:SH I M K w J)(i:Nat):SH I M K w (cz J i (.rp (rPtr R) (.pointer bd) bd)):=h.know i (λ_ h=>h) ⟨_,rfl,.inl ⟨rfl,rfl⟩⟩
theorem SH.boxRp{b:Nat}{cs:H B}{x:α}(h:SH I M K w J)(j i:Nat)(f:J j=.blk b cs)(hl:R.sz=O cs)(m:R.rd w (SH.A M J) cs x):SH I M K w (cz (cz J j .no) i (.rp (rPtr R) (.pointer (U ⟨b,0,bd⟩)) (U x))):=by
  obtain⟨E,c⟩:=h.pO j f;have g:SH I M K w (cz J j .no):=h.step j (bF.refl BE w) (λ_ h=>h.elim) (λb c=>c.elim) an;have d:(J j).own' b:=by rw[f];rfl
  refine g.know i (λ_ h=>h) ⟨_,Z,.inr ⟨b,_,_,_,x,Z,?_,c,?_,Z⟩⟩
  · rintro(l|⟨k,a⟩)
    · exact h.apM j b d l
    · by_cases e:k=j
      · subst e;rw[dG]at a;exact a
      · rw[iH e]at a;exact h.apart k j e b a d
  · rw[hl];have:((ar cs).toList.take (O cs))=cs:=by simp
    rw[this];refine R.go m (bF.refl BE w) (λ_ h=>h.elim) λb c _=>c.imp id λ⟨k,a⟩=>?_;by_cases e:k=j
    · subst e;rw[dG]at a;exact a.elim
    · rw[iH e]at a;exact⟨k,a⟩
theorem SH.openRp{v:B}{o:L α}{x:α}(h:SH I M K w J)(i j:Nat)(hi:J i=.rp (rPtr R) v o)(d:o=U x):
    ∃b cs,v=.pointer (U ⟨b,0,bd⟩)/\SH I M K w (cz J j (.pt b 0 cs))/\R.rd w (SH.A M J) cs x:=by
  obtain⟨u,e,c|⟨b,cells,E,m,a,c,k,n,g,f⟩⟩:=h.rpAt i hi
  · rw[d]at c;cases c.2
  · cases e;rw[d]at f;cases f;refine⟨b,_,c,h.pt j (λl=>k<|.inr l) ⟨cells,E,m,n,?_⟩,g⟩;rw[fF,R.len g]
theorem rp_nil{A:BS}{v:B}{o:L α}(h:(rPtr R).rd w A [v] o):v=.pointer bd/\o=bd\/∃a x,v=.pointer (U a)/\o=U x:=by
  obtain⟨u,e,c|⟨b,cells,E,i,a,c,f,j,g,d⟩⟩:=h
  · cases e;exact .inl c
  · cases e;exact .inr ⟨_,_,c,d⟩
variable{P:cd}{T T2 ty:bk}{ρ:bt->B}{d:L Nat}{pos:String}{af:Array hX}{g:L (Nat×YU)}{x y:bt}{v:B}{A:BS}{o:L α}
def PtrTo(P:cd)(T:bk):Prop:=∃E,P.underlying T=U (.pointer E)
theorem PtrTo.p(a:PtrTo P T):P.underlying T=U (.pointer (P.pointee T)):=by
 obtain⟨E,a⟩:=a;simp[Program.pointee,a]
theorem r_eqptr(c:PtrTo P T)(b:ρ x=v)(f:(rPtr R).rd w A [v] o)(e:ρ y=.pointer bd):(bn ρ ⟨d,.binOp .eql T x y T2,ty,pos,af,g⟩).run P w=.ok (.value (.bool o.isNone)) w:=by
  rcases rp_nil f with⟨rfl,rfl⟩|⟨a,z,rfl,rfl⟩
  · simp[bn,b,e,fN,By w T _ c.p]
  · simp[bn,b,e,fN,By w T _ c.p]
theorem r_neptr(c:PtrTo P T)(b:ρ x=v)(f:(rPtr R).rd w A [v] o)(e:ρ y=.pointer bd):(bn ρ ⟨d,.binOp .neq T x y T2,ty,pos,af,g⟩).run P w=.ok (.value (.bool o.isSome)) w:=by
  rcases rp_nil f with⟨rfl,rfl⟩|⟨a,z,rfl,rfl⟩
  · simp[bn,b,e,fN,BT w T _ c.p]
  · simp[bn,b,e,fN,BT w T _ c.p]
theorem r_nilCheckP{a:od}(c:ρ x=v)(b:v=.pointer (U a)):(bn ρ ⟨d,.nilCheck x,ty,pos,af,g⟩).run P w=.ok (.value (.pointer (U a))) w:=qx (c.trans b)
end
open Go.RowKit
def Chunk.Zb:Chunk->Prop
 | .sr .. =>False
 | .pt .. =>False
 | .two a b=>a.Zb/\b.Zb
 |_=>True
theorem Chunk.re{c:Chunk}{w:ay}{M ab i g:BS}(e:c.Zb)(h:c.holds w M ab)(d:∀b,i b\/g b->b<w.heap.size->M b\/ab b):c.holds w i g:=by
 induction c with
 |no=>trivial
 |rd R v l=>exact ek.sub h d d
 |sr R v l=>exact e.elim
 |pt b o cs=>exact e.elim
 |blk b cs=>exact h
 |own R E v l=>exact dz.go h (bF.refl BE w) (λ_ h=>h.elim) (λ_ h=>h.elim) (λb f hl=>.inl (d b f hl))
 |rp R v x=>exact R.go h (bF.refl BE w) (λ_ h=>h.elim) d
 |two a b iha ihb=>exact⟨iha e.1 h.1,ihb e.2 h.2.1,h.2.2⟩
 |gK S=>exact S.go h (bF.refl BE w) (λ_ h=>h.elim) (λ_ h=>h.elim) (λb f hl=>.inl (d b f hl))
 |mp b jc=>exact h
section
variable{I w w':ay}{M K:BS}{J:Nat->Chunk}
theorem SH.pair(h:SH I M K w J)(i j:Nat)(l:i≠j):SH I M K w (cz (cz J j .no) i (.two (J i) (J j))):=by
  have d:∀x b,(cz (cz J j .no) i (.two (J i)<|J j) x).own' b->(x=i/\((J i).own' b\/(J j).own' b))\/(x≠i/\x≠j/\(J x).own' b):=by
    intro x b a;by_cases e:x=i
    · subst e;rw[dG]at a;exact .inl ⟨Z,a⟩
    · rw[iH e]at a;by_cases f:x=j
      · subst f;rw[dG]at a;exact a.elim
      · rw[iH f]at a;exact .inr ⟨e,f,a⟩
  have c:∀b,kg (cz (cz J j .no) i<|.two (J i)<|J j) b->kg J b:=by
    rintro b⟨x,k⟩;rcases d x b k with⟨_,h1|h1⟩|⟨_,_,h1⟩
    · exact⟨i,h1⟩
    · exact⟨j,h1⟩
    · exact⟨x,h1⟩
  refine⟨h.keep,h.ltM,λx b a=>?_,λx=>?_,λx y g b k m=>?_,λx b a=>?_⟩
  · rcases d x b a with⟨_,h1|h1⟩|⟨_,_,h1⟩
    · exact h.apM i b h1
    · exact h.apM j b h1
    · exact h.apM x b h1
  · by_cases e:x=i
    · subst e;rw[dG];exact⟨Chunk.sub (h.ok x) λb a _=>c b a,Chunk.sub (h.ok j) λb a _=>c b a,λb a=>h.apart x j l b a⟩
    · rw[iH e];by_cases f:x=j
      · subst f;rw[dG];trivial
      · rw[iH f];exact Chunk.sub (h.ok x) (λb a _=>c b a)
  · rcases d x b k with⟨e1,h1⟩|⟨e1,e1',h1⟩<;>rcases d y b m with⟨f,h2⟩|⟨f,e2',h2⟩
    · exact g<|e1.trans f.symm
    · rcases h1 with h1|h1
      · exact h.apart i y (λe=>f e.symm) b h1 h2
      · exact h.apart j y (λe=>e2' e.symm) b h1 h2
    · rcases h2 with h2|h2
      · exact h.apart x i e1 b h1 h2
      · exact h.apart x j e1' b h1 h2
    · exact h.apart x y g b h1 h2
  · rcases d x b a with⟨_,h1|h1⟩|⟨_,_,h1⟩
    · exact h.old i b h1
    · exact h.old j b h1
    · exact h.old x b h1
theorem SH.unpair{a c:Chunk}(h:SH I M K w J)(i j:Nat)(q:i≠j)(hi:J i=.two a c)(s:J j=.no):SH I M K w (cz (cz J i a) j c):=by
  have l:∀x b,(cz (cz J i a) j c x).own' b->(x=i/\a.own' b)\/(x=j/\c.own' b)\/(x≠i/\x≠j/\(J x).own' b):=by
    intro x b d;by_cases e:x=j
    · subst e;rw[dG]at d;exact .inr (.inl ⟨Z,d⟩)
    · rw[iH e]at d;by_cases f:x=i
      · subst f;rw[dG]at d;exact .inl ⟨Z,d⟩
      · rw[iH f]at d;exact .inr (.inr ⟨f,e,d⟩)
  have n:∀b,a.own' b->(J i).own' b:=λb d=>by rw[hi];exact .inl d
  have o:∀b,c.own' b->(J i).own' b:=λb d=>by rw[hi];exact .inr d
  have g:∀b,kg (cz (cz J i a) j c) b->kg J b:=by
    rintro b⟨x,p⟩;rcases l x b p with⟨_,h1⟩|⟨_,h1⟩|⟨_,_,h1⟩
    · exact⟨i,n b h1⟩
    · exact⟨i,o b h1⟩
    · exact⟨x,h1⟩
  have k:=h.ok i;rw[hi]at k;refine⟨h.keep,h.ltM,λx b d=>?_,λx=>?_,λx y m b p r=>?_,λx b d=>?_⟩
  · rcases l x b d with⟨_,h1⟩|⟨_,h1⟩|⟨_,_,h1⟩
    · exact h.apM i b<|n b h1
    · exact h.apM i b<|o b h1
    · exact h.apM x b h1
  · by_cases e:x=j
    · subst e;rw[dG];exact Chunk.sub k.2.1 (λb d _=>g b d)
    · rw[iH e];by_cases f:x=i
      · subst f;rw[dG];exact Chunk.sub k.1 (λb d _=>g b d)
      · rw[iH f];exact Chunk.sub (h.ok x) (λb d _=>g b d)
  · rcases l x b p with⟨e1,h1⟩|⟨e1,h1⟩|⟨e1,e1',h1⟩<;>rcases l y b r with⟨f,h2⟩|⟨f,h2⟩|⟨f,e2',h2⟩
    · exact m<|e1.trans f.symm
    · exact k.2.2 b h1 h2
    · exact h.apart i y (λe=>f e.symm) b (n b h1) h2
    · exact k.2.2 b h2 h1
    · exact m<|e1.trans f.symm
    · exact h.apart i y (λe=>f e.symm) b (o b h1) h2
    · exact h.apart x i e1 b h1<|n b h2
    · exact h.apart x i e1 b h1<|o b h2
    · exact h.apart x y m b h1 h2
  · rcases l x b d with⟨_,h1⟩|⟨_,h1⟩|⟨_,_,h1⟩
    · exact h.old i b<|n b h1
    · exact h.old i b<|o b h1
    · exact h.old x b h1
theorem SH.lendC(h:SH I M K w J)(i:Nat)(d:(J i).Zb):(J i).holds w (λb=>M b\/rest J i b) (J i).own'/\(∀b,(J i).own' b->¬(M b\/rest J i b))/\(∀b,(M b\/rest J i b)->b<w.heap.size):=by
  refine⟨Chunk.re d (h.ok i) λb a _=>?_,λb a c=>?_,λb a=>?_⟩
  · rcases a with(a|a)|a
    · exact .inl a
    · exact .inr<|nQ a
    · exact .inr ⟨i,a⟩
  · rcases c with c|⟨j,hj,c⟩
    · exact h.apM i b a c
    · exact h.apart j i hj b c a
  · rcases a with a|⟨j,_,a⟩
    · exact ey (h.ltM b a) h.keep.size
    · exact Chunk.lt (h.ok j) b a
theorem SH.givenC{C:Chunk}(h:SH I M K w J)(i:Nat)(e:C.Zb)(d:C.holds w' (λb=>M b\/rest J i b) C.own')(c:bF (J i).own' w w')(hn:∀b,C.own' b->b<w.heap.size->(J i).own' b):SH I M K w' (cz J i C):=
  h.step i c (λ_ a _=>a) hn (Chunk.re e d (λb a _=>by
    rcases a with a|a|a
    · exact .inl<|.inl a
    · exact .inl<|.inr a
    · exact .inr a))
theorem SH.zK{C:Chunk}(l:∀b,M b->b<w.heap.size)(n:C.holds w M C.own')(k:∀b,C.own' b->¬M b):SH w M C.own' w (cz T7 1 C):=by
  have a:∀b,kg (cz T7 1 C) b->C.own' b:=by
    rintro b⟨j,f⟩;by_cases e:j=1
    · subst e;rw[dG]at f;exact f
    · rw[iH e]at f;exact f.elim
  refine⟨bF.refl _ _,l,λi b c=>k b<|a b ⟨i,c⟩,λi=>?_,λi j g b c d=>?_,λi b c _=>a b ⟨i,c⟩⟩
  · by_cases e:i=1
    · subst e;rw[dG];exact Chunk.sub n (λb c _=>a b c)
    · rw[iH e];trivial
  · by_cases e:i=1
    · have m:j≠1:=λh=>g<|e.trans h.symm;rw[iH m]at d;exact d.elim
    · rw[iH e]at c;exact c.elim
theorem SH.outC{C:Chunk}(h:SH I M K w J)(i:Nat)(hi:J i=C)(c:C.Zb):C.holds w M C.own'/\bF K I w/\(∀b,C.own' b->b<I.heap.size->K b):=by
 subst hi;exact⟨Chunk.re c (h.ok i) λb a _=>a.imp id λa=>⟨i,a⟩,h.keep,h.old i⟩
end
structure tp where
 h:Int
 n:Int
deriving DecidableEq
def bG:uO tp where
 sz:=2
 rd w A cs x:=cs=[.int .i64 x.h,.int .i64 x.n]
 len:=by rintro w A cs x rfl;rfl
 one:=by rintro w A cs x rfl u hu;simp only[bs,dk,or_false]at hu;rcases hu with rfl|rfl<;>first|rfl
 pos:=by decide
 go:=λh _ _ _=>h
structure Tok where
 h:Int
 n:Int
deriving DecidableEq
def Rc:uO Tok where
 sz:=2
 rd w A cs x:=cs=[.int .i64 x.h,.int .i64 x.n]
 len:=by rintro w A cs x rfl;rfl
 one:=by rintro w A cs x rfl u hu;simp only[bs,dk,or_false]at hu;rcases hu with rfl|rfl<;>first|rfl
 pos:=by decide
 go:=λh _ _ _=>h
structure dJ where
 from_:Int
 x:Int
 t:Int
 k:Int
 G:Bool
 u:List Int
deriving DecidableEq
def fK:uO dJ where
 sz:=6
 rd w A cs x:=∃uA,cs=[.int .i64 x.from_,.int .i64 x.x,.int .i64 x.t,.int .i64 x.k,.bool x.G,uA]/\bX dL w A uA x.u
 len:=by rintro w A cs x ⟨uA,rfl,h0⟩;rfl
 one:=by rintro w A cs x ⟨uA,rfl,h0⟩ u hu;simp only[bs,dk,or_false]at hu;rcases hu with rfl|rfl|rfl|rfl|rfl|rfl<;>first|rfl|exact h0.one
 pos:=by decide
 go:=by rintro w A cs x w2 A2 K ⟨uA,rfl,h0⟩ hk hK hA;exact⟨_,Z,h0.go hk hK hA⟩
theorem yX{w:ay}{A:BS}{cs:H B}{x:dJ}(h:fK.rd w A cs x):∃a,cs=[.int .i64 x.from_,.int .i64 x.x,.int .i64 x.t,.int .i64 x.k,.bool x.G,a]/\bX dL w A a x.u:=h
structure Co where
 y:Int
 k:Int
 u:List Int
 E:Int
deriving DecidableEq
def Jf:uO Co where
 sz:=4
 rd w A cs x:=∃uA,cs=[.int .i64 x.y,.int .i64 x.k,uA,.int .i64 x.E]/\bX dL w A uA x.u
 len:=by rintro w A cs x ⟨uA,rfl,h0⟩;rfl
 one:=by rintro w A cs x ⟨uA,rfl,h0⟩ u hu;simp only[bs,dk,or_false]at hu;rcases hu with rfl|rfl|rfl|rfl<;>first|rfl|exact h0.one
 pos:=by decide
 go:=by rintro w A cs x w2 A2 K ⟨uA,rfl,h0⟩ hk hK hA;exact⟨_,Z,h0.go hk hK hA⟩
theorem jQ{w:ay}{A:BS}{cs:H B}{x:Co}(h:Jf.rd w A cs x):∃a,cs=[.int .i64 x.y,.int .i64 x.k,a,.int .i64 x.E]/\bX dL w A a x.u:=h
structure vA where
 h:Int
 t:Int
 k:Int
 o:Int
 H:List Int
 u:List Int
deriving DecidableEq
def Jg:uO vA where
 sz:=6
 rd w A cs x:=∃vsays,∃uA,cs=[.int .i64 x.h,.int .i64 x.t,.int .i64 x.k,.int .i64 x.o,vsays,uA]/\bX dL w A vsays x.H/\bX dL w A uA x.u
 len:=by rintro w A cs x ⟨vsays,uA,rfl,h0,h1⟩;rfl
 one:=by rintro w A cs x ⟨vsays,uA,rfl,h0,h1⟩ u hu;simp only[bs,dk,or_false]at hu;rcases hu with rfl|rfl|rfl|rfl|rfl|rfl<;>first|rfl|exact h0.one|exact h1.one
 pos:=by decide
 go:=by rintro w A cs x w2 A2 K ⟨vsays,uA,rfl,h0,h1⟩ hk hK hA;exact⟨_,_,Z,h0.go hk hK hA,h1.go hk hK hA⟩
theorem La{w:ay}{A:BS}{cs:H B}{x:vA}(h:Jg.rd w A cs x):∃a,∃b,cs=[.int .i64 x.h,.int .i64 x.t,.int .i64 x.k,.int .i64 x.o,a,b]/\bX dL w A a x.H/\bX dL w A b x.u:=h
section
variable{w:ay}{v:B}
theorem ek.mapR{α:Type}{R R':uO α}{aq A:BS}{l:H α}(W:R.sz=R'.sz)(h:∀cs x,x∈l->R.rd w A cs x->R'.rd w A cs x)(e:ek R w aq A v l):ek R' w aq A v l:=by
 obtain⟨a,cap,rfl,m,d,p,n⟩:=e;refine⟨a,cap,Z,m,d,p,λi hi=>?_⟩;obtain⟨b,o,cells,E,f,j,k,g,c⟩:=n i hi;refine⟨b,o,cells,E,f,j,k,g,?_⟩;rw[<-W];exact h _ _ (List.getElem_mem hi) c
structure dM where
 h:Int
 n:Int
 e:List Tok
 f:List Tok
 a:List dM
 b:List dM
def zL:Nat->{R:uO dM // R.sz=6}
 |0=>⟨{sz:=6,rd:=λ_ _ _ _=>False,len:=λh=>h.elim,one:=λh=>h.elim,pos:=by decide,go:=λh=>h.elim},rfl⟩
 |d+1=>⟨{
  sz:=6
  rd:=λw A cs x=>∃j c g i,cs=[.int .i64 x.h,.int .i64 x.n,j,c,g,i]/\bX Rc w A j x.e/\bX Rc w A c x.f/\bX (zL d).1 w A g x.a/\bX (zL d).1 w A i x.b
  len:=by rintro w A cs x ⟨j,c,g,i,rfl,_⟩;rfl
  one:=by rintro w A cs x ⟨j,c,g,i,rfl,o,p,r,q⟩ u s;simp only[bs,dk,or_false]at s;rcases s with rfl|rfl|rfl|rfl|rfl|rfl<;>first|rfl|exact o.one|exact p.one|exact r.one|exact q.one
  pos:=by decide
  go:=by rintro w A cs x t v K ⟨j,c,g,i,rfl,o,p,r,q⟩ l m k;exact⟨_,_,_,_,Z,o.go l m k,p.go l m k,r.go l m k,q.go l m k⟩},Z⟩
theorem Tv:∀(d:Nat) {w:ay} {A:BS} {cs:H B} {x:dM},(zL d).1.rd w A cs x->(zL (d+1)).1.rd w A cs x
 |0,_,_,_,_,h=>h.elim
 |d+1,_,_,_,_,h=>by
  obtain⟨e,g,a,c,rfl,f,b,j,i⟩:=h;exact⟨e,g,a,c,Z,f,b,j.mapR ((zL d).2.trans (zL<|d+1).2.symm) λ_ _ _ h=>Tv d h,i.mapR ((zL d).2.trans (zL<|d+1).2.symm) λ_ _ _ h=>Tv d h⟩
variable{A:BS}{cs:H B}{x:dM}
theorem V1{d d':Nat}(a:d<=d')(h:(zL d).1.rd w A cs x):(zL d').1.rd w A cs x:=by
 induction a with
 |refl=>exact h
 |step _ ih=>exact Tv _ ih
def Ch:uO dM where
 sz:=6
 rd w A cs x:=∃d,(zL d).1.rd w A cs x
 len:=by rintro w A cs x ⟨d,h⟩;exact((zL d).1.len h).trans (zL d).2
 one:=by rintro w A cs x ⟨d,h⟩;exact(zL d).1.one h
 pos:=by decide
 go:=by rintro w A cs x w2 A2 K ⟨d,h⟩ hk hK hA;exact⟨d,(zL d).1.go h hk hK hA⟩
theorem max_of{P:Nat->Nat->Prop}(b:∀d d' i,d<=d'->P d i->P d' i):∀n,(∀i,i<n->∃d,P d i)->∃d,∀i,i<n->P d i
  |0,_=>⟨0,λi hi=>ZL hi (ir _)⟩
  |n+1,h=>by
    obtain⟨d,c⟩:=max_of b n λi hi=>h i V;obtain⟨d',a⟩:=h n V;refine⟨max d d',λi hi=>?_⟩;by_cases e:i=n
    · subst e;exact b _ _ _ (AM _ _) a
    · exact b _ _ _ (BW _ _)<|c i V
theorem OF{l:H dM}(h:bX Ch w A v l):∃d,∀d',d<=d'->bX (zL d').1 w A v l:=by
 obtain⟨a,cap,rfl,n,p,s,r⟩:=h;have q:=max_of (P:=λd i=>∀h:i<O l,∃b o cells E c,a=U ⟨b,o,bd⟩/\¬A b/\w.heap[b]? =U (.cells cells E c)/\(zL d).1.rd w A ((cells.toList.drop<|o+i*6).take 6) l[i])
  (λd d' i m J h=>let ⟨b,o,cells,E,c,j,f,g,e⟩:=J h;⟨b,o,cells,E,c,j,f,g,V1 m e⟩) (O l)
  (λi hi=>by obtain⟨b,o,cells,E,c,j,f,g,d,e⟩:=r i hi;exact⟨d,λ_=>⟨b,o,cells,E,c,j,f,g,e⟩⟩)
 obtain⟨d,m⟩:=q;refine⟨d,λd' k=>⟨a,cap,Z,n,p,s,λi hi=>?_⟩⟩;obtain⟨b,o,cells,E,c,j,f,g,e⟩:=m i hi hi;exact⟨b,o,cells,E,c,j,f,g,by rw[(zL d').2];exact V1 k e⟩
theorem Re(h:Ch.rd w A cs x):∃j i c g,cs=[.int .i64 x.h,.int .i64 x.n,j,i,c,g]/\bX Rc w A j x.e/\bX Rc w A i x.f/\bX Ch w A c x.a/\bX Ch w A g x.b:=by
 obtain⟨d,h⟩:=h;cases d with
 |zero=>exact h.elim
 |succ d=>
  obtain⟨j,i,c,g,rfl,l,k,o,m⟩:=h;exact⟨j,i,c,g,Z,l,k,o.mapR (zL d).2 λ_ _ _ h=>⟨d,h⟩,m.mapR (zL d).2 λ_ _ _ h=>⟨d,h⟩⟩
theorem rStmt_mk(h:∃j i c g,cs=[.int .i64 x.h,.int .i64 x.n,j,i,c,g]/\bX Rc w A j x.e/\bX Rc w A i x.f/\bX Ch w A c x.a/\bX Ch w A g x.b):Ch.rd w A cs x:=by
 obtain⟨j,i,c,g,rfl,m,l,q,p⟩:=h;obtain⟨d,o⟩:=OF q;obtain⟨d',k⟩:=OF p;exact⟨max d d'+1,j,i,c,g,Z,m,l,o _<|BW _ _,k _<|AM _ _⟩
structure ll where
 params:Int
 locals:Int
 body:List dM
def Py:uO ll where
 sz:=3
 rd w A cs x:=∃vbody,cs=[.int .i64 x.params,.int .i64 x.locals,vbody]/\bX Ch w A vbody x.body
 len:=by rintro w A cs x ⟨vbody,rfl,h0⟩;rfl
 one:=by rintro w A cs x ⟨vbody,rfl,h0⟩ u hu;simp only[bs,dk,or_false]at hu;rcases hu with rfl|rfl|rfl<;>first|rfl|exact h0.one
 pos:=by decide
 go:=by rintro w A cs x w2 A2 K ⟨vbody,rfl,h0⟩ hk hK hA;exact⟨_,Z,h0.go hk hK hA⟩
theorem E5{x:ll}(h:Py.rd w A cs x):∃a,cs=[.int .i64 x.params,.int .i64 x.locals,a]/\bX Ch w A a x.body:=h
end
section
variable{α β σ ρ:Type}
section
variable{l:H α}{i:Nat}
theorem kz:vx l (i:Int)=l[i]? :=by simp[vx]
theorem rC(h:i<O l):vx l (i:Int)=U l[i]:=by rw[kz,bl h]
theorem gH{p:Prop} [Decidable p]{x:L β}(h:p):iC p x=x:=Z3 h
theorem vO{b:Nat}{a:H α}(h:O a*b<=140737488355328)(c:O a<=9223372036854775807):Dd b a=U a:=by
 unfold Dd;exact gH<|Room.mk (by simpa using h) (by simpa using c)
variable{a b:Nat}
theorem Sl(h:a<=b)(c:b<=O l):sub? l (a:Int) (b:Int)=U ((l.take b).drop a):=by
 unfold sub? cut;rw[Z3 ⟨by omega,by omega,by omega⟩];simp
theorem del_s(h:a<b)(c:b<=O l):del1 l (a:Int) (b:Int)=U (l.take a++l.drop b):=by
 unfold del1;rw[Z3 ⟨by omega,by omega,by omega⟩];simp
theorem one_at{n:Nat}(h:n<O l):(l.take (n+1)).drop n=[l[n]]:=by
 rw[et,cy h,show n+1-n=1 by omega];rfl
def Ek(p:α->β->YU):H α->H β->YU
 |[],[]=>bh
 |x::xs,y::ys=>p x y&&Ek p xs ys
 |_,_=>aw
theorem Dn [DecidableEq α]{p:α->α->YU}(J:∀x y,p x y=G (x=y)):∀(a b:H α),Ek p a b=G (a=b)
 |[],[]=>by simp[Ek]
 |[],_::_=>by simp[Ek]
 |_::_,[]=>by simp[Ek]
 |x::xs,y::ys=>by simp[Ek,J,Dn J xs ys]
variable{kk:Unit->L YU}
theorem Pz{body:Int->Unit->(Unit->L YU)->L YU}(p:α->β->YU)(a:H α)(b:H β)(hl:O a=O b)(g:kk ()=U bh)(f:∀(i:Nat) x y nx,a[i]? =U x->b[i]? =U y->body (i:Int) () nx=bif p x y then nx ()else U aw):Ax body kk 0 (O a) ()=U (Ek p a b):=by
 have c:∀(m i:Nat),i+m=O a->Ax body kk (i:Int) m ()=U (Ek p (a.drop i)<|b.drop i):=by
  intro m;induction m with
  |zero=>
   intro i h;rw[cC V,cC V];exact g
  |succ m ih=>
   intro i h;have e:i<O a:=by omega
   have d:i<O b:=by omega
   rw[cy e,cy d];show body (i:Int) () (Ax body kk ((i:Int)+1) m)=_;rw[f i a[i] b[i] _ (bl e) (bl d)];cases J:p a[i] b[i]with
   |true=>simp only[Z1,Ek,J,gw];exact ih (i+1) V
   |false=>simp[Ek,J]
 simpa using c (O a) 0 V
theorem Rf{body:Int->α->Unit->(Unit->L YU)->L YU}(p:α->β->YU)(a:H α)(b:H β)(hl:O a=O b)(f:kk ()=U bh)(e:∀(i:Nat) x y nx,b[i]? =U y->body (i:Int) x () nx=bif p x y then nx ()else U aw):ic body kk 0 a ()=U (Ek p a b):=by
 have c:∀(l:H α) (i:Nat),i+O l=O b->ic body kk (i:Int) l ()=U (Ek p l<|b.drop i):=by
  intro l;induction l with
  |nil=>
   intro i h;rw[cC (by simp at h;omega)];exact f
  |cons x l ih=>
   intro i h;simp only[br]at h;have d:i<O b:=by omega
   rw[cy d];show body (i:Int) x () (ic body kk ((i:Int)+1) l)=_;rw[e i x b[i] _ (bl d)];cases J:p x b[i]with
   |true=>simp only[Z1,Ek,J,gw];exact ih (i+1) V
   |false=>simp[Ek,J]
 simpa using c a 0 V
theorem LN{body:Int->σ->(σ->ρ)->ρ}{g:Int->α->σ->(σ->ρ)->ρ}{k:σ->ρ}(l:H α)(b:∀(i:Nat) x s nx,l[i]? =U x->body (i:Int) s nx=g (i:Int) x s nx)(s:σ):Ax body k 0 (O l) s=ic g k 0 l s:=by
 have a:∀(m i:Nat),i+m=O l->∀s,Ax body k (i:Int) m s=ic g k (i:Int) (l.drop i) s:=by
  intro m;induction m with
  |zero=>intro i h s;rw[cC V];rfl
  |succ m ih=>
   intro i h s;have hi:i<O l:=by omega
   rw[cy hi];show body (i:Int) s (Ax body k ((i:Int)+1) m)=g (i:Int) l[i] s (ic g k ((i:Int)+1)<|l.drop<|i+1);rw[b i l[i] s _ (bl hi)];congr 1;funext s';exact ih (i+1) V s'
 simpa using a (O l) 0 V s
theorem PD{body:Int->Unit->(Unit->ρ)->ρ}{kk:Unit->ρ}(p:α->YU)(F:Int->ρ)(l:H α)(b:∀(i:Nat) x nx,l[i]? =U x->body (i:Int) () nx=bif p x then F i else nx ()):
  Ax body kk 0 (O l) ()=match l.findIdx? p with|some n=>F (n:Int)|none=>kk ():=by
 have a:∀(m i:Nat),i+m=O l->Ax body kk (i:Int) m ()=match (l.drop i).findIdx? p with|some n=>F ((i+n:Nat):Int)|none=>kk ():=by
  intro m;induction m with
  |zero=>intro i h;rw[cC V];rfl
  |succ m ih=>
   intro i h;have hi:i<O l:=by omega
   rw[cy hi,List.findIdx?_cons];show body (i:Int) () (Ax body kk ((i:Int)+1) m)=_;rw[b i l[i] _ (bl hi)];cases J:p l[i]with
   |true=>rfl
   |false=>
    simp only[Z2,cL,if_false];have:=ih (i+1) V;rw[show((i+1:Nat):Int)=(i:Int)+1 from rfl]at this;rw[this];cases (l.drop (i+1)).findIdx? p with
    |none=>rfl
    |some n=>simp only[dt];congr 1;omega
 have:=a (O l) 0 V;simp only[fF,hJ]at this;exact this
theorem del_s1{a:Nat}(h:a<O l):del1 l (a:Int) ((a:Int)+1)=U (l.take a++l.drop (a+1)):=by
 have:=del_s (l:=l) (a:=a) (b:=a+1) V V;exact this
end
theorem dT{p:Prop} [Decidable p](h:p):decide p=true:=decide_eq_true h
theorem dF{p:Prop} [Decidable p](h:¬p):decide p=false:=decide_eq_false h
theorem gI{x:Int}{y:L β}(a: -9223372036854775808<=x:=by omega)(b:x<=9223372036854775807:=by omega):iC (j6 x) y=y:=gH (j6.mk a b)
end
open Go.RowKit
def gQ:uO UInt8 where
 sz:=1
 rd _ _ cs x:=cs=[.int .u8 (x.toNat:Int)]
 len:=by rintro w A cs x rfl;rfl
 one:=by rintro w A cs x rfl u hu;simp at hu;subst hu;rfl
 pos:=by decide
 go:=λh _ _ _=>h
def Qr(v:B)(b:YU):Prop:=(b=aw/\v=.nilIface)\/(b=bh/\∃t p,v=.iface t p)
structure IfaceT(P:cd)(T:bk):Prop where
 desc:P.underlying T=U (.interface (P.methodsAt T))
def Hy{α:Type}(bytes:Nat)(k:Int):L (H α):=iC (0<=k/\k*bytes<=140737488355328) (U [])
section
variable{P:cd}{ops:Array ec}{sc:gd->Act->ay->Prop}{n:Nat}{env:Nat->B}{w w' I:ay}{M K:BS}{J:Nat->Chunk}{rest:H ec}
 {d:L Nat} {op:Op} {ty:bk} {pos:String} {af:Array hX} {v:B} {g:L (Nat×YU)} {T:bk} {ρ:bt->B} {x y:bt}
section
variable{a b:vh}{T2:bk}
theorem WO(c:ρ x=bJ a)(e:ρ y=bJ b):(bn ρ ⟨d,.binOp .eql T x y T2,ty,pos,af,g⟩).run P w=.ok (.value (.bool (G (a=b)))) w:=by
 simp[bn,nD,c,e,bJ,Op.stringOp,fN];rw[dI];simp
theorem Tw(c:ρ x=bJ a)(e:ρ y=bJ b):(bn ρ ⟨d,.binOp .neq T x y T2,ty,pos,af,g⟩).run P w=.ok (.value (.bool (G (a≠b)))) w:=by
 simp[bn,nD,c,e,bJ,Op.stringOp,fN];rw[dI];simp
theorem Kb(e:ρ x=bJ a)(i:ρ y=bJ b)(h:O a+O b<=9223372036854775807):(bn ρ ⟨d,.binOp .add T x y T2,ty,pos,af,g⟩).run P w=.ok (.value (bJ (a++b))) w:=by
 have c:=run_string_add_sum (P:=P) (w:=w) ⟨ar a⟩ ⟨ar b⟩ (by simpa[mu]using h);have f:(⟨ar a⟩++⟨ar b⟩:ByteArray)=⟨ar (a++b)⟩:=by
  apply xa;simp
 rw[f]at c;simp[bn,nD,e,i,bJ,fN,c]
theorem S1{b:YU}(c:IfaceT P T)(a:ρ x=v)(f:Qr v b)(e:ρ (.const .nilIface)=.nilIface):(bn ρ ⟨d,.binOp .neq T x (.const .nilIface) T2,ty,pos,af,g⟩).run P w=.ok (.value (.bool b)) w:=by
  rcases f with⟨rfl,rfl⟩|⟨rfl,t,p,rfl⟩
  · simp[bn,nD,a,e,fN,run_equal_nil_nil w T c.desc]
  · simp[bn,nD,a,e,fN,Cz w T t p c.desc]
theorem r_eqlnilI{b:YU}(c:IfaceT P T)(a:ρ x=v)(f:Qr v b)(e:ρ (.const .nilIface)=.nilIface):(bn ρ ⟨d,.binOp .eql T x (.const .nilIface) T2,ty,pos,af,g⟩).run P w=.ok (.value (.bool !b)) w:=by
  rcases f with⟨rfl,rfl⟩|⟨rfl,t,p,rfl⟩
  · simp[bn,nD,a,e,fN,run_equal_nil_nil w T c.desc]
  · simp[bn,nD,a,e,fN,Cz w T t p c.desc]
variable{α:Type}{R:uO α}
theorem w_makeSl{E:bk}{bytes:Nat}{k:Int}{z:B}{a:α}(h:SH I M K w J)(i:Nat)(s:lK P T E 1 bytes)(p:One P E z)(W:R.sz=1)(f:0<bytes)(ab:ev n env x=.int .i64 k)(hy:ev n env y=.int .i64 k)(X:0<=k/\k*bytes<=140737488355328)(aq:∀w A,R.rd w A [z] a)(kk:∀w' u,SH I M K w' (cz J i (.own R E u (bw k.toNat a)))->WL P ops sc rest n (gp env d u) w'):
    WL P ops sc (⟨d,.makeSlice T x y,ty,pos,af,bd⟩::rest) n env w:=by
  obtain⟨S,Zs⟩:=X;obtain⟨m,rfl⟩:=ck S;obtain⟨j,z',hi,al,l,g,t⟩:=s.info;have c:=p.info;rw[hi]at c;simp only[dt,fb,ie]at c;have C:m<=m*bytes:=pf _ f;have N:m*bytes<=140737488355328:=by
    have:((m*bytes:Nat):Int)<=140737488355328:=by rw[Bx];exact Zs
    omega
  obtain⟨w',F,ho,hg⟩:=run_make_full (P:=P) w 0 T E j z 1 s.desc hi c.1 l .i64 .i64 m (by rw[g,mT];omega) (by unfold mC;omega) (gk _);have o:Grow w w':=(ED (v:=.slice bd 0 0) hg).weaken λ_ h _=>h.elim;have e:(bn (ev n env) ⟨d,.makeSlice T x y,ty,pos,af,bd⟩).run P w=.ok (.value<|.slice (U ⟨w.heap.size,0,bd⟩) m m) w':=by
    simp only[bn,cD,cR,bT,ab,hy,F]
  refine aC e<|kk w' _<|h.wJ i o ⟨(madeCells z.cells<|m*1).toList,?_,?_⟩ ?_
  · rw[W,mv];exact ho
  · intro q r;simp only[mv]at r;have w0:q<m:=r;rw[W,p.cell,toList_madeCells_one];have:(pa (q*1)<|bw (m*1) z).take 1=[z]:=by
      rw[List.drop_replicate,List.take_replicate,show min 1 (m*1-q*1)=1 by omega];rfl
    rw[this];simp only[List.getElem_replicate];exact aq _ _
  · intro b f;have:b=w.heap.size:=f;omega
variable{A:BS}
theorem run_appS{E u:bk}{l s:vh}(t:lK P T E 1 1)(ab:One P E (.int .u8 0))(aq:P.underlying u=U .string)(S:ρ x=v)(N:dz gQ E w A v l)(hy:ρ y=bJ s)(o:(O l+O s)*1<=140737488355328)(hm:O l+O s<=9223372036854775807):
    ∃n w',(bn ρ ⟨d,.call {callee:=.builtin .append,args:= #[x,y],argTypes:= #[T,u]},ty,pos,af,g⟩).run P w=.ok (.value n) w'/\dz gQ E w' A n (l++s)/\bF (ob v) w w'/\(∀b,ob n b->b<w.heap.size->ob v b):=by
  obtain⟨xs,ho,sc⟩:=N;obtain⟨i,z',hi,R,m,f,M⟩:=t.info;have a:=ab.info;rw[hi]at a;simp only[dt,fb,ie]at a;have e:(qT (ar s)).size=O s:=by simp[mu]
  obtain⟨n,w',k,X,h3,h4⟩:=Lib.run_append_own_string (P:=P) w 0 T u ty E i t.desc aq hi a.1 m f v (O l) xs ho ⟨ar s⟩ (by rw[e];unfold mC;omega) (by rw[e];omega) (gk _);have hk:=ED h3;have p:O xs=O l:=by simpa[gQ]using ho.1
  have z:(bn ρ ⟨d,.call {callee:=.builtin .append,args:= #[x,y],argTypes:= #[T,u]},ty,pos,af,g⟩).run P w=.ok (.value n) w':=by
    simp only[bn,jM,mA,mb,cD,cR,bT,hS,cr,jt,S,hy];rw[show(jy #[T,u] ty #[v,bJ s]).run P w=_ from k];rfl
  have F:vn ⟨ar s⟩=s.map λb=>dd .u8 (b.toNat:Int):=by simp[vn]
  refine⟨n,w',z,⟨xs++vn ⟨ar s⟩,?_,?_⟩,hk,?_⟩
  · rw[bm,<-e];exact X
  · intro q hq;show jG 1 (pa (q*1) _)=_;rw[oA,F];by_cases r:q<O l
    · have:=sc q r;have Zs:jG 1 (pa (q*1) xs)=[.int .u8 (l[q].toNat:Int)]:=this;rw[oA]at Zs;rw[ia V,de (by rw[cQ];omega),Zs,fm r]
    · rw[bm]at hq;rw[gD V,lz,cC V,cc,p,cy (by simp;omega)];simp
  · intro b o hl;rcases ho.2 with⟨rfl,hn⟩|⟨gg,cap,cur,rfl,_,hgg,hc,hcm,hcs',htake⟩
    · by_cases al:O s=0
      · have C:s=[]:=cA al;subst C;have:n=.slice bd 0 0:=h4.2 ⟨Z,e⟩;subst this;exact o
      · have c:=run_append_nil_string (P:=P) w T u ty E i (.int .u8 0) t.desc aq hi a.1 ⟨ar s⟩ V V (by rw[f];omega);rw[c]at k;cases k;simp[ob]at o;omega
    · by_cases w0:O l+O s<=cap
      · have K:cur.size=cap:=by simpa[gQ]using hcs'
        have c:=Lib.run_append_room_string (P:=P) w T u ty E i t.desc aq hi m gg (O l) cap cur hgg ⟨ar s⟩ V V;rw[c]at k;cases k;exact o
      · have holds:∀j u,xs[j]? =U u->w.cell? ((⟨gg,0,bd⟩:od).add j)=U u:=ho.cells (g:=gg) Z;have c:=Lib.run_append_grow_string (P:=P) w T u ty E i (.int .u8 0) t.desc aq hi a.1 ⟨gg,0,bd⟩ (O l) cap xs (by rw[m];simpa using p) holds ⟨ar s⟩ V V (by rw[f];exact growslice_fits V V);rw[c]at k;cases k;simp[ob]at o;omega
variable{E D:bk}
theorem UE{aq A:BS}{l:vh}(W:P.underlying T=U (.slice E))(i:P.underlying E=U (.int .u8))(k:P.underlying D=U .string)(q:ρ x=v)(s:ek gQ w aq A v l):
    (bn ρ ⟨d,.convert T D x,ty,pos,af,g⟩).run P w=.ok (.value (bJ l)) w:=by
  obtain⟨a,cap,rfl,K,F,Zs,p⟩:=s;have m:(convert T D<|.slice a (O l) cap).run P w=.ok (bJ l) w:=by
    cases l with
    |nil=>
      cases a with
      |none=>
        rw[run_convert_bytes_string w T D E bd _ _ W i k];simp[Conv.bytesToString,bJ];rfl
      |some a=>
        exact yd w T D E a cap [] W i k λj f=>ZL f<|ir _
    |cons c r=>
      obtain⟨b,o,cells,w0,al,rfl,_,_,_⟩:=p 0 C7;refine yd w T D E ⟨b,o,bd⟩ cap (c::r) W i k λj f=>?_;obtain⟨b',M,e,E2,C,y,_,z,u⟩:=p j f;cases y;have n:jG 1 (pa (o+j*1) e.toList)=[.int .u8 ((c::r)[j].toNat:Int)]:=u;rw[oA]at n;have t:e.toList[o+j]? =U (.int .u8 ((c::r)[j].toNat:Int)):=by
        have:=ZS (·[0]?) n;simpa[ca,ct]using this
      rw[FT];simpa[fh,z]using t
  simp only[bn,cD,cR,q,m,bT]
theorem w_s2b{s:vh}(h:SH I M K w J)(i:Nat)(W:P.underlying D=U .string)(o:P.underlying T=U (.slice E))(m:P.underlying E=U (.int .u8))(p:ev n env x=bJ s)(hl:O s<=140737488355328)(k:∀w' u,SH I M K w' (cz J i (.rd gQ u s))->Grow w w'->WL P ops sc rest n (gp env d u) w'):
    WL P ops sc (⟨d,.convert D T x,ty,pos,af,bd⟩::rest) n env w:=by
  have e:=Lib.run_convert_string_bytes (P:=P) w D T E ⟨ar s⟩ W o m;have c:(qT (ar s)).size=O s:=by simp[mu]
  rw[c]at e;have a:(bn (ev n env) ⟨d,.convert D T x,ty,pos,af,bd⟩).run P w=.ok (.value<|.slice (U ⟨w.heap.size,0,bd⟩) (O s)<|iJ w (O s) 0 E) (lI w E ⟨ar s⟩):=by
    simp only[bn,cD,cR,p,bJ,e,bT]
  have f:Grow w (lI w E ⟨ar s⟩):=⟨Z,Z,Z,by rw[xb];omega,λb _ g=>vJ w E _ b g⟩;refine aC a<|k _ _ (h.xQ i f ?_) f;refine⟨U ⟨w.heap.size,0,bd⟩,_,Z,AI w (O s) 0 E,tg w (O s) 0 E (by unfold mC;omega),(λh=>by cases h),λj q=>⟨w.heap.size,0,_,E,_,rfl,?_,Lib.bytesWorld_at_new w E _,?_⟩⟩
  · intro l;exact Nat.lt_irrefl _<|h.lt _ l
  · show jG 1 (pa (0+j*1) _)=_;rw[hJ,oA];simp only[Lib.bytesCells];rw[cy (by simp;omega)];simp[q]
theorem str_ex(s:vh)(a b:Nat):(qT (ar s)).extract a b=⟨ar ((s.take b).drop a)⟩:=by
 apply xa;simp[ByteArray.data_extract,et]
theorem oZ(s:vh):(qT (ar s)).size=O s:=by simp[mu]
def subs?(s:vh)(a b:Int):L vh:=iC (0<=a/\a<=b/\b<=O s) (U (cut s a b))
variable{lo hi:L bt}
theorem r_sls{s:vh}{a b:Int}(f:P.underlying T=U .string)(o:ρ x=bJ s)(k:Wh (lo.map ρ) a 0)(j:Wh (hi.map ρ) b (O s))(n:0<=a)(i:a<=b)(r:b<=O s):
    (bn ρ ⟨d,.slice T x lo hi bd,ty,pos,af,g⟩).run P w=.ok (.value (bJ (cut s a b))) w:=by
  obtain⟨a,rfl⟩:=ck n;obtain⟨b,rfl⟩:=ck<|Int.le_trans n i;have m:a<=b:=by omega
  have p:b<=O s:=by omega
  have q:cut s (a:Int) (b:Int)=(s.take b).drop a:=by simp[cut]
  have l:(me T (bJ s) (lo.map ρ) (hi.map ρ) bd).run P w=.ok (bJ ((s.take b).drop a)) w:=by
    unfold bJ;rcases k with⟨e1,e2⟩|e1<;>rcases j with⟨e3,e4⟩|e3
    · have c:a=0:=by omega
      have e:b=O s:=by omega
      subst c e;rw[e1,e3,run_slice_string_all w T _ f,str_ex,oZ]
    · have c:a=0:=by omega
      subst c;rw[e1,e3,run_slice_string_to_if w T _ _ _ f,Z3 ⟨by omega,by rw[oZ];omega⟩,str_ex];simp
    · have e:b=O s:=by omega
      subst e;rw[e1,e3,run_slice_string_from_if w T _ _ _ f,Z3 ⟨by omega,by rw[oZ];omega⟩,str_ex,oZ];simp
    · rw[e1,e3,run_slice_string w T _ _ _ _ _ f V V (by rw[oZ];omega),str_ex];simp
  rw[q];simp only[bn,cD,cR,o,Option.map_none,run_sliceAt_string w T _ _ _ _ f,l,bT]
variable{s r:vh}
theorem W3{a b:Int}(l:r=cut s a b)(k:P.underlying T=U .string)(i:ρ x=bJ s)(f:Wh (lo.map ρ) a 0)(e:Wh (hi.map ρ) b (O s))(m:0<=a)(c:a<=b)(j:b<=O s):
  (bn ρ ⟨d,.slice T x lo hi bd,ty,pos,af,g⟩).run P w=.ok (.value (bJ r)) w:=by
 subst l;exact r_sls k i f e m c j
theorem Wc{a b:Int}(h:subs? s a b=U r):0<=a/\a<=b/\b<=O s/\r=cut s a b:=by
 obtain⟨c,d⟩:=cK h;exact⟨c.1,c.2.1,c.2.2,(dp d).symm⟩
theorem Rh{E b:bk}{sz bytes:Nat}{k:Nat}(j:lK P T E sz bytes)(W:R.sz=sz)(v:P.underlying b=U (.int .i64))(s:ev n env x=.slice bd 0 0)(u:ev n env y=.int .i64 (k:Nat))(t:0<k)(l:0<bytes)(m:k*bytes<=140737488355328)(h:∀w' gg cap,Grow w w'->w.heap.size<=gg->gg<w'.heap.size->k<=cap->dz R E w' A (.slice (U ⟨gg,0,bd⟩) 0 cap) ([]:H α)->WL P ops sc rest n (gp env d (.slice (U ⟨gg,0,bd⟩) k cap)) w'):
    WL P ops sc (⟨d,.call {callee:=.builtin .append,args:= #[x,y],argTypes:= #[T,b]},ty,pos,af,bd⟩::rest) n env w:=by
  obtain⟨i,z,hi,p,r,e,c⟩:=j.info;have g:=R.pos;have o:k<=k*bytes:=pf _ l;have q:=Lib.run_append_nil_zeros (P:=P) w T b ty E i z .i64 .i64 j.desc v hi p k t V V (by rw[e];omega);have a:(bn (ev n env) ⟨d,.call {callee:=.builtin .append,args:= #[x,y],argTypes:= #[T,b]},ty,pos,af,bd⟩).run P w=.ok (.value<|.slice (U ⟨w.heap.size,0,bd⟩) k<|iJ w k 0 E) (w.drew.alloc<|.cells (cH z.cells k++cH z.cells (iJ w k 0 E-k)) E):=by
    simp only[bn,jM,mA,mb,cD,cR,bT,hS,cr,jt,s,u,q]
  have E0:=AI w k 0 E;have f:iJ w k 0 E<=maxLen:=tg w k 0 E (by unfold mC;omega);refine aC a<|h _ _ _ ((Grow.drew w).trans<|Grow.alloc _ _) (cl _) ?_ E0 ⟨[],⟨by simp,.inr ⟨w.heap.size,_,_,Z,gk _,heap_alloc_new w.drew _,gk _,f,?_,by simp⟩⟩,λi h=>ZL h<|ir _⟩
  · show w.heap.size<(w.drew.alloc _).heap.size;rw[alloc_size];exact AG _
  · rw[Array.size_append,oY,oY,c,W,<-cj];congr 1;omega
end
end
open Go.RowKit
structure ql(P:cd)(g:Nat)(w:ay):Prop where
 pow:pH P w "internal/strconv.uint64pow10" .u64 vp
 syn:∃t p,w.var? P "strconv.ErrSyntax" =U #[.iface t p]
 ran:∃t p,w.var? P "strconv.ErrRange" =U #[.iface t p]
 max:∃m,w.cell? ⟨g,0,bd⟩=U (.int .i64 m)
 many:P.globals.size<=w.heap.size
 gmax:g<P.globals.size
 asc:∀q,P.globalNamed "strings.asciiSpace" =U q->pH P w "strings.asciiSpace" .u8 Lib.asciiSpaceTab
section
variable{P:cd}{s:String}
theorem Mx{i:Nat}(h:P.globalNamed s=U i):i<P.globals.size:=by
  unfold Program.globalNamed at h;split at h
  · rename_i g a;cases h;have:i∈(List.range P.globals.size).filter λg=>(P.globals[g]?).any (·.name==s):=by rw[a];simp
    exact List.mem_range.1 (List.mem_filter.1 this).1
  · cases h
variable{K:BS}{w w':ay}
theorem bF.var{cs:Array B}(a:bF K w w')(c:∀b,K b->P.globals.size<=b)(h:w.var? P s=U cs):w'.var? P s=U cs:=by
 unfold World.var? at h⊢;cases hg:P.globalNamed s with
 |none=>simp[hg]at h
 |some g=>
  have hl:=Mx hg;simp only[hg,cJ]at h⊢;cases hb:w.heap[g]? with
  |none=>simp[hb]at h
  |some o=>rw[a.blk hb (λd=>ZL (c _ d) V)];rw[hb]at h;exact h
variable{g:Nat}
theorem ql.WQ(h:ql P g w)(a:bF K w w')(c:∀b,K b->P.globals.size<=b):ql P g w':=by
 obtain⟨j,⟨t2,p,f⟩,⟨s,k,r⟩,⟨m,d⟩,i,n,l⟩:=h;refine⟨a.var c j,⟨t2,p,a.var c f⟩,⟨s,k,a.var c r⟩,⟨m,?_⟩,cN i a.size,n,λq e=>a.var c<|l q e⟩;unfold fh at d⊢;cases hb:w.heap[g]? with
 |none=>simp[hb]at d
 |some o=>rw[a.blk hb (λe=>ZL (c _ e) V)];rw[hb]at d;exact d
theorem ql.go(h:ql P g w)(a:Grow w w'):ql P g w':=h.WQ a (λ_ h=>h.elim)
theorem SH.Az{I w:ay}{M K:BS}{J:Nat->Chunk}{C:Chunk}(h:SH I M K w J)(c:ql P g I)(d:∀b,K b->P.globals.size<=b)(i:Nat)(hi:J i=C):∀b,C.own' b->P.globals.size<=b:=by
  subst hi;intro b a;rcases cG b I.heap.size with hl|hl
  · exact d b<|h.old i b a hl
  · exact cN c.many hl
end
theorem Grow.drewN(w:ay)(k:Nat):Grow w (w.drewN k):=⟨rfl,rfl,rfl,cl _,λ_ _ _=>rfl⟩
theorem Grow.Hy{w:ay}{os:Array Obj}:Grow w (nc w os):=⟨rfl,rfl,rfl,by simp[nc],λb _ a=>by simp[nc,tw a]⟩
def Og(n:Int):L vh:=iC (j6 n) (U (dw n))
def Oh(s:vh):L (Int×YU):=iC (O s<=281474976710656) (U (match eC s with| .ok v=>(v,aw)| .range=>(we s,bh)|_=>(0,bh)))
def Lk(s:vh):L (Int×YU):=iC (O s<=281474976710656) (U (match kl 64 s with| .ok v=>(v,aw)| .range=>(ye 64 s,bh)|_=>(0,bh)))
def HJ(l:H vh)(sep:vh):L vh:=iC (O l<=140737488355328/\O (tM l sep)<=140737488355328) (U (tM l sep))
def Tx(s sep:vh):L (H vh):=iC (O s<4294967281/\1<=O sep) (U (AN s sep))
def Jh(s sep:vh):L (H vh):=iC (O s<4294967281/\1<=O sep) (U (yi sep (O sep) (ve s sep) s))
def cutS(s sep:vh):L (vh×vh×YU):=iC (O s<4294967281) (U (sy s sep))
def Ri(s p:vh):L YU:=iC (O s<=281474976710656) (U (Lib.hasSuffix s p))
section
variable{P:cd}{g:Nat}{I:ay}{f:nd}{M:BS}
section
variable{a:Int}
theorem itoa_w(c:∀n,-9223372036854775808<=n->n<=9223372036854775807->∀w,pH P w "internal/strconv.uint64pow10" .u64 vp->bp P f #[.int .i64 n] w λe w'=>e=.returned (.string ⟨ar (dw n)⟩)/\∃k os,w'=nc (w.drewN k) os)(b:ql P g I){r:vh}(W:Og a=U r):bp P f #[.int .i64 a] I (X9 I (bJ r)):=by
 obtain⟨h,W⟩:=cK W;cases W;refine(c a h.1 h.2 I b.pow).mono ?_;rintro e w'⟨rfl,k,os,rfl⟩;exact⟨(Grow.drewN I k).trans Grow.Hy,Z⟩
theorem format_w(c:∀n,-9223372036854775808<=n->n<=9223372036854775807->∀w,pH P w "internal/strconv.uint64pow10" .u64 vp->bp P f #[.int .i64 n,.int .i64 10] w λe w'=>e=.returned (.string ⟨ar (dw n)⟩)/\∃k os,w'=nc (w.drewN k) os)(b:ql P g I){r:vh}(W:Og a=U r):bp P f #[.int .i64 a,.int .i64 10] I (X9 I (bJ r)):=by
 obtain⟨h,W⟩:=cK W;cases W;refine(c a h.1 h.2 I b.pow).mono ?_;rintro e w'⟨rfl,k,os,rfl⟩;exact⟨(Grow.drewN I k).trans Grow.Hy,Z⟩
theorem bw_grow(w:ay)(t:bk)(s:ByteArray):Grow w (lI w t s):=⟨rfl,rfl,rfl,by rw[xb];omega,λb _ a=>vJ w t _ b a⟩
variable{T5 T168 T210:bk}{nm:ByteArray}{r:Int×YU}
theorem atoi_w(i:∀s:ByteArray,s.size<=9223372036854775806->∀v,eC s.data.toList=.ok v->∀w,bp P f #[.string s] w λe w'=>e=.returned (.tuple #[.int .i64 v,.nilIface])/\(w'=w\/∃t,w'=lI w T5 t))(k:∀s:ByteArray,s.size<=281474976710656->∀e,eC s.data.toList=e->(∀v,e≠ .ok v)->e≠ .range->∀a p w,w.var? P "strconv.ErrSyntax" =U #[.iface a p]->bp P f #[.string s] w λe w'=>∃N,e=.returned (.tuple #[.int .i64 0,.iface T168 (.pointer (U ⟨N,0,bd⟩))])/\w.heap.size<=N/\w'.heap[N]? =U (.cells #[.string nm,.string s,.iface a p] T210 (0,0))/\Below w.heap.size w w')(m:∀s:ByteArray,s.size<=281474976710656->eC s.data.toList=.range->∀a p w,w.var? P "strconv.ErrRange" =U #[.iface a p]->bp P f #[.string s] w λe w'=>∃N,e=.returned (.tuple #[.int .i64 (we s.data.toList),.iface T168 (.pointer (U ⟨N,0,bd⟩))])/\w.heap.size<=N/\w'.heap[N]? =U (.cells #[.string nm,.string s,.iface a p] T210 (0,0))/\Below w.heap.size w w')(d:ql P g I){s:vh}(W:Oh s=U r):bp P f #[bJ s] I (λe w'=>Grow I w'/\∃u,e=.returned (.tuple #[.int .i64 r.1,u])/\Qr u r.2):=by
  obtain⟨h,W⟩:=cK W;have j:=oZ s;cases hq:eC s with
  |ok v=>
    rw[hq]at W;cases W;refine(i ⟨ar s⟩ V v (by simpa using hq) I).mono ?_;rintro e w'⟨rfl,l⟩;refine⟨?_,_,Z,.inl ⟨Z,Z⟩⟩;rcases l with rfl|⟨t,rfl⟩
    · exact bF.refl _ _
    · exact bw_grow _ _ _
  |range=>
    rw[hq]at W;cases W;obtain⟨t,p,c⟩:=d.ran;refine(m ⟨ar s⟩ V (by simpa using hq) t p I c).mono ?_;rintro e w'⟨N,rfl,_,_,b⟩;refine⟨Grow.of_below b,.iface T168<|.pointer<|some ⟨N,0,bd⟩,by simp,.inr ⟨Z,_,_,Z⟩⟩
  |_=>
    rw[hq]at W;cases W;obtain⟨t,p,c⟩:=d.syn;refine(k ⟨ar s⟩ V _ (by simpa using hq) (λv=>by simp) C7 t p I c).mono ?_;rintro e w'⟨N,rfl,_,_,b⟩;exact⟨Grow.of_below b,_,Z,.inr ⟨Z,_,_,Z⟩⟩
theorem parse_w(i:∀s:ByteArray,s.size<=9223372036854775806->∀v,kl 64 s.data.toList=.ok v->∀w,bp P f #[.string s,.int .i64 10,.int .i64 64] w λe w'=>e=.returned (.tuple #[.int .i64 v,.nilIface])/\(w'=w\/∃t,w'=lI w T5 t))(k:∀s:ByteArray,s.size<=281474976710656->∀e,kl 64 s.data.toList=e->(∀v,e≠ .ok v)->e≠ .range->∀a p w,w.var? P "strconv.ErrSyntax" =U #[.iface a p]->bp P f #[.string s,.int .i64 10,.int .i64 64] w λe w'=>∃N,e=.returned (.tuple #[.int .i64 0,.iface T168 (.pointer (U ⟨N,0,bd⟩))])/\w.heap.size<=N/\w'.heap[N]? =U (.cells #[.string nm,.string s,.iface a p] T210 (0,0))/\Below w.heap.size w w')(m:∀s:ByteArray,s.size<=281474976710656->kl 64 s.data.toList=.range->∀a p w,w.var? P "strconv.ErrRange" =U #[.iface a p]->bp P f #[.string s,.int .i64 10,.int .i64 64] w λe w'=>∃N,e=.returned (.tuple #[.int .i64 (ye 64 s.data.toList),.iface T168 (.pointer (U ⟨N,0,bd⟩))])/\w.heap.size<=N/\w'.heap[N]? =U (.cells #[.string nm,.string s,.iface a p] T210 (0,0))/\Below w.heap.size w w')(d:ql P g I){s:vh}(W:Lk s=U r):bp P f #[bJ s,.int .i64 10,.int .i64 64] I (λe w'=>Grow I w'/\∃u,e=.returned (.tuple #[.int .i64 r.1,u])/\Qr u r.2):=by
  obtain⟨h,W⟩:=cK W;have j:=oZ s;cases hq:kl 64 s with
  |ok v=>
    rw[hq]at W;cases W;refine(i ⟨ar s⟩ V v (by simpa using hq) I).mono ?_;rintro e w'⟨rfl,l⟩;refine⟨?_,_,Z,.inl ⟨Z,Z⟩⟩;rcases l with rfl|⟨t,rfl⟩
    · exact bF.refl _ _
    · exact bw_grow _ _ _
  |range=>
    rw[hq]at W;cases W;obtain⟨t,p,c⟩:=d.ran;refine(m ⟨ar s⟩ V (by simpa using hq) t p I c).mono ?_;rintro e w'⟨N,rfl,_,_,b⟩;refine⟨Grow.of_below b,.iface T168<|.pointer<|some ⟨N,0,bd⟩,by simp,.inr ⟨Z,_,_,Z⟩⟩
  |_=>
    rw[hq]at W;cases W;obtain⟨t,p,c⟩:=d.syn;refine(k ⟨ar s⟩ V _ (by simpa using hq) (λv=>by simp) C7 t p I c).mono ?_;rintro e w'⟨N,rfl,_,_,b⟩;exact⟨Grow.of_below b,_,Z,.inr ⟨Z,_,_,Z⟩⟩
variable{A aq:BS}{l:H vh}
theorem rdStr_at{a:L od}{n c:Nat}(q:ek KG I aq A (.slice a n c) l)(hl:0<O l):∃e o,a=U ⟨e,o,bd⟩/\e<I.heap.size/\∀j x,l[j]? =U x->I.cell? ⟨e,o+j,bd⟩=U (bJ x):=by
  obtain⟨a',cap,g,z,w,C,m⟩:=q;cases g;obtain⟨b,o,cells,E,y,rfl,_,p,_⟩:=m 0 hl;refine⟨b,o,Z,jf p,λj x v=>?_⟩;obtain⟨i,f⟩:=List.getElem?_eq_some_iff.1 v;obtain⟨b',F,d,E2,u,g,_,t,r⟩:=m j i;cases g;have k:jG 1 (pa (o+j*1) d.toList)=[bJ l[j]]:=r;rw[oA]at k;have s:d.toList[o+j]? =U (bJ l[j]):=by
    have:=ZS (·[0]?) k;simpa[ca,ct]using this
  rw[<-f];simpa[fh,t]using s
theorem join_w(q:∀(a:L od) (c:Nat) (sep:ByteArray) (w:ay),bp P f #[.slice a 0 c,.string sep] w λe w'=>e=.returned (.string ⟨#[]⟩)/\w'=w)(p:∀(b o c:Nat) (xs:H ByteArray) (sep:ByteArray) (w:ay),(∀(j:Nat) x,xs[j]? =U x->w.cell? ⟨b,o+j,bd⟩=U (.string x))->b<w.heap.size->O xs<=140737488355328->O xs<=c->O (tM (xs.map (·.data.toList)) sep.data.toList)<=140737488355328->
      bp P f #[.slice (U ⟨b,o,bd⟩) (O xs) c,.string sep] w λe w'=>e=.returned (.string ⟨ar (tM (xs.map (·.data.toList)) sep.data.toList)⟩)/\Below w.heap.size w w') {v:B} {sep r:vh} (i:ek KG I aq A v l) (W:HJ l sep=U r):bp P f #[v,bJ sep] I (X9 I (bJ r)):=by
  obtain⟨h,W⟩:=cK W;cases W;have g:=i;obtain⟨a,cap,rfl,k1,k2,z,u⟩:=i;cases l with
  |nil=>
    refine(q a cap _ I).mono ?_;rintro e w'⟨rfl,rfl⟩;exact⟨bF.refl _ _,Z⟩
  |cons x l=>
    obtain⟨b,o,rfl,m,n⟩:=rdStr_at g C7;have k:((x::l).map λs=>(⟨ar s⟩:ByteArray)).map (·.data.toList)=x::l:=by simp[Function.comp_def]
    have:=p b o cap ((x::l).map λs=>⟨ar s⟩) ⟨ar sep⟩ I (λj y d=>by
      rw[eo]at d;cases hq:(x::l)[j]? with
      |none=>rw[hq]at d;cases d
      |some s=>rw[hq]at d;cases d;exact n j s hq) m (by simpa using h.1) (by simpa using k1) (by rw[k];simpa using h.2)
    rw[k,dr]at this;refine this.mono ?_;rintro e w'⟨rfl,t⟩;exact⟨Grow.of_below t,by simp[bJ]⟩
variable{E:bk}
theorem W7{l:H ByteArray}{A:BS}{cells:Array B}{cap:Nat}(w:ay)(m:∀b,A b->b<w.heap.size)(c:O l<=cap)(i:cap<=mC)(a:∀j (h:j<O l),cells[j]? =U (.string l[j])):bX KG (w.alloc (.cells cells E)) A (.slice (U ⟨w.heap.size,0,bd⟩) (O l) cap) (l.map (·.data.toList)):=by
  refine⟨U ⟨w.heap.size,0,bd⟩,cap,by simp,by simpa using c,i,(λh=>by cases h),λj k=>⟨w.heap.size,0,cells,E,(0,0),Z,?_,Pt w _,?_⟩⟩
  · intro g;exact Nat.lt_irrefl _ (m _ g)
  · have e:j<O l:=by simpa using k
    show jG 1 (pa (0+j*1) cells.toList)=_;have f:=a j e;have d:j<O cells.toList:=by
      rw[cx];rcases cG j cells.size with q|q
      · exact q
      · rw[pe q]at f;cases f
    rw[hJ,oA,cy d];have:cells.toList[j]=.string l[j]:=by
      have:=f;rw[<-iu,bl d]at this;exact dp this
    rw[this];simp[bJ]
variable{s sep:vh}
theorem split_w(k:∀(s sep:ByteArray) (m:Int) (w:ay),s.size<4294967281->w.cell? ⟨g,0,bd⟩=U (.int .i64 m)->1<=sep.size->
  bp P f #[.string s,.string sep] w λe w'=>e=.returned (.slice (U ⟨w.heap.size,0,bd⟩) (eh s sep+1) (eh s sep+1))/\w'=w.alloc (.cells (ar ((kO sep 0 (eh s sep) s).map ph)) E)) (i:∀b,M b->b<I.heap.size) (d:ql P g I) {r:H vh} (W:Tx s sep=U r):bp P f #[bJ s,bJ sep] I (λe w'=>Grow I w'/\∃u,e=.returned u/\bX KG w' M u r):=by
 obtain⟨h,W⟩:=cK W;cases W;obtain⟨m,n⟩:=d.max;refine(k ⟨ar s⟩ ⟨ar sep⟩ m I (by rw[oZ];exact h.1) n (by rw[oZ];exact h.2)).mono ?_;rintro e w'⟨rfl,rfl⟩;refine⟨Grow.alloc _ _,_,Z,?_⟩;have a:=CA ⟨ar sep⟩ (by rw[oZ];exact h.2) 0 _ ⟨ar s⟩ Z;have c:=BY ⟨ar sep⟩ 0 (eh ⟨ar s⟩ ⟨ar sep⟩) ⟨ar s⟩;have p:eh ⟨ar s⟩ ⟨ar sep⟩=ve s sep:=by simp[eh]
 have o:=Lib.countB_le ⟨ar sep⟩ (by rw[oZ];exact h.2) _ ⟨ar s⟩ (cl _);rw[oZ]at o;have:=W7 (E:=E) (l:=kO ⟨ar sep⟩ 0 (eh ⟨ar s⟩ ⟨ar sep⟩) ⟨ar s⟩) (cap:=eh ⟨ar s⟩ ⟨ar sep⟩+1) (cells:=((kO ⟨ar sep⟩ 0 (eh ⟨ar s⟩ ⟨ar sep⟩) ⟨ar s⟩).map ph).toArray) I i (by rw[a];exact cl _) (by unfold mC;omega) (λj q=>by simp[q]);rw[a,c]at this;simpa[AN,p]using this
theorem genSplit_w(i:∀(s sep:ByteArray) (a:Nat) (n:Int) (N:Nat) (m:Int) (w:ay),s.size<4294967281->w.cell? ⟨g,0,bd⟩=U (.int .i64 m)->1<=sep.size->a<=sep.size->n≠0->n<=9223372036854775807->(N:Int)=min (if n<0 then(eh s sep:Int)+1 else n) ((s.size:Int)+1)->
  bp P f #[.string s,.string sep,.int .i64 a,.int .i64 n] w λe w'=>e=.returned (.slice (U ⟨w.heap.size,0,bd⟩) (O (kO sep a (N-1) s)) N)/\w'=w.alloc (.cells (wg (kO sep a (N-1) s) N) E)) (d:∀b,M b->b<I.heap.size) (q:ql P g I) {r:H vh} (W:Jh s sep=U r):bp P f #[bJ s,bJ sep,.int .i64 (O sep:Int),.int .i64 (-1)] I (λe w'=>Grow I w'/\∃u,e=.returned u/\bX KG w' M u r):=by
 obtain⟨h,W⟩:=cK W;cases W;obtain⟨m,k⟩:=q.max;have v:eh ⟨ar s⟩ ⟨ar sep⟩=ve s sep:=by simp[eh]
 have t:=Lib.countB_le ⟨ar sep⟩ (by rw[oZ];exact h.2) _ ⟨ar s⟩ (cl _);rw[oZ]at t;refine(i ⟨ar s⟩ ⟨ar sep⟩ (O sep) (-1) (eh ⟨ar s⟩ ⟨ar sep⟩+1) m I (by rw[oZ];exact h.1) k (by rw[oZ];exact h.2) (by rw[oZ];exact cl _) tS tS (by rw[Z3 tS,oZ];omega)).mono ?_;rintro e w'⟨rfl,rfl⟩;refine⟨Grow.alloc _ _,_,Z,?_⟩;rw[Nat.add_sub_cancel];have o:=CA ⟨ar sep⟩ (by rw[oZ];exact h.2) (O sep) _ ⟨ar s⟩ Z;have p:=BY ⟨ar sep⟩ (O sep) (eh ⟨ar s⟩ ⟨ar sep⟩) ⟨ar s⟩;have:=W7 (E:=E) (l:=kO ⟨ar sep⟩ (O sep) (eh ⟨ar s⟩ ⟨ar sep⟩) ⟨ar s⟩) (cap:=eh ⟨ar s⟩ ⟨ar sep⟩+1) (cells:=wg (kO ⟨ar sep⟩ (O sep) (eh ⟨ar s⟩ ⟨ar sep⟩) ⟨ar s⟩) (eh ⟨ar s⟩ ⟨ar sep⟩+1)) I d (by rw[o];exact cl _) (by unfold mC;omega) (λj c=>by unfold wg;rw[List.getElem?_toArray,List.getElem?_append_left (by simpa using c)];simp[c]);rw[p]at this;simpa[v]using this
theorem hasSuf_w(a:∀(s p:ByteArray) (w:ay),s.size<=9223372036854775807->bp P f #[.string s,.string p] w λe w'=>e=.returned (.bool (Lib.hasSuffix s.data.toList p.data.toList))/\w'=w)
  {s p:vh} {r:YU} (W:Ri s p=U r):bp P f #[bJ s,bJ p] I (X9 I (.bool r)):=by
 obtain⟨h,W⟩:=cK W;cases W;refine(a ⟨ar s⟩ ⟨ar p⟩ I (by rw[oZ];omega)).mono ?_;rintro e w'⟨rfl,rfl⟩;exact⟨bF.refl _ _,by simp⟩
theorem cut_w(c:∀(s sep:ByteArray) (m:Int) (w:ay),s.size<4294967281->w.cell? ⟨g,0,bd⟩=U (.int .i64 m)->bp P f #[.string s,.string sep] w λe w'=>e=.returned (.tuple #[.string ⟨ar (sy s.data.toList sep.data.toList).1⟩,.string ⟨ar (sy s.data.toList sep.data.toList).2.1⟩,.bool (sy s.data.toList sep.data.toList).2.2])/\∃n,w'=w.drewN n)(a:ql P g I){r:vh×vh×YU}(W:cutS s sep=U r):bp P f #[bJ s,bJ sep] I (X9 I (.tuple #[bJ r.1,bJ r.2.1,.bool r.2.2])):=by
 obtain⟨h,W⟩:=cK W;cases W;obtain⟨m,b⟩:=a.max;refine(c ⟨ar s⟩ ⟨ar sep⟩ m I (by rw[oZ];exact h) b).mono ?_;rintro e w'⟨rfl,n,rfl⟩;exact⟨Grow.drewN _ _,by simp[bJ]⟩
end
end
open Go.RowKit
section
variable{P:cd}{ops:Array ec}{sc:gd->Act->ay->Prop}{n:Nat}{env:Nat->B}{w w' I:ay}{M K:BS}{J:Nat->Chunk}{rest:H ec}
 {d:L Nat} {op:Op} {ty:bk} {pos:String} {af:Array hX} {v:B} {g:L (Nat×YU)} {T:bk} {ρ:bt->B} {x y:bt} {i fuel:Nat} {listed:Array YU}
theorem SH.Wm{c:Chunk}(h:SH I M K w J)(i:Nat)(hi:J i=c)(d:bF c.own' w w'):SH I M K w' (cz J i .no):=
 h.step i d (λb a _=>by rw[hi];exact a) (λb a=>a.elim) an
theorem SH.xY{c e:Chunk}(h:SH I M K w J)(i j:Nat)(a:i≠j)(hi:J i=c)(f:J j=e)(d:bF (λb=>c.own' b\/e.own' b) w w'):SH I M K w' (cz (cz (cz J j .no) i (.two (J i) (J j))) i .no):=by
 refine(h.pair i j a).Wm i (c:=.two (J i)<|J j) (dG _ _ _) ?_;rw[hi,f];exact d
theorem jS{zs:H B}(h:SH I M K w J)(i:Nat)(a:yV P T zs)(k:∀w' b,SH I M K w' (cz J i (.blk b zs))->Grow w w'->w.heap.size<=b->WL P ops sc rest n (gp env d (.pointer (U ⟨b,0,bd⟩))) w'):WL P ops sc (⟨d,.alloc T,ty,pos,af,bd⟩::rest) n env w:=
 aC (r_allocN a) (k _ _ (h.newB i zs T) (Grow.alloc _ _) (cl _))
section
variable{b o:Nat}{cs:H B}
theorem fe{z:B}(h:SH I M K w J)(i:Nat)(a:H B)(hi:J i=.blk b cs)(f:One P T z)(c:ev n env x=.pointer (U ⟨b,o,bd⟩))(m:ev n env y=v)(ho:cs.set o v=a)(hl:mz o (O cs)=bh)(j:v.oneCell'=bh)(k:∀w',SH I M K w' (cz J i (.blk b a))->bF (λx=>x=b) w w'->WL P ops sc rest n (gp env d gC) w'):
  WL P ops sc (⟨d,.store T x y,ty,pos,af,bd⟩::rest) n env w:=by
 obtain⟨E,e⟩:=h.pO i hi;have:=h.putB i hi a E;subst ho;have l:=YZ (d:=d) (ty:=ty) (pos:=pos) (af:=af) (g:=bd) f c e (by rw[px]at hl;simpa using hl) m j;refine BO l<|k _ ?_<|bF.yA _ _ _;simpa using this
variable{zs vs:H B}
theorem jJ(h:SH I M K w J)(i:Nat)(a:H B)(hi:J i=.blk b cs)(g:yV P T zs)(e:ev n env x=.pointer (U ⟨b,o,bd⟩))(l:ev n env y=.agg (ar vs))(hl:O vs=O zs)(ho:Q7 cs o vs=a)(f:ly (o+O vs) (O cs)=bh)(j:∀v∈vs,v.oneCell'=bh)(k:∀w',SH I M K w' (cz J i (.blk b a))->bF (λx=>x=b) w w'->WL P ops sc rest n (gp env d gC) w'):
  WL P ops sc (⟨d,.store T x y,ty,pos,af,bd⟩::rest) n env w:=by
 obtain⟨E,c⟩:=h.pO i hi;subst ho;exact BO (Y0 g e c l hl (gE f) j)<|k _ (h.putB i hi _ E)<|bF.yA _ _ _
theorem jO{α:Type}{R:uO α}{E:bk}{sz bytes:Nat}{u:B}{l m:H α}(h:SH I M K w J)(i:Nat)(hi:J i=.own R E v l)(t:ek R w BE (SH.A M J) u m)(p:lK P T E sz bytes)(W:R.sz=sz)(j:ev n env x=v)(q:ev n env y=u)
    (a:(O l+O m)*bytes<=140737488355328) (r:O l+O m<=9223372036854775807)
    (k:∀w' c,SH I M K w' (cz J i (.own R E c (l++m)))->bF (ob v) w w'->(∀b,ob c b->b<w.heap.size->ob v b)->WL P ops sc rest n (gp env d c) w'):
    WL P ops sc (⟨d,.call {callee:=.builtin .append,args:= #[x,y],argTypes:= #[T,T]},ty,pos,af,bd⟩::rest) n env w:=by
  obtain⟨c,w',s,o,f,e⟩:=WD (d:=d) (ty:=ty) (pos:=pos) (af:=af) (g:=bd) p W j (h.bW i hi) q t (λb a=>.inr ⟨i,by rw[hi];exact a⟩) a r;refine aC s (k w' c (h.step i f (λb a _=>by rw[hi];exact a) (λb a hl=>by rw[hi];exact e b a hl) ?_) f e);refine dz.go o (bF.refl BE w') (λ_ h=>h.elim) (λ_ h=>h.elim) λb a _=>?_;rcases a with a|a|a
  · exact .inl<|.inl a
  · exact .inl<|.inr<|nQ a
  · exact .inr a
theorem H3{E u:bk}{l s:vh}(h:SH I M K w J)(i:Nat)(hi:J i=.own gQ E v l)(r:lK P T E 1 1)(j:One P E (.int .u8 0))(z:P.underlying u=U .string)(p:ev n env x=v)(t:ev n env y=bJ s)
  (f:(O l+O s)*1<=140737488355328) (m:O l+O s<=9223372036854775807)
  (k:∀w' a,SH I M K w' (cz J i (.own gQ E a (l++s)))->bF (ob v) w w'->(∀b,ob a b->b<w.heap.size->ob v b)->WL P ops sc rest n (gp env d a) w'):
  WL P ops sc (⟨d,.call {callee:=.builtin .append,args:= #[x,y],argTypes:= #[T,u]},ty,pos,af,bd⟩::rest) n env w:=by
 obtain⟨a,w',o,q,e,c⟩:=run_appS (d:=d) (ty:=ty) (pos:=pos) (af:=af) (g:=bd) r j z p (h.giveO i hi) t f m;exact aC o<|k w' a (h.given i hi q e c) e c
variable{fn:Func}{R:td->ay->Prop}
theorem gy{u a:Tmp}{T:bk}{v2:B}{b:Nat}(l:fn.results= #[.cell a T,.tmp u])(k:ev n env (.tmp a)=.pointer (U ⟨b,0,bd⟩))(f:ev n env (.tmp u)=v2)(g:SH I M K w J)(i:Nat)(hi:J i=.blk b vs)(j:yV P T zs)(hl:O vs=O zs)(h:R (.returned (.tuple #[.agg (ar vs),v2])) w):kt P fn R .ret (DB n env) w:=by
 refine⟨Z,_,?_,h⟩;have c:=congrFun (jB n env)<|.tmp u;have d:=congrFun (jB n env)<|.tmp a;rw[f]at c;rw[k]at d;simp only[ki]at c d;rw[da]at c d;have e:=FY (P:=P) g hi j hl Z;unfold results;rw[l];simp[c,d,asAddr,e]
variable{t u a:Tmp}
theorem KJ{T:bk}{v2 v3:B}{b:Nat}(o:fn.results= #[.cell a T,.tmp t,.tmp u])(m:ev n env (.tmp a)=.pointer (U ⟨b,0,bd⟩))(l:ev n env (.tmp t)=v2)(g:ev n env (.tmp u)=v3)(j:SH I M K w J)(i:Nat)(hi:J i=.blk b vs)(k:yV P T zs)(hl:O vs=O zs)(h:R (.returned (.tuple #[.agg (ar vs),v2,v3])) w):kt P fn R .ret (DB n env) w:=by
 refine⟨Z,_,?_,h⟩;have e:=congrFun (jB n env)<|.tmp t;have c:=congrFun (jB n env)<|.tmp u;have d:=congrFun (jB n env)<|.tmp a;rw[l]at e;rw[g]at c;rw[m]at d;simp only[ki]at e c d;rw[da]at e c d;have f:=FY (P:=P) j hi k hl Z;unfold results;rw[o];simp[e,c,d,asAddr,f]
theorem fin3{v1 v2 v3:B}(f:fn.results= #[.tmp t,.tmp u,.tmp a])(g:ev n env (.tmp t)=v1)(e:ev n env (.tmp u)=v2)(i:ev n env (.tmp a)=v3)(h:R (.returned (.tuple #[v1,v2,v3])) w):kt P fn R .ret (DB n env) w:=by
 refine⟨Z,_,?_,h⟩;have c:=congrFun (jB n env)<|.tmp t;have d:=congrFun (jB n env)<|.tmp u;have b:=congrFun (jB n env)<|.tmp a;rw[g]at c;rw[e]at d;rw[i]at b;simp only[ki]at c d b;rw[da]at c d b;unfold results;rw[f];simp[c,d,b]
theorem At.grow(h:At w b o cs)(d:Grow w w'):At w' b o cs:=by
 obtain⟨cells,E,e,c,a⟩:=h;exact⟨cells,E,e,d.blk c,a⟩
variable{Zs:BS}{ws:ay}
theorem FZ(a:bF Zs ws w)(h:Px P ops Zs w sc fuel listed n env w):Px P ops Zs ws sc fuel listed n env w:=⟨P4 (λ_ h=>a.same h) _ _ _ _ h.out⟩
theorem sj{ws w:ay}{v u:B}(d:ws.heap.size<=w.heap.size)(c:∀b,ob v b->ws.heap.size<=b)(hn:∀b,ob u b->b<w.heap.size->ob v b):∀b,ob u b->ws.heap.size<=b:=
 λb a=>AD λhl=>Nat.not_lt_of_le (c b (hn b a (ey hl d))) hl
def EffOk(P:cd)(ops:Array ec)(Q1:Nat->gd->Act->ay->Prop)(n:Nat)(env:Nat->B)(w:ay)(i:Nat):Prop:=
 ∃d op ty pos af g,ops[i]? =U ⟨d,op,ty,pos,af,g⟩/\cq ⟨d,op,ty,pos,af,g⟩ (fa ops (DB n env).tmps)=bh/\WL P ops (Q1 i) [⟨d,op,ty,pos,af,bd⟩] n env w
variable{Q1:Nat->gd->Act->ay->Prop}
theorem GF(i:Nat)(hi:ops[i]? =U ⟨d,op,ty,pos,af,g⟩)(a:cq ⟨d,op,ty,pos,af,g⟩ (fa ops (DB n env).tmps)=bh)(h:WL P ops (Q1 i) [⟨d,op,ty,pos,af,bd⟩] n env w):EffOk P ops Q1 n env w i:=⟨_,_,_,_,_,_,hi,a,h⟩
def EffAll(P:cd)(ops:Array ec)(Q1:Nat->gd->Act->ay->Prop)(n:Nat)(env:Nat->B)(w:ay):H Nat->Prop
 |[]=>True
 |i::r=>EffOk P ops Q1 n env w i/\EffAll P ops Q1 n env w r
theorem Ir:∀{l:H Nat},EffAll P ops Q1 n env w l->∀k∈l,EffOk P ops Q1 n env w k
  |i::r,⟨h1,h2⟩,k,hk=>by
    rcases bs.1 hk with rfl|hk
    · exact h1
    · exact Ir h2 k hk
theorem whk_effs(l:H Nat)(f:dy .any ops listed=l)(hl:l≠[])(h:EffAll P ops (λi=>WN P ops Zs ws sc fuel (listed.setIfInBounds i bh)) n env w l):Px P ops Zs ws sc (fuel+1) listed n env w:=by
 refine⟨Cy f hl λk c=>?_⟩;obtain⟨d,op,ty,pos,af,g,b,a,e⟩:=Ir h k c;exact Y6 b a e
end
end
open Go.RowKit Go.ChangeShapes
theorem opens_byte{P:cd}{T:bk}(c:P.underlying T=U (.int .u8)):Bd P T gQ:=by
 intro ZD enc w spare held fuel cs x h;obtain⟨n,rfl,_,a⟩:=AF c h;simp only[Lit.wf,Bool.and_eq_true,decide_eq_true_eq]at a;have b:0<=n:=a.1;have d:n<=255:=a.2;refine⟨pS n.toNat,?_⟩;show [dd .u8 n]=[.int .u8 ((pS n.toNat).toNat:Int)];have:(pS n.toNat).toNat=n.toNat:=by
  have e:n.toNat%256=n.toNat:=AS V;simpa[wi]using e
 rw[this,Int.toNat_of_nonneg b]
theorem returns_laid{ZD:Type}{enc:bk×B->ZD}{a:Assume}{C:Checked}{os:Os}{f:nd}{fn:Func}{s:ChangeSpec}{l:H PathCond}{c fresh k again:YU}{X:ay->Array B->Prop}
  (ab:∀(w w':ay) (args:Array B),w.heap=w'.heap->X w args->X w' args)
  (own:ownKnob C.prog.godebug=bd) (o:os.Started) (p:C.prog.inits.idxOf? f=bd) (al:C.prog.funcs[f]? =U fn)
  (n:∃(w:ay) (d:Tape) (i:Input),w.os=os/\(w.forCall d i).Shaped C.prog/\i.vars=[]/\Input.okWide C.prog (w.forCall d i) .any w.heap.size f i/\
   ((s.pre enc C.prog fn l c (w.forCall d i).memory i.args/\X (w.forCall d i).memory i.args)/\sizedMet enc C.prog fn (OpenSpec.ofChange s) c (w.forCall d i).memory i.args)/\a.holds C.prog (lone (Frame.enter C.prog f i.args .normal) [] (w.forCall d i)))
  (m:∀(b:ay) (u:Nat) (args:Array B) (y z:H (DataW ZD)) (g:H vl),
   (∀(j:Nat) t v,fn.params[j]? =U t->args[j]? =U v->Value.okWide C.prog b .any u t v)->
   DataW.Whole enc C.prog fn.params.toList s.vars c b args.toList y z g->
   l.all (PathCond.test C.prog ⟨fn.params.toList,y,s.plain.varTypes C.prog,z⟩)=bh->X b args->b.ShapedOpen C.prog->
   bp C.prog f args b λe w0=>∃v,e=.returned v/\s.post enc C.prog fn c fresh k again b args v w0):
  ReturnsInHanded a C os f .any (λw args=>(s.pre enc C.prog fn l c w args/\X w args)/\sizedMet enc C.prog fn (OpenSpec.ofChange s) c w args) (s.post enc C.prog fn c fresh k again):=by
 refine returnsInHanded_of_calls own o p n ?_;intro w d i _ aq _ F r _;obtain⟨_,_,_,E,x,_,_,_,_,q⟩:=F;have e:E=fn:=dp<|x.symm.trans al;subst e;obtain⟨⟨⟨y,z,g,N,K⟩,M⟩,_⟩:=r;have A:=DataW.Whole.of_heap (w':=w.forCall d i) (by rfl) N;refine(m (w.forCall d i) w.heap.size i.args y z g q A K (ab _ _ _ (by rfl) M) aq).mono λe w0⟨v,Zs,J⟩=>?_;subst Zs;exact ChangeSpec.post_blind J
def laidIn(w:ay)(g:Nat)(a:Array B):World:=
 {w with heap:=w.heap.modify g fun| .cells _ t fz=>.cells a t fz|o=>o}
def tabCells:DataW Unit->Array B
 | .agg l=>ar (l.map fun| .lit (.int k z)=>dd k z|_=>Value.nilIface)
 |_=> #[]
structure gz where
 B:List UInt8
 z:List UInt8
deriving DecidableEq
def rDisk:uO gz where
 sz:=2
 rd w A cs x:=∃Ji,∃Jj,cs=[Ji,Jj]/\bX gQ w A Ji x.B/\bX gQ w A Jj x.z
 len:=by rintro w A cs x ⟨Ji,Jj,rfl,h0,h1⟩;rfl
 one:=by rintro w A cs x ⟨Ji,Jj,rfl,h0,h1⟩ u hu;simp only[bs,dk,or_false]at hu;rcases hu with rfl|rfl<;>first|rfl|exact h0.one|exact h1.one
 pos:=by decide
 go:=by rintro w A cs x w2 A2 K ⟨Ji,Jj,rfl,h0,h1⟩ hk hK hA;exact⟨_,_,Z,h0.go hk hK hA,h1.go hk hK hA⟩
theorem rDisk_open{w:ay}{A:BS}{cs:H B}{x:gz}(h:rDisk.rd w A cs x):∃b,∃a,cs=[b,a]/\bX gQ w A b x.B/\bX gQ w A a x.z:=h
theorem puint_app(a:Nat)(c:UInt8):∀(l:vh),gS a (l++[c])=match gS a l with| .ok m=>gS m [c]|e=>e:=by
  intro l;induction l generalizing a with
  |nil=>simp[gS]
  |cons b r ih=>
    simp only[ei,gS];split
    · split
      · rfl
      · split
        · rfl
        · rw[ih];rfl
    · rfl
theorem Ve{k:Nat}(h:k<10):(pS (48+k)).toNat=48+k:=by
 have:(48+k)%256=48+k:=AS V;simpa[wi]using this
theorem puint_dec:∀(u:Nat),u<18446744073709551616->gS 0 (ka u)=.ok u:=by
  intro u;induction u using pD with
  |ind u ih=>
    intro b;rw[ka];split
    · rename_i h;simp only[gS];rw[Ve h,Z3 V,Z4 V,Z4 V];congr 1;omega
    · rename_i h;have a:u%10<10:=pA _ tS;rw[puint_app,ih (u / 10) V V];simp only[gS];rw[Ve a,Z3 V,Z4 V,Z4 V];congr 1;omega
theorem dec_head:∀(u:Nat),∃c r,ka u=c::r/\48<=c.toNat/\c.toNat<=57:=by
  intro u;induction u using pD with
  |ind u ih=>
    rw[ka];split
    · rename_i h;exact⟨_,[],Z,by rw[Ve h];omega,by rw[Ve h];omega⟩
    · rename_i h;obtain⟨c,r,b,a,d⟩:=ih (u / 10) V;exact⟨c,r++[pS (48+u%10)],by rw[b];rfl,a,d⟩
theorem Uf:∀(u:Nat),∀c∈ka u,48<=c.toNat/\c.toNat<=57:=by
  intro u;induction u using pD with
  |ind u ih=>
    rw[ka];split
    · rename_i h;intro c a;simp only[gA]at a;subst a;rw[Ve h];omega
    · rename_i h;have b:u%10<10:=pA _ tS;intro c a;rcases dq.1 a with a|a
      · exact ih (u / 10) V c a
      · simp only[gA]at a;subst a;rw[Ve b];omega
theorem itoa_chars(n:Int):∀c∈dw n,45<=c.toNat/\c.toNat<=57:=by
  intro c a;unfold dw at a;split at a
  · rcases bs.1 a with rfl|a
    · decide
    · have:=Uf _ c a;omega
  · have:=Uf _ c a;omega
section
variable{n:Int}{c:UInt8}
theorem SR(h:c.toNat<45):c∉dw n:=λa=>by have:=itoa_chars n c a;omega
theorem mag_dec{u:Nat}(h:u<18446744073709551616):Lib.parseMag (ka u)=.ok u:=by
 obtain⟨c,r,a,_,_⟩:=dec_head u;unfold Lib.parseMag;rw[Z4 (by rw[a];simp),puint_dec u h]
theorem atoi_itoa(h:j6 n):eC (dw n)=.ok n:=by
  obtain⟨b,a⟩:=h;unfold dw;split
  · rename_i hn;unfold eC;simp only;rw[Z3 (.inr tS),mag_dec V];simp only;rw[Z4 C7,Z4 V];simp;omega
  · rename_i hn;obtain⟨c,r,e,f,d⟩:=dec_head n.toNat;rw[e];unfold eC;simp only;rw[Z4 V,<-e,mag_dec V];simp only;rw[Z4 V,Z4 V,Z4 V];congr 1;omega
def numOf(w:vh):L Int:=match eC w with| .ok v=>if dw v=w then U v else bd|_=>bd
theorem numOf_itoa(h:j6 n):numOf (dw n)=U n:=by simp[numOf,atoi_itoa h]
variable{w:vh}
theorem numOf_some(h:numOf w=U n):w=dw n/\j6 n:=by
  unfold numOf at h;cases e:eC w with
  |ok v=>
    rw[e]at h;simp only at h;split at h
    · rename_i a;cases h;have:=Lib.atoiAll_bounds e;exact⟨a.symm,this⟩
    · cases h
  |_=>rw[e]at h;cases h
theorem itoa_len(h:j6 n):O (dw n)<=21:=Lib.itoa_length_le n h.1 h.2
def kG(c:UInt8):vh->H vh
 |[]=>[[]]
 |b::r=>if b=c then []::kG c r else match kG c r with|x::xs=>(b::x)::xs|[]=>[[b]]
theorem E8(c:UInt8):∀(s:vh),kG c s≠[]
  |[]=>by simp[kG]
  |b::r=>by
    unfold kG;split
    · simp
    · split<;>simp
theorem Jk:∀{x:vh},c∉x->kG c x=[x]
 |[],_=>rfl
 |b::r,h=>by
  have a:¬b=c:=λe=>h (by rw[e];exact fp);rw[kG,Z4 a,Jk (x:=r) (λe=>h (bo _ e))]
theorem Ci{r:vh}:∀{x:vh},c∉x->kG c (x++c::r)=x::kG c r
 |[],_=>by simp[kG]
 |b::x,h=>by
  have a:¬b=c:=λe=>h (by rw[e];exact fp);rw[ei,kG,Z4 a,Ci (x:=x) (λe=>h (bo _ e))]
theorem idx1(c:UInt8):∀(s:vh),(nf s [c]= -1/\c∉s)\/∃x r,s=x++c::r/\c∉x/\nf s [c]=O x
  |[]=>by left;exact⟨by simp[nf],by simp⟩
  |b::l=>by
    by_cases h:b=c
    · subst h;right;exact⟨[],l,Z,by simp,by simp[nf,tk]⟩
    · have a:¬c=b:=λe=>h e.symm;have J:tk [c] (b::l)=false:=by simp[tk,a]
      rcases idx1 c l with⟨h1,h2⟩|⟨x,r,h1,h2,h3⟩
      · left;refine⟨by rw[nf,J,h1];simp,?_⟩;simp[h2,a]
      · right;refine⟨b::x,r,by rw[h1];rfl,by simp[h2,a],?_⟩;have:¬(nf l [c]== -1)=true:=by rw[h3];simp
        rw[nf,J,Z4 C7,Z4 this,h3];simp
theorem splitK_C(c:UInt8):∀(k:Nat) (s:vh),ve s [c]=k->yi [c] 0 k s=kG c s:=by
  intro k;induction k with
  |zero=>
    intro s W;rcases idx1 c s with⟨h1,h2⟩|⟨x,r,h1,h2,h3⟩
    · rw[Jk h2];rfl
    · rw[Lib.count_hit C7 h3]at W;omega
  |succ k ih=>
    intro s W;rcases idx1 c s with⟨h1,h2⟩|⟨x,r,h1,h2,h3⟩
    · rw[Lib.count_miss h1]at W;omega
    · have a:¬(nf s [c]== -1)=true:=by rw[h3];simp
      rw[Lib.count_hit C7 h3]at W;have b:s.drop (O x+O [c])=r:=by rw[h1];simp
      rw[yi,Z4 a,h3];simp only[Int.toNat_natCast,Nat.add_zero];rw[b]at W⊢;rw[ih r V,h1,Ci h2,jz]
theorem split_C(c:UInt8)(s:vh):AN s [c]=kG c s:=splitK_C c _ s Z
def zn(c:UInt8)(l:H vh):vh:=tM l [c]
theorem E9(c:UInt8)(x:vh):zn c [x]=x:=Lib.join_one x [c]
theorem Cj(c:UInt8)(x y:vh)(l:H vh):zn c (x::y::l)=x++c::zn c (y::l):=by
 unfold zn;rw[Lib.join_cons,Lib.join_cons];simp[Lib.joinTail]
theorem Ck(c:UInt8):∀(s:vh),zn c (kG c s)=s
  |[]=>E9 c []
  |b::r=>by
    have a:=Ck c r;unfold kG;split
    · rename_i h;subst h;cases e:kG b r with
      |nil=>exact ZL e (E8 b r)
      |cons y l=>rw[Cj,<-e,a];rfl
    · split
      · rename_i x xs e;rw[e]at a;cases xs with
        |nil=>rw[E9]at a⊢;rw[a]
        |cons y l=>rw[Cj]at a⊢;rw[ei,a]
      · rename_i e;exact ZL e<|E8 c r
theorem HH(c:UInt8):∀(l:H vh),l≠[]->(∀x∈l,c∉x)->kG c (zn c l)=l
 |[],h,_=>ZL Z h
 |[x],_,h=>by rw[E9];exact Jk (h x C7)
 |x::y::l,_,h=>by
  rw[Cj,Ci (h x C7),HH c (y::l) C7 (λz a=>h z (bo _ a))]
theorem EM(c:UInt8):∀(s:vh),O (kG c s)<=O s+1
  |[]=>by simp[kG]
  |b::r=>by
    have a:=EM c r;unfold kG;split
    · simp;omega
    · split
      · rename_i x xs e;rw[e]at a;simp at a⊢;omega
      · simp
theorem Cm(c:UInt8):∀(s x:vh),x∈kG c s->O x<=O s/\c∉x
  |[],x,h=>by simp[kG]at h;subst h;simp
  |b::r,x,h=>by
    unfold kG at h;split at h
    · rcases bs.1 h with rfl|h
      · simp
      · have:=Cm c r x h;exact⟨by simp;omega,this.2⟩
    · rename_i d;split at h
      · rename_i y f e;rcases bs.1 h with rfl|h
        · have:=Cm c r y (by rw[e];exact fp);refine⟨by simp;exact this.1,?_⟩;intro a;rcases bs.1 a with a|a
          · exact d a.symm
          · exact this.2 a
        · have:=Cm c r x (by rw[e];exact bo _ h);exact⟨by simp;omega,this.2⟩
      · rename_i e;exact ZL e<|E8 c r
theorem Hj(c:UInt8)(m:Nat):∀(l:H vh),(∀x∈l,O x<=m)->O (zn c l)<=O l*(m+1)
 |[],_=>by simp[zn,Lib.join_nil]
 |[x],h=>by rw[E9];have:=h x C7;simp;omega
 |x::y::l,h=>by
  have d:=h x C7;have b:=Hj c m (y::l) λz a=>h z<|bo _ a;rw[Cj,bm,br,br,Nat.succ_mul];omega
def Ty(c:UInt8)(s:vh):L (H Int):=(kG c s).mapM numOf
variable{l:H Int}
theorem mapM_num_of(h:∀x∈l,j6 x):(l.map dw).mapM numOf=U l:=by
 induction l with
 |nil=>rfl
 |cons x l ih=>
  rw[cr,ra,numOf_itoa (h x C7),ih (λy a=>h y (bo _ a))];rfl
theorem IQ:∀{w:H vh} {l:H Int},w.mapM numOf=U l->w=l.map dw/\∀x∈l,j6 x
  |[],l,h=>by cases h;exact⟨Z,by simp⟩
  |x::w,l,h=>by
    rw[ra]at h;cases e:numOf x with
    |none=>rw[e]at h;cases h
    |some v=>
      rw[e]at h;cases e2:w.mapM numOf with
      |none=>rw[e2]at h;cases h
      |some m=>
        rw[e2]at h;cases h;obtain⟨c,b⟩:=IQ e2;obtain⟨f,d⟩:=numOf_some e;refine⟨by rw[cr,<-c,<-f],?_⟩;intro y a;rcases bs.1 a with rfl|a
        · exact d
        · exact b y a
theorem nums_join(b:c.toNat<45)(hl:l≠[])(h:∀x∈l,j6 x):Ty c (zn c (l.map dw))=U l:=by
 unfold Ty;rw[HH c _ (by simpa using hl) (by intro x a;obtain⟨y,_,rfl⟩:=fi.1 a;exact SR b)];exact mapM_num_of h
variable{s:vh}
theorem join_nums(h:Ty c s=U l):s=zn c (l.map dw)/\(∀x∈l,j6 x)/\l≠[]:=by
 obtain⟨a,b⟩:=IQ h;refine⟨by rw[<-a,Ck],b,?_⟩;rintro rfl;exact E8 c s a
theorem Zc(h:j6 n):Og n=U (dw n):=by unfold Og;rw[gH h]
theorem atoiS_eq(h:O w<=281474976710656):Oh w=U (match eC w with| .ok v=>(v,aw)| .range=>(we w,bh)|_=>(0,bh)):=by unfold Oh;rw[gH h];all_goals (cases eC w<;>rfl)
theorem parseS_eq(h:O w<=281474976710656):Lk w=U (match eC w with| .ok v=>(v,aw)| .range=>(ye 64 w,bh)|_=>(0,bh)):=by unfold Lk;rw[gH h,Lib.parseIntB_64];all_goals (cases eC w<;>rfl)
theorem To(c:UInt8)(h:O s<4294967281):Tx s [c]=U (kG c s):=by unfold Tx;rw[gH ⟨h,cl _⟩,split_C]
end
theorem joinS_eq{l:H vh}(c:UInt8)(h:O l<=140737488355328)(a:O (zn c l)<=140737488355328):HJ l [c]=U (zn c l):=by unfold HJ;rw[gH ⟨h,a⟩];rfl
end Go.LX