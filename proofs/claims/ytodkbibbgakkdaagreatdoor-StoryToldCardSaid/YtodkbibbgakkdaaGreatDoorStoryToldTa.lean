/-
  What the law StoryTold needs of our own library and of the walks, no more.
-/
import Derived.WalkKit
import Derived.Laws.StructEq
import Derived.ChangeKeysEq
import Derived.StillTail
import Derived.LoopN
import Derived.Deep.Quiet
import Derived.OrdersHeld
import Derived.Deep.RegionHeld3
import Derived.Deep.Slices
import Derived.MapKept
import Derived.Lib.Bytealg
import Derived.ChangeArms
import Derived.Lib.AppendZeros
import Derived.Lib.Overlaps
import Derived.Laws.CopyRow
import Derived.Shelf.SlSortCmp.SmallK
import Derived.Laws.Pointers
import Derived.Laws.OwnMore
import Derived.Laws.Concat
import Derived.Laws.Strings2
import Derived.Laws.Strings3
import Derived.Laws.IdiomStrings
import Derived.Lib.AppendStr
import Derived.Lib.ConvBytes
import Derived.Lib.LaidTab
import Derived.Lib.ItoaNum
import Derived.WideLaws
import Derived.Lib.SplitLaws
import Derived.Lib.JoinLaws
import Derived.Lib.AtoiAll
import Derived.Lib.ParseIntB
import Derived.Laws.NewFold
import Derived.Lib.Join
import Derived.Lib.Strings
import Derived.Sort.Grow
import Derived.Lib.Space
import Derived.Handed
import Derived.LaidMore
import Derived.LaidHandle
import Derived.Stop.LaidErr
import Derived.Shelf.Vars
import Derived.WideShapes
import Derived.Lib.ParseIntBTie
import Derived.Lib.ItoaLen
import Derived.Lib.AtoiAllCases
open Array renaming ext'->lb,ext_getElem?->pC,foldl_toList->pH,getD_eq_getD_getElem?->cY,getElem?_eq_getElem->nG,getElem?_eq_none->kV,getElem?_modify->gd,getElem?_setIfInBounds->nd,getElem?_toList->ij,length_toList->ct,range->lO,replicate->nb,toList_push->qg,toList_setIfInBounds->jx,toList_zipIdx->pw
open Bool renaming eq_false_iff->ie,eq_iff_iff->ez,false_eq_true->cM,true_and->mL,false->aq,true->ba
open ByteArray renaming ext->qh,mk->nB,size->kW
open Decidable renaming decide->ab
open Go renaming Addr->kq,Calls->bC,Edge->hF,Ending->me,Exit->fi,Func->sd,FuncId->fW,MapEntry->sb,MemPlace->pe,NoPanic->pb,Oper->ei,Operand->bo,Program->ca,TypeId->aT,Value->al,World->ao,asIntOf->hZ,binOp->kp,bodyPost->jj,builtin->iS,eqGuard->gk,execOp->bl,getObj->km,grownCap->gS,grownCap_le_maxLen->s9,invoke->js,loadVar->qu,maxLen->ks,newRow->qv,resolve->gZ,run_convert_bytes_back->qT,run_equal_held_nil->tb,run_loadCells_list->sY,run_part_plain->fN,run_program->fI,run_storeCells_at->nt,run_underlying->pf,sizeOf->fu,size_zeroCells->kt,typeInfo->dy,undef->fR,underlying->cA,wpAnyH->qB,wpAnyH_all->nf,wpList->nc,wpList_plain->qs,wpQuiet->pa,wp_region_still_tail->se,yielded->ep,zeroValue->ju
open Go.Act renaming eval->hQ
open Go.Addr renaming add->gT
open Go.Builtin renaming append_->gC,copy_->rn,firstCells->mj,lenOf->nv,len_->sa,nextslicecap->iu,zeroCells->cy
open Go.Code renaming cond->oS,loop->rl,region->fX,rounds->px
open Go.Exit renaming inBlock->hY
open Go.Instr renaming fill->jz,findKey->iz,findNow->sL,indexAt->sB,keyThatStays->jA,loadAt->oT,lookup->s8,mapUpdate->lf,sameBits->sg,sameNow->sQ,slice->jh,sliceAt->iv,sliceBound->eC,sliceBounds->dd,storeAt->sC,sureAddr->hS
open Go.Lib renaming TabIs->oa,atoiAll->ey,atoiSat->pL,bytesWorld->tc,countB->gf,cut->mN,decDigits->hd,index->ka,itoa->dr,join->oe,parseUint10->fl,split->sl,splitB->qU,strCells->ph
open Go.Op renaming equalIn->oA,intCmp->mw
open Go.Oper renaming quietUpon->sE,wp->qt
open Go.Region renaming free->eS,lexTailB->qA,noSelect->ec,ready->cR,wanted->cm
open Go.Result renaming andThen_ok->bp,ok->qe
open Go.Sem renaming run->kf,run_bind->cv,run_ite->pK,run_pure->da
open Go.Value renaming cells->pc,int->dp,oneCell'->fc,ownBlock->ns,string->lj
open Go.World renaming alloc->kd,alloc_eq->hU,cell?->eW,cells?_some->qf,frozen?->od,shape?->ta
open Int renaming eq_ofNat_of_zero_le->bs,natCast_mul->sR,natCast_nonneg->hO
open List renaming append_assoc->cf,cons_append->ew,drop->ml,drop_append->ix,drop_append_of_le_length->fS,drop_drop->lP,drop_eq_getElem_cons->cX,drop_eq_nil_of_le->cC,drop_left'->sh,drop_set->s7,drop_take->en,drop_zero->ke,eq_nil_of_length_eq_zero->cl,ext_getElem?->di,flatten_cons->kj,getElem?_append->gx,getElem?_drop->cw,getElem?_eq_getElem->bh,getElem?_eq_none->bw,getElem?_map->ej,getElem?_set->fg,getElem?_take->cg,getElem_append_left->eR,getElem_append_right->fj,getElem_drop->mS,getElem_set_ne->mz,getElem_set_self->lR,getElem_take->kl,isPrefixOf->np,length->fb,length_append->bc,length_cons->bq,length_drop->cL,length_map->cG,length_replicate->jq,length_set->cp,length_take->cd,mapM_cons->mu,map_cons->ck,map_nil->et,map_toArray->fL,mem_append->cV,mem_cons->bn,mem_cons_of_mem->bk,mem_cons_self->fa,mem_map->ea,mem_singleton->eV,nil_append->cF,not_mem_nil->df,replicate->cc,take->hX,take_append_of_le_length->cH,take_left->jU,take_of_length_le->ia,take_set->mx,take_take->ee,zipIdx_cons->rm
open Nat renaming add_assoc->jt,add_mul->cj,beq->fv,ble->la,blt->mX,blt_eq->lx,div_lt_of_lt_mul->pD,eq_of_beq_eq_true->gj,le_max_left->sS,le_max_right->sk,le_mul_of_pos_right->ld,le_of_ble_eq_true->gw,le_of_eq->ly,le_of_not_lt->sc,le_refl->bt,le_trans->dw,lt_of_lt_of_le->cq,lt_or_ge->cD,lt_succ_self->sf,min->iL,min_eq_left->cS,mod_lt->mE,mul_comm->mY,mul_le_mul_right->bd,mul_one->mm,not_lt_zero->eN,one_mul->nh,strongRecOn->lA,sub_mul->nj,zero_add->fY,zero_le->fx,zero_mul->pd
open Option renaming bind_some->cJ,getD_some->eM,map_some->db,none->aw,some->aj
open Option.some renaming inj->cQ,injEq->eJ
open Prod.mk renaming injEq->ic
namespace Go
theorem Z.{u} {α : Sort u} {a : α} : a = a := rfl
theorem U : True := trivial
theorem V {p : Prop} (h : p := by omega) : p := h
theorem zq1 {p : Prop} (h : p := by decide) : p := h
theorem zq2 {p : Prop} (h : p := by kernel_rfl) : p := h
theorem zq3 {p : Prop} (h : p := by simp) : p := h
end Go
set_option linter.unusedSimpArgs false
set_option linter.unusedVariables false
set_option maxRecDepth 10000
namespace Go.LX
open Go.RowKit
def act(n:Nat)(env:Nat->al):Act:={tmps:=Array.ofFn (n:=n) fun i=>env i.val,defers:=[]}
def upd(env:Nat->al)(d:Nat)(v:al):Nat->Value:=fun i=>bif fv i d then v else env i
def ev(n:Nat)(env:Nat->al):bo->al
 | .tmp t=>bif mX t n then env t else fR
 | .const v=>v
 | .global g=>.pointer (aj ⟨g,0,aw⟩)
 | .func f=>.func (.func f) #[] #[]
def gq(env:Nat->al):Option Nat->al->(Nat->al)
 |some d,v=>upd env d v
 |none,_=>env
theorem gP(n:Nat)(env:Nat->al):(act n env).eval=ev n env:=by
  funext x;cases x with
  |tmp t=>
    by_cases h:t<n
    · have a:mX t n=true:=by rw[lx];exact h
      simp[hQ,act,ev,h,a]
    · have a:mX t n=false:=by rw[ie,ne_eq,lx];exact h
      simp[hQ,act,ev,h,a]
  |_=>rfl
theorem EW(n:Nat)(env:Nat->al)(d:Option Nat)(v:al):(act n env).put d v=act n (gq env d v):=by
  cases d with
  |none=>rfl
  |some d=>
    simp only[Act.put,act,gq,Act.mk.injEq,and_true];apply Array.ext
    · simp
    · intro i b f;simp at b;have c:i<(Array.ofFn (n:=n) fun i=>env i.val).size:=by simp;exact b
      rw[Array.getElem_setIfInBounds c];by_cases a:d=i
      · subst a;simp[upd,Nat.beq_refl]
      · have e:fv i d=false:=by rw[ie];intro h;exact a (gj h).symm
        simp[a,upd,e]
def Ut(args:List al):Nat->Value:=fun i=>args.getD i fR
theorem act_init(n:Nat)(args:List al)(h:args.length<=n):({tmps:=args.toArray++nb (n-args.toArray.size) fR,defers:=[]}:Act)=act n (Ut args):=by
  simp only[act,Act.mk.injEq,and_true];apply Array.ext
  · simp;omega
  · intro i c b;simp[Array.getElem_append,Ut,List.getD];by_cases a:i<args.length
    · simp[a]
    · simp[a]
structure WL(P:ca)(ops:Array ei)(Q:fi->Act->ao->Prop)(l:List ei)(n:Nat)(env:Nat->al)(w:ao):Prop where
 out:nc P ops Q l (act n env) w
structure WC(P:ca)(c:Code)(Q:fi->Act->ao->Prop)(n:Nat)(env:Nat->al)(w:ao):Prop where
 out:c.wp P Q (act n env) w
section
variable{P:ca}{ops:Array ei}{Q:fi->Act->ao->Prop}{n:Nat}{env:Nat->al}{w w':ao}{rest:List ei}
 {d:Option Nat} {op:Op} {ty:aT} {pos:String} {af:Array hF} {v:al} {g:Option (Nat×Bool)}
theorem J(a:(bl (ev n env) ⟨d,op,ty,pos,af,aw⟩).run P w=.ok (.value v) w')(h:WL P ops Q rest n (gq env d v) w'):
  WL P ops Q (⟨d,op,ty,pos,af,aw⟩::rest) n env w:=by
 refine⟨qs Z fun K b=>?_⟩;unfold qt;rw[gP,a];show K _ _;rw[EW];exact b _ _ h.out
theorem A9(a:(bl (ev n env) ⟨d,op,ty,pos,af,aw⟩).run P w=.ok .skip w')(h:WL P ops Q rest n (gq env d fR) w'):
  WL P ops Q (⟨d,op,ty,pos,af,aw⟩::rest) n env w:=by
 refine⟨qs Z fun K b=>?_⟩;unfold qt;rw[gP,a];show K _ _;rw[EW];exact b _ _ h.out
theorem wl_enter{f:fW}{args:Array al}{R:me->ao->Prop}(b:(bl (ev n env) ⟨d,op,ty,pos,af,aw⟩).run P w=.ok (.enter f args) w)(a:bC P f args w R)
  (h:∀e w',R e w'->∃v,e=.returned v/\WL P ops Q rest n (gq env d v) w'):
  WL P ops Q (⟨d,op,ty,pos,af,aw⟩::rest) n env w:=by
 refine⟨qs Z fun K g=>?_⟩;unfold qt;rw[gP,b];show bC P f args w _;refine a.mono fun e w' c=>?_;obtain⟨v,rfl,i⟩:=h e w' c;show K _ _;rw[EW];exact g _ _ i.out
theorem Ei{j dj:Nat}{b:Bool}(c:(ops[j]?).bind (·.dst)=aj dj)(d:ev n env (.tmp dj)=.bool b):ep ops (act n env).tmps j=aj b:=by
  unfold ep;have a:(act n env).eval (.tmp dj)=.bool b:=by rw[gP];exact d
  simp only[c,cJ];simp only[hQ]at a;cases h2:(act n env).tmps[dj]? with
  |none=>simp[cY,h2,fR]at a
  |some x=>simp[cY,h2]at a;subst a;rfl
theorem WN{j dj:Nat}{b:Bool}(c:(ops[j]?).bind (·.dst)=aj dj)(g:ev n env (.tmp dj)=.bool b)
    (h:WL P ops Q (⟨d,op,ty,pos,af,aw⟩::rest) n env w):WL P ops Q (⟨d,op,ty,pos,af,aj (j,b)⟩::rest) n env w:=by
  have e:=Ei (ops:=ops) c g;have f:cm ⟨d,op,ty,pos,af,aj (j,b)⟩ (ep ops (act n env).tmps)=true:=by simp[cm,e]
  have a:cm ⟨d,op,ty,pos,af,aw⟩ (ep ops (act n env).tmps)=true:=rfl;obtain⟨h⟩:=h;refine⟨?_⟩;unfold nc at h⊢;rw[if_pos a]at h;rw[if_pos f];exact h
theorem jM{j dj:Nat}{b b':Bool}(a:(ops[j]?).bind (·.dst)=aj dj)(g:ev n env (.tmp dj)=.bool b')(f:(b'==b)=aq)
    (h:WL P ops Q rest n (gq env d fR) w):WL P ops Q (⟨d,op,ty,pos,af,aj (j,b)⟩::rest) n env w:=by
  have c:=Ei (ops:=ops) a g;have e:cm ⟨d,op,ty,pos,af,aj (j,b)⟩ (ep ops (act n env).tmps)=false:=by simpa[cm,c]using f
  refine⟨?_⟩;unfold nc;rw[if_neg (by rw[e];decide),EW];exact h.out
theorem ah(h:Q .normal (act n env) w):WL P ops Q [] n env w:=⟨h⟩
end
section
variable{P:ca}{Q:fi->Act->ao->Prop}{n:Nat}{env:Nat->al}{w:ao}{x y:Code}
theorem ay{id:Nat}{l:List ei}(h:WL P l.toArray Q l n env w):WC P (fX id l.toArray aq) Q n env w:=⟨wp_region_lit h.out⟩
theorem aC(h:WC P x (Exit.then (y.wp P Q) Q) n env w):WC P (Code.seq x y) Q n env w:=⟨wp_seq h.out⟩
theorem aH{id:Nat}(h:WC P x (hY id Q) n env w):WC P (Code.block id x) Q n env w:=⟨wp_block h.out⟩
theorem ax(h:Q .normal (act n env) w):WC P .skip Q n env w:=⟨wp_skip h⟩
theorem Bq(h:Q .ret (act n env) w):WC P .ret Q n env w:=⟨wp_ret h⟩
theorem ji{id:Nat}(h:Q (.exit id) (act n env) w):WC P (.exit id) Q n env w:=⟨wp_exit h⟩
theorem eP{c:bo}{t:Bool}(b:ev n env c=.bool t)(d:t=ba->WC P x Q n env w)(a:t=aq->WC P y Q n env w):
 WC P (oS c x y) Q n env w:=⟨wp_cond_split (by rw[gP];exact b) (fun h=>(d h).out) (fun h=>(a h).out)⟩
theorem wc_ift{c:bo}(a:ev n env c=.bool ba)(b:WC P x Q n env w):WC P (oS c x y) Q n env w:=⟨wp_cond_true (by rw[gP];exact a) b.out⟩
theorem wc_iff{c:bo}(a:ev n env c=.bool aq)(b:WC P y Q n env w):WC P (oS c x y) Q n env w:=⟨wp_cond_false (by rw[gP];exact a) b.out⟩
theorem ae{Q':fi->Act->ao->Prop}(h:WC P y Q n env w):Exit.then (y.wp P Q) Q' .normal (act n env) w:=h.out
def hav(mod:Nat->Bool)(b a:Nat->al):Nat->Value:=fun i=>bif mod i then b i else a i
def upds(e:Nat->al):List (Nat×al)->Nat->al
 |[]=>e
 |(i,v)::r=>upd (upds e r) i v
def Holds(e:Nat->al):List (Nat×al)->Prop
 |[]=>True
 |(i,v)::r=>e i=v/\Holds e r
def Jj(mod:Nat->Bool)(e a:Nat->al):Prop:=∀i,mod i=aq->e i=a i
theorem Jj.refl(mod:Nat->Bool)(e:Nat->al):Jj mod e e:=fun _ _=>rfl
theorem Jj.hav(mod:Nat->Bool)(j e:Nat->al):Jj mod (hav mod j e) e:=fun i h=>by simp[LX.hav,h]
theorem Jj.upd{mod:Nat->Bool}{e a:Nat->al}{d:Nat}{v:al}(c:mod d=ba)(h:Jj mod e a):Jj mod (upd e d v) a:=fun i b=>by
 have:i≠d:=fun e=>by rw[e,c]at b;exact Bool.noConfusion b
 have f:fv i d=false:=by rw[ie];intro h;exact this (gj h)
 simp[LX.upd,f,h i b]
theorem upd_self(e:Nat->al){i:Nat}{v:al}(h:e i=v):upd e i v=e:=by
  funext k;by_cases a:fv k i=ba
  · have:=gj a;subst this;simp[upd,h]
  · simp[upd,a]
theorem hav_self{mod:Nat->Bool}{e a:Nat->al}(h:Jj mod e a):hav mod e a=e:=by
 funext i;cases hm:mod i with
 |true=>simp[hav,hm]
 |false=>simp[hav,hm,h i hm]
theorem Uu{e:Nat->al}:∀(l:List (Nat×al)),Holds e l->upds e l=e
 |[],_=>rfl
 |(i,v)::r,h=>by
  show upd (upds e r) i v=e;rw[Uu r h.2];exact upd_self e h.1
theorem wc_loop{σ:Type}{c:Code}(mod:Nat->Bool)(live:σ->List (Nat×al))(J:σ->ao->Prop)(v:σ->Nat)(A:σ)
  (R:Holds env (live A)) (M:J A w)
  (j:∀s G S,J s G->WC P c (Exit.then (fun a' w'=>∃p r,a'=act n r/\Jj mod r env/\Holds r (live p)/\J p w'/\v p<v s) Q) n (upds (hav mod S env) (live s)) G):
  WC P (rl c) Q n env w:=by
 refine⟨?_⟩;intro b k cs;have y:∀m s e w,v s=m->Jj mod e env->Holds e (live s)->J s w->
   ∃o a' w',Q o a' w'/\Arrives P (lone (b.at (act n e) (.code c:: .inLoop c::k)) cs w) b k cs o a' w':=by
  intro m;induction m using lA with
  |_ m ih=>
   intro s e w O L N K;have I:=(j s w e K).out;have B:upds (hav mod e env) (live s)=e:=by rw[hav_self L];exact Uu _ N
   rw[B]at I;obtain⟨o,f,d,h,a⟩:=I b (.inLoop c::k) cs;cases o with
   |normal=>
    obtain⟨p,r,rfl,E,C,F,z⟩:=h;obtain⟨t,q,u,i,g⟩:=ih (v p) (O▸z) p r d Z E C F;exact⟨t,q,u,i,.of_steps (Steps.trans a<|.one step_inLoop) g⟩
   |exit id=>exact⟨_,f,d,h,.pass (x:=.inLoop c) Z (fun _ _=>.inl zq3) a⟩
   |goto l=>exact⟨_,f,d,h,.pass (x:=.inLoop c) Z (fun _ _=>.inl zq3) a⟩
   |ret=>exact⟨_,f,d,h,.pass (x:=.inLoop c) Z (fun _ _=>.inl zq3) a⟩
   |panic ch=>exact⟨_,f,d,h,.pass (x:=.inLoop c) Z (fun _ _=>.inl zq3) a⟩
   |outgrown=>exact⟨_,f,d,h,.pass (x:=.inLoop c) Z (fun _ _=>.inl zq3) a⟩
 obtain⟨o,a',w',h,a⟩:=y _ A env w Z (Jj.refl _ _) R M;exact⟨o,a',w',h,.of_steps (.one step_loop) a⟩
end
open Go.RowKit
structure One(P:ca)(T:aT)(z:al):Prop where
 desc:∃d,P.underlying T=aj d/\(match d with| .struct _| .array _ _=>False|_=>True)
 info:(P.info? T).map (fun i=>(i.zero,i.size))=aj (aj z,1)
 cell:z.cells= #[z]
structure wU(P:ca)(T:aT)(zs:List al):Prop where
 desc:∃d,P.underlying T=aj d/\(match d with| .struct _| .array _ _=>True|_=>False)
 info:(P.info? T).map (fun i=>(i.zero,i.size))=aj (aj (.agg zs.toArray),zs.length)
structure SliceOf(P:ca)(T E:aT)(sz:Nat):Prop where
  desc:P.underlying T=aj (.slice E)
  info:(P.info? E).map (·.size)=aj sz
structure dQ(P:ca)(T:aT)(k off:Nat):Prop where
  desc:∃fs f s,P.underlying T=aj (.struct fs)/\fs[k]? =aj f/\f.offset=off/\(P.info? f.type).map (·.size)=aj (s+1)
section
variable{P:ca}{w:ao}{ρ:bo->al}{d:Option Nat}{ty:aT}{pos:String}{af:Array hF}{g:Option (Nat×Bool)}
theorem bK{x:bo}{v:al}(a:ρ x=v):(bl ρ ⟨d,.move x,ty,pos,af,g⟩).run P w=.ok (.value v) w:=by subst a;rfl
theorem eU{x:bo}{v:al}(a:ρ x=v):(bl ρ ⟨d,.assign x,ty,pos,af,g⟩).run P w=.ok (.value v) w:=by subst a;rfl
theorem mJ{c x y:bo}{b:Bool}{v:al}(e:ρ c=.bool b)(a:(if b then ρ x else ρ y)=v):(bl ρ ⟨d,.pick c x y,ty,pos,af,g⟩).run P w=.ok (.value v) w:=by
 subst a;simp[bl,e,asBool]
theorem r_not{x:bo}{T:aT}{b:Bool}(a:ρ x=.bool b):(bl ρ ⟨d,.unOp .not T x,ty,pos,af,g⟩).run P w=.ok (.value (.bool !b)) w:=by
 simp[bl,a,Op.unary]
theorem wrap_in{x:Int}(a: -9223372036854775808<=x)(b:x<=9223372036854775807):IntKind.i64.wrap x=x:=IntWalk.i64_in x ⟨a,b⟩
theorem vB{x y:bo}{T T2:aT}{p q:Int}(a:ρ x=.int .i64 p)(b:ρ y=.int .i64 q):(bl ρ ⟨d,.binOp .lss T x y T2,ty,pos,af,g⟩).run P w=.ok (.value (.bool (ab (p<q)))) w:=by
 simp[bl,a,b,gk,kp,mw]
theorem Sd{x y:bo}{T T2:aT}{p q:Int}(a:ρ x=.int .i64 p)(b:ρ y=.int .i64 q):(bl ρ ⟨d,.binOp .leq T x y T2,ty,pos,af,g⟩).run P w=.ok (.value (.bool (ab (p<=q)))) w:=by
 simp[bl,a,b,gk,kp,mw]
theorem iC{x y:bo}{T T2:aT}{p q:Int}(a:ρ x=.int .i64 p)(b:ρ y=.int .i64 q):(bl ρ ⟨d,.binOp .gtr T x y T2,ty,pos,af,g⟩).run P w=.ok (.value (.bool (ab (q<p)))) w:=by
 simp[bl,a,b,gk,kp,mw]
theorem lU{x y:bo}{T T2:aT}{p q:Int}(a:ρ x=.int .i64 p)(b:ρ y=.int .i64 q):(bl ρ ⟨d,.binOp .geq T x y T2,ty,pos,af,g⟩).run P w=.ok (.value (.bool (ab (q<=p)))) w:=by
 simp[bl,a,b,gk,kp,mw]
theorem oF{x y:bo}{T T2:aT}{p q:Int}{k:IntKind}(b:ρ x=.int k p)(a:ρ y=.int k q):(bl ρ ⟨d,.binOp .eql T x y T2,ty,pos,af,g⟩).run P w=.ok (.value (.bool (ab (p=q)))) w:=by
 simp[bl,b,a,gk,kp,mw];rfl
theorem Aj{x y:bo}{T T2:aT}{p q:Int}{k:IntKind}(b:ρ x=.int k p)(a:ρ y=.int k q):(bl ρ ⟨d,.binOp .neq T x y T2,ty,pos,af,g⟩).run P w=.ok (.value (.bool (ab (p≠q)))) w:=by
 simp[bl,b,a,gk,kp,mw];rfl
theorem Kv{x y:bo}{T T2:aT}{p q:Int}(b:ρ x=.int .i64 p)(a:ρ y=.int .i64 q)(h: -9223372036854775808<=p+q/\p+q<=9223372036854775807):
  (bl ρ ⟨d,.binOp .add T x y T2,ty,pos,af,g⟩).run P w=.ok (.value (.int .i64 (p+q))) w:=by
 simp[bl,b,a,gk,kp,Op.intArith,wrap_in h.1 h.2]
theorem mQ{x y:bo}{T T2:aT}{p q:Int}(b:ρ x=.int .i64 p)(a:ρ y=.int .i64 q)(h: -9223372036854775808<=p-q/\p-q<=9223372036854775807):
  (bl ρ ⟨d,.binOp .sub T x y T2,ty,pos,af,g⟩).run P w=.ok (.value (.int .i64 (p-q))) w:=by
 simp[bl,b,a,gk,kp,Op.intArith,wrap_in h.1 h.2]
theorem pW{x:bo}{T E:aT}{e:Nat}{a:Option kq}{l c:Nat}(b:SliceOf P T E e)(f:ρ x=.slice a l c):
  (bl ρ ⟨d,.call {callee:=.builtin .len,args:= #[x],argTypes:= #[T]},ty,pos,af,g⟩).run P w=.ok (.value (.int .i64 l)) w:=by
 simp[bl,gZ,js,iS,sa,f,cA,b.desc,goInt]
theorem r_load1{x:bo}{T:aT}{z v:al}{b o:Nat}{cs:Array al}{E:aT}{c:Nat×Nat}(a:One P T z)(l:ρ x=.pointer (aj ⟨b,o,aw⟩))(e:w.heap[b]? =aj (.cells cs E c))(h:cs[o]? =aj v):
  (bl ρ ⟨d,.load T x,ty,pos,af,g⟩).run P w=.ok (.value v) w:=by
 obtain⟨f,k,i⟩:=a.desc;have j:w.cell? ⟨b,o,aw⟩=aj v:=by simp[eW,e,h]
 cases f<;>simp_all[bl,oT,hS,qu,isAgg,cA]
end
open Go.RowKit
abbrev BS:=Nat->Prop
abbrev BE:BS:=fun _=>False
structure bL(K:BS)(w w':ao):Prop where
 os:w'.os=w.os
 tape:w'.tape=w.tape
 output:w'.output=w.output
 size:w.heap.size<=w'.heap.size
 block:∀b,¬K b->b<w.heap.size->w'.heap[b]? =w.heap[b]?
abbrev Grow(w w':ao):Prop:=bL BE w w'
theorem bL.refl(K:BS)(w:ao):bL K w w:=⟨rfl,rfl,rfl,bt _,fun _ _ _=>rfl⟩
theorem bL.step{K N:BS}{a b c:ao}(h:bL K a b)(k:bL N b c)(hN:∀x,N x->x<a.heap.size->K x):bL K a c:=
 ⟨k.os.trans h.os,k.tape.trans h.tape,k.output.trans h.output,dw h.size k.size,fun i e d=>(k.block i (fun hn=>e (hN i hn d)) (cq d h.size)).trans (h.block i e d)⟩
theorem bL.grow{K:BS}{a b c:ao}(h:bL K a b)(k:Grow b c):bL K a c:=h.step k (fun _ h=>h.elim)
theorem bL.weaken{K N:BS}{a b:ao}(h:bL K a b)(e:∀x,K x->x<a.heap.size->N x):bL N a b:=⟨h.os,h.tape,h.output,h.size,fun i d c=>h.block i (fun hn=>d (e i hn c)) c⟩
theorem Grow.keep{K:BS}{a b:ao}(h:Grow a b):bL K a b:=h.weaken (fun _ h=>h.elim)
theorem iN{w:ao}{b:Nat}{o:Obj}(a:w.heap[b]? =aj o):b<w.heap.size:=by
  rcases cD b w.heap.size with h1|h1
  · exact h1
  · rw[kV h1]at a;cases a
theorem bL.blk{K:BS}{w w':ao}(h:bL K w w'){b:Nat}{o:Obj}(a:w.heap[b]? =aj o)(c:¬K b):w'.heap[b]? =aj o:=by
 rw[h.block b c (iN a),a]
theorem Grow.blk{w w':ao}(h:Grow w w'){b:Nat}{o:Obj}(a:w.heap[b]? =aj o):w'.heap[b]? =aj o:=bL.blk h a (fun h=>h)
theorem Grow.below{w w':ao}(h:Grow w w'):Below w.heap.size w w':=⟨h.os,h.tape,h.output,h.size,fun k a=>h.block k (fun h=>h) a⟩
theorem Grow.of_below{w w':ao}(h:Below w.heap.size w w'):Grow w w':=⟨h.os,h.tape,h.output,h.size,fun k _ a=>h.block k a⟩
theorem Grow.alloc(w:ao)(o:Obj):Grow w (w.alloc o):=Grow.of_below ((Below.refl _ _).alloc (bt _) o)
theorem Pf(w:ao)(o:Obj):(w.alloc o).heap[w.heap.size]? =aj o:=by show(w.heap.push o)[w.heap.size]? =aj o;simp
theorem alloc_size(w:ao)(o:Obj):(w.alloc o).heap.size=w.heap.size+1:=by show(w.heap.push o).size=_;simp
theorem Grow.drew(w:ao):Grow w w.drew:=⟨rfl,rfl,rfl,bt _,fun _ _ _=>rfl⟩
theorem Grow.trans{a b c:ao}(h:Grow a b)(k:Grow b c):Grow a c:=h.grow k
structure lq(α:Type)where
 sz:Nat
 rd:ao->BS->List al->α->Prop
 len:∀{w A cs x},rd w A cs x->cs.length=sz
 one:∀{w A cs x},rd w A cs x->∀u∈cs,u.oneCell'=ba
 pos:0<sz
 go:∀{w A cs x w' A' K},rd w A cs x->bL K w w'->(∀b,K b->b<w.heap.size->A b)->(∀b,A' b->b<w.heap.size->A b)->rd w' A' cs x
def ed{α:Type}(R:lq α)(w:ao)(B A:BS)(v:al)(l:List α):Prop:=
 ∃a cap,v=.slice a l.length cap/\l.length<=cap/\cap<=ks/\(a=aw->cap=0)/\
  ∀i (h:i<l.length),∃b o cells E c,a=aj ⟨b,o,aw⟩/\¬B b/\w.heap[b]? =aj (.cells cells E c)/\R.rd w A ((cells.toList.drop (o+i*R.sz)).take R.sz) l[i]
abbrev dm{α:Type}(R:lq α)(w:ao)(A:BS)(v:al)(l:List α):Prop:=ed R w A A v l
theorem ed.go{α:Type}{R:lq α}{w w':ao}{B g A A' K:BS}{v:al}{l:List α}(h:ed R w B A v l)(f:bL K w w')(d:∀b,K b->b<w.heap.size->B b)(p:∀b,K b->b<w.heap.size->A b)(q:∀b,g b->b<w.heap.size->B b)(n:∀b,A' b->b<w.heap.size->A b):ed R w' g A' v l:=by
 obtain⟨a,cap,rfl,s,m,u,j⟩:=h;refine⟨a,cap,Z,s,m,u,fun i x=>?_⟩;obtain⟨b,o,cells,E,k,t,e,c,r⟩:=j i x;exact⟨b,o,cells,E,k,t,fun h=>e<|q b h<|iN c,f.blk c fun h=>e<|d b h<|iN c,R.go r f p n⟩
theorem ed.sub{α:Type}{R:lq α}{w:ao}{B a A A':BS}{v:al}{l:List α}(h:ed R w B A v l)(c:∀b,a b->b<w.heap.size->B b)(d:∀b,A' b->b<w.heap.size->A b):ed R w a A' v l:=
 h.go (bL.refl BE w) (fun _ h=>h.elim) (fun _ h=>h.elim) c d
theorem ed.src{α:Type}{R:lq α}{w:ao}{B A:BS}{v:al}{l:List α}(h:ed R w B A v l):ed R w BE A v l:=h.sub (fun _ h=>h.elim) (fun _ h _=>h)
theorem dm.go{α:Type}{R:lq α}{w w':ao}{A A' K:BS}{v:al}{l:List α}(h:dm R w A v l)(d:bL K w w')(a:∀b,K b->b<w.heap.size->A b)(c:∀b,A' b->b<w.heap.size->A b):dm R w' A' v l:=
 ed.go h d a a c c
theorem ed.one{α:Type}{R:lq α}{w:ao}{B A:BS}{v:al}{l:List α}(h:ed R w B A v l):v.oneCell'=true:=by
 obtain⟨a,cap,rfl,_⟩:=h;rfl
theorem ed.nil{α:Type}{R:lq α}{w:ao}{B A:BS}:ed R w B A (.slice aw 0 0) ([]:List α):=⟨aw,0,rfl,bt _,by unfold ks;omega,fun _=>rfl,fun i a=>absurd a (eN _)⟩
theorem ed.bJ{α:Type}{R:lq α}{w:ao}{B A:BS}{v:al}{l:List α}(h:ed R w B A v l):l.length<=9223372036854775807:=by
 obtain⟨a,cap,_,c,b,_⟩:=h;unfold ks at b;omega
def wY{α:Type}(R:lq α):lq (List α) where
 sz:=1
 rd w A cs l:=∃v,cs=[v]/\dm R w A v l
 len:=by rintro w A cs x ⟨v,rfl,_⟩;rfl
 one:=by
  rintro w A cs x⟨v,rfl,h⟩u hu;simp at hu;subst hu;exact h.one
 pos:=by decide
 go:=by
  rintro w A cs x w' A' K⟨v,rfl,h⟩hk hK hA;exact⟨v,Z,h.go hk hK hA⟩
def cZ:lq Int where
 sz:=1
 rd _ _ cs x:=cs=[.int .i64 x]
 len:=by rintro w A cs x rfl;rfl
 one:=by rintro w A cs x rfl u hu;simp at hu;subst hu;rfl
 pos:=by decide
 go:=fun h _ _ _=>h
abbrev Str:=List UInt8
def bE(s:Str):Value:=.string ⟨s.toArray⟩
def uF:lq Str where
 sz:=1
 rd _ _ cs x:=cs=[bE x]
 len:=by rintro w A cs x rfl;rfl
 one:=by rintro w A cs x rfl u hu;simp at hu;subst hu;rfl
 pos:=by decide
 go:=fun h _ _ _=>h
def ob:al->Nat->Prop| .slice (aj a) _ _=>fun b=>b=a.block|_=>fun _=>False
theorem ob_row{v:al}{k:Nat}:ob v k↔v.ownBlock=aj k:=by
 cases v with
 |slice a l c=>cases a with
  |none=>simp[ob,ns]
  |some a=>simp[ob,ns];exact eq_comm
 |_=>simp[ob,ns]
def bZ{α:Type}(R:lq α)(E:aT)(w:ao)(A:BS)(v:al)(l:List α):Prop:=
 ∃xs,w.ownsRow 0 E R.sz v l.length xs/\∀i (h:i<l.length),R.rd w (fun b=>A b\/ob v b) ((xs.drop (i*R.sz)).take R.sz) l[i]
theorem bZ.nil{α:Type}{R:lq α}{E:aT}{w:ao}{A:BS}:bZ R E w A (.slice aw 0 0) ([]:List α):=
 ⟨[],World.ownsRow_nil _ _ _ _,fun i h=>absurd h (eN _)⟩
theorem bZ.lt{α:Type}{R:lq α}{E:aT}{w:ao}{A:BS}{v:al}{l:List α}(h:bZ R E w A v l):∀k,ob v k->k<w.heap.size:=by
 obtain⟨xs,a,_⟩:=h;intro k b;exact(a.lt k<|ob_row.1 b).2
theorem bZ.go{α:Type}{R:lq α}{E:aT}{w w':ao}{A A' K:BS}{v:al}{l:List α}(h:bZ R E w A v l)(e:bL K w w')(k:∀b,K b->b<w.heap.size->A b)(d:∀b,K b->¬ob v b)(j:∀b,A' b->b<w.heap.size->A b\/ob v b):bZ R E w' A' v l:=by
  obtain⟨xs,c,m⟩:=h;refine⟨xs,?_,fun i o=>R.go (m i o) e (fun b c f=>.inl<|k b c f) fun b a n=>?_⟩
  · refine⟨c.1,?_⟩;rcases c.2 with h|⟨g,cap,cur,rfl,e1,e2,e3⟩
    · exact .inl h
    · exact .inr ⟨g,cap,cur,Z,e1,e.blk e2 (fun h=>d g h (by simp[ob])),e3⟩
  · rcases a with a|a
    · exact j b a n
    · exact .inr a
theorem bZ.one{α:Type}{R:lq α}{E:aT}{w:ao}{A:BS}{v:al}{l:List α}(h:bZ R E w A v l):v.oneCell'=true:=by
 obtain⟨xs,a,_⟩:=h;rcases a.2 with⟨rfl,_⟩|⟨g,cap,cur,rfl,_⟩<;>rfl
theorem bZ.rd{α:Type}{R:lq α}{E:aT}{w:ao}{A A':BS}{v:al}{l:List α}(h:bZ R E w A v l)(c:∀b,ob v b->¬A' b)(d:∀b,A' b->b<w.heap.size->A b\/ob v b):dm R w A' v l:=by
  obtain⟨xs,e,f⟩:=h;rcases e.2 with⟨rfl,hn⟩|⟨g,cap,cur,rfl,e1,e2,e3,e4,e5,e6⟩
  · have:l=[]:=cl hn;subst this;exact ed.nil
  · refine⟨aj ⟨g,0,aw⟩,cap,Z,e3,e4,(fun h=>by cases h),fun i a=>⟨g,0,cur,E,(0,0),Z,c g (by simp[ob]),e2,?_⟩⟩;have:=R.go (A':=A') (f i a) (bL.refl BE w) (fun _ h=>h.elim) d;rw[<-e6,en,ee,cS ?_]at this
    · rw[fY];exact this
    · have:(i+1)*R.sz<=l.length*R.sz:=bd _ a;rw[cj]at this;omega
def L8(b:Array sb)(a:Nat):Prop:=(∀e∈b.toList,e.born<a)/\(b.toList.map (·.born)).Nodup
def Jp(w:ao)(b:Nat)(jC:List (Int×al)):Prop:=
 ∃c a,w.heap[b]? =aj (.map c a)/\c.toList.map (fun e=>(e.key,e.val))=jC.map (fun p=>(dp .i64 p.1,p.2))/\L8 c a
structure Pce where
 own:BS
 P:ao->BS->Prop
 lt:∀{w A b},P w A->own b->b<w.heap.size
 go:∀{w w' A A' K},P w A->bL K w w'->(∀b,K b->b<w.heap.size->A b)->(∀b,K b->¬own b)->(∀b,A' b->b<w.heap.size->A b\/own b)->P w' A'
inductive Chunk:Type 1 where
 |no
 |rd {α:Type} (R:lq α) (v:al) (l:List α)
 |sr {α:Type} (R:lq α) (v:al) (l:List α)
 |pt (b o:Nat) (cs:List al)
 |blk (b:Nat) (cs:List al)
 |own {α:Type} (R:lq α) (E:aT) (v:al) (l:List α)
 |mp (b:Nat) (jC:List (Int×al))
 |rp {α:Type} (R:lq α) (v:al) (x:α)
 |two (a b:Chunk)
 |eF (S:Pce)
def Chunk.own':Chunk->BS
 | .blk b _=>fun x=>x=b
 | .own _ _ v _=>ob v
 | .mp b _=>fun x=>x=b
 | .two a b=>fun x=>a.own' x\/b.own' x
 | .eF S=>S.own
 |_=>BE
def Chunk.holds(w:ao)(M O:BS):Chunk->Prop
 | .no=>True
 | .rd R v l=>dm R w (fun b=>M b\/O b) v l
 | .sr R v l=>ed R w O (fun b=>M b\/O b) v l
 | .pt b o cs=>¬O b/\∃cells E c,w.heap[b]? =aj (.cells cells E c)/\(cells.toList.drop o).take cs.length=cs
 | .blk b cs=>∃E,w.heap[b]? =aj (.cells cs.toArray E (0,0))
 | .own R E v l=>bZ R E w (fun b=>M b\/O b) v l
 | .mp b jC=>Jp w b jC
 | .rp R v x=>R.rd w (fun b=>M b\/O b) [v] x
 | .two a b=>a.holds w M O/\b.holds w M O/\∀x,a.own' x->¬b.own' x
 | .eF S=>S.P w (fun b=>M b\/O b)
theorem Chunk.go{c:Chunk}{w w':ao}{M O n N:BS}(h:c.holds w M O)(g:bL N w w')(hN:∀b,N b->b<w.heap.size->O b)(f:∀b,N b->¬c.own' b)(j:∀b,n b->b<w.heap.size->M b\/O b)(i:∀b,n b->b<w.heap.size->O b):c.holds w' M n:=by
 induction c with
 |no=>trivial
 |rd R v l=>exact dm.go h g (fun b d e=>.inr (hN b d e)) (fun b d e=>d.elim .inl (fun d=>j b d e))
 |sr R v l=>exact ed.go h g hN (fun b d e=>.inr (hN b d e)) i (fun b d e=>d.elim .inl (fun d=>j b d e))
 |pt b o cs=>
  obtain⟨p,cells,E,q,k,u⟩:=h;exact⟨fun h=>p<|i b h<|iN k,cells,E,q,g.blk k fun h=>p<|hN b h<|iN k,u⟩
 |blk b cs=>
  obtain⟨E,h⟩:=h;exact⟨E,g.blk h fun d=>f b d Z⟩
 |own R E v l=>exact bZ.go h g (fun b d e=>.inr (hN b d e)) f (fun b d e=>.inl (d.elim .inl (fun d=>j b d e)))
 |rp R v x=>exact R.go h g (fun b d e=>.inr (hN b d e)) (fun b d e=>d.elim .inl (fun d=>j b d e))
 |two a b iha ihb=>exact⟨iha h.1 (fun x m t=>f x m (.inl t)),ihb h.2.1 (fun x m d=>f x m (.inr d)),h.2.2⟩
 |eF S=>exact S.go h g (fun b d e=>.inr (hN b d e)) f (fun b d e=>.inl (d.elim .inl (fun d=>j b d e)))
 |mp b jC=>
  obtain⟨s,c,h,r⟩:=h;exact⟨s,c,g.blk h fun d=>f b d Z,r⟩
theorem Chunk.sub{c:Chunk}{w:ao}{M O a:BS}(h:c.holds w M O)(d:∀b,a b->b<w.heap.size->O b):c.holds w M a:=
 Chunk.go h (bL.refl BE w) (fun _ h=>h.elim) (fun _ h=>h.elim) (fun b f e=>.inr (d b f e)) d
theorem Chunk.lt{c:Chunk}{w:ao}{M O:BS}(h:c.holds w M O):∀b,c.own' b->b<w.heap.size:=by
 intro b d;induction c with
 |no=>exact d.elim
 |rd=>exact d.elim
 |sr=>exact d.elim
 |pt=>exact d.elim
 |blk b' cs=>
  cases d;exact iN h.choose_spec
 |own R E v l=>exact bZ.lt h b d
 |rp=>exact d.elim
 |two a c iha ihc=>exact d.elim (fun d=>iha h.1 d) (fun d=>ihc h.2.1 d)
 |eF S=>exact S.lt h d
 |mp b' jC=>
  cases d;obtain⟨_,_,h,_⟩:=h;exact iN h
def bV(hp:Nat->Chunk)(i:Nat)(c:Chunk):Nat->Chunk:=fun j=>bif fv j i then c else hp j
theorem bY(hp:Nat->Chunk)(i:Nat)(c:Chunk):bV hp i c i=c:=by simp[bV,Nat.beq_refl]
theorem dZ{hp:Nat->Chunk}{i j:Nat}{c:Chunk}(h:j≠i):bV hp i c j=hp j:=by
 have:fv j i=false:=by rw[ie];intro e;exact h (gj e)
 simp[bV,this]
def hno:Nat->Chunk:=fun _=>.no
def iO(hp:Nat->Chunk):BS:=fun b=>∃j,(hp j).own' b
structure SH(w0:ao)(M K:BS)(w:ao)(hp:Nat->Chunk):Prop where
 keep:bL K w0 w
 ltM:∀b,M b->b<w0.heap.size
 apM:∀i b,(hp i).own' b->¬M b
 ok:∀i,(hp i).holds w M (iO hp)
 apart:∀i j,i≠j->∀b,(hp i).own' b->¬(hp j).own' b
 old:∀i b,(hp i).own' b->b<w0.heap.size->K b
section
variable{w0 w w':ao}{M K:BS}{hp:Nat->Chunk}{i:Nat}{c:Chunk}
def rest(hp:Nat->Chunk)(i:Nat):BS:=fun b=>∃j,j≠i/\(hp j).own' b
theorem lu{hp:Nat->Chunk}{i b:Nat}(h:rest hp i b):iO hp b:=let ⟨j,_,h⟩:=h;⟨j,h⟩
abbrev SH.av(hp:Nat->Chunk)(i:Nat)(c:Chunk):BS:=fun b=>rest hp i b\/c.own' b
theorem SH.step{N:BS}(h:SH w0 M K w hp)(i:Nat)(r:bL N w w')(hN:∀b,N b->b<w.heap.size->(hp i).own' b)
    (ho:∀b,c.own' b->b<w.heap.size->(hp i).own' b) (u:c.holds w' M (SH.av hp i c)):SH w0 M K w' (bV hp i c):=by
  have t:∀b,M b->b<w.heap.size:=fun b a=>cq (h.ltM b a) h.keep.size;have m:∀b,iO (bV hp i c) b->rest hp i b\/c.own' b:=by
    rintro b⟨j,o⟩;by_cases e:j=i
    · subst e;rw[bY]at o;exact .inr o
    · rw[dZ e]at o;exact .inl ⟨j,e,o⟩
  have g:∀b,iO (bV hp i c) b->b<w.heap.size->iO hp b:=fun b a f=>(m b a).elim lu fun h=>⟨i,ho b h f⟩;refine⟨?_,h.ltM,?_,?_,?_,?_⟩
  · exact h.keep.step r (fun x q f=>by
      have n:=cq f h.keep.size;exact h.old i x (hN x q n) f)
  · intro j b a;by_cases e:j=i
    · subst e;rw[bY]at a;intro s;exact h.apM j b (ho b a<|t b s) s
    · rw[dZ e]at a;exact h.apM j b a
  · intro j;by_cases e:j=i
    · subst e;rw[bY];exact Chunk.sub u fun b a _=>m b a
    · rw[dZ e];have f:=h.ok j;refine Chunk.go f (r.weaken (N:=fun b=>N b/\b<w.heap.size) fun b a f=>⟨a,f⟩) ?_ ?_ ?_ ?_
      · intro b a n;exact⟨i,hN b a.1 n⟩
      · intro b a o;exact h.apart j i e b o<|hN b a.1 a.2
      · exact fun b a f=>.inr<|g b a f
      · exact g
  · intro j k l b a d;have lt:∀x,x≠i->(hp x).own' b->b<w.heap.size:=fun x _ q=>Chunk.lt (h.ok x) b q;by_cases e:j=i
    · subst e;have p:k≠j:=fun e=>l e.symm;rw[bY]at a;rw[dZ p]at d;exact h.apart j k l b (ho b a<|lt k p d) d
    · rw[dZ e]at a;by_cases p:k=i
      · subst p;rw[bY]at d;exact h.apart j k l b a<|ho b d<|lt j e a
      · rw[dZ p]at d;exact h.apart j k l b a d
  · intro j b a f;by_cases e:j=i
    · subst e;rw[bY]at a;exact h.old j b (ho b a<|cq f h.keep.size) f
    · rw[dZ e]at a;exact h.old j b a f
abbrev SH.A(M:BS)(hp:Nat->Chunk):BS:=fun b=>M b\/iO hp b
theorem SH.lt(h:SH w0 M K w hp):∀b,SH.A M hp b->b<w.heap.size:=by
  rintro b(a|⟨j,a⟩)
  · exact cq (h.ltM b a) h.keep.size
  · exact Chunk.lt (h.ok j) b a
theorem SH.learn(h:SH w0 M K w hp)(i:Nat)(e:Grow w w')(ho:∀b,c.own' b->w.heap.size<=b)(d:c.holds w' M (fun b=>iO hp b\/c.own' b)):SH w0 M K w' (bV hp i c):=
 h.step i e (fun _ h=>h.elim) (fun b a f=>absurd (ho b a) V) (Chunk.sub d (fun b a _=>a.imp lu id))
theorem SH.grow(h:SH w0 M K w hp)(c:Grow w w'):SH w0 M K w' hp:=
 ⟨h.keep.grow c,h.ltM,h.apM,fun i=>Chunk.go (h.ok i) c (fun _ h=>h.elim) (fun _ h=>h.elim) (fun b a _=>.inr a) (fun b a _=>a),h.apart,h.old⟩
theorem SH.know(h:SH w0 M K w hp)(i:Nat)(ho:∀b,¬c.own' b)(d:c.holds w M (iO hp)):SH w0 M K w (bV hp i c):=
 h.learn i (bL.refl BE w) (fun b a=>absurd a (ho b)) (Chunk.sub d (fun b a _=>a.elim id (fun a=>absurd a (ho b))))
theorem SH.freeze{α:Type}{R:lq α}{E:aT}{v:al}{l:List α}(h:SH w0 M K w hp)(i:Nat)(f:hp i=.own R E v l):SH w0 M K w (bV hp i (.rd R v l)):=by
  refine h.step i (bL.refl BE w) (fun _ h=>h.elim) (fun b a=>a.elim) ?_;have e:=h.ok i;rw[f]at e;refine bZ.rd e (fun b a c=>?_) fun b a e=>?_
  · have d:(hp i).own' b:=by rw[f];exact a
    rcases c with c|⟨j,hj,c⟩|c
    · exact h.apM i b d c
    · exact h.apart j i hj b c d
    · exact c
  · rcases a with a|a|a
    · exact .inl<|.inl a
    · exact .inl<|.inr<|lu a
    · exact a.elim
def hset:List (Nat×Chunk)->Nat->Chunk
 |[]=>hno
 |(i,c)::r=>bV (hset r) i c
def HoldsC(hp:Nat->Chunk):List (Nat×Chunk)->Prop
 |[]=>True
 |(i,c)::r=>hp i=c/\HoldsC hp r
theorem hset_is{hp:Nat->Chunk}:∀{l:List (Nat×Chunk)},HoldsC hp l->∀j,hset l j=hp j\/hset l j=.no
  |[],_,_=>.inr Z
  |(i,c)::r,h,j=>by
    by_cases e:j=i
    · subst e;left;show bV _ _ _ _=_;rw[bY];exact h.1.symm
    · show bV _ _ _ _=_\/bV _ _ _ _=_;rw[dZ e];exact hset_is h.2 j
theorem SH.canon(h:SH w0 M K w hp)(l:List (Nat×Chunk))(k:HoldsC hp l):SH w0 M K w (hset l):=by
  have c:=hset_is k;have own:∀j b,(hset l j).own' b->(hp j).own' b:=by
    intro j b a;rcases c j with e|e
    · rw[e]at a;exact a
    · rw[e]at a;exact a.elim
  refine⟨h.keep,h.ltM,fun i b a=>h.apM i b<|own i b a,fun i=>?_,fun i j d b a f=>h.apart i j d b (own i b a)<|own j b f,fun i b a=>h.old i b<|own i b a⟩;rcases c i with e|e
  · rw[e];exact Chunk.sub (h.ok i) fun b⟨j,g⟩_=>⟨j,own j b g⟩
  · rw[e];trivial
theorem SH.init{w:ao}{M:BS}(a:∀b,M b->b<w.heap.size):SH w M BE w hno:=
 ⟨bL.refl _ _,a,fun _ _ h=>h.elim,fun _=>trivial,fun _ _ _ _ h=>h.elim,fun _ _ h=>h.elim⟩
theorem SH.ui{α:Type}{R:lq α}{E:aT}{v:al}{l:List α}(h:SH w0 M K w hp)(i:Nat)(d:Grow w w')(ho:bZ R E w' (SH.A M hp) v l)(a:∀b,ob v b->w.heap.size<=b):SH w0 M K w' (bV hp i (.own R E v l)):=
 h.learn i d a (bZ.go ho (bL.refl BE w') (fun _ h=>h.elim) (fun _ h=>h.elim) (fun b c _=>c.elim (fun h=>.inl (.inl h)) (fun h=>h.elim (fun h=>.inl (.inr h)) .inr)))
theorem SH.yI{α:Type}{R:lq α}{v:al}{l:List α}(h:SH w0 M K w hp)(i:Nat)(a:Grow w w')(ho:dm R w' (SH.A M hp) v l):SH w0 M K w' (bV hp i (.rd R v l)):=
 h.learn i a (fun _ h=>h.elim) (dm.go ho (bL.refl BE w') (fun _ h=>h.elim) (fun b c _=>c.elim .inl (fun h=>h.elim .inr (fun h=>h.elim))))
theorem SH.aK{α:Type}{R:lq α}{v:al}{l:List α}(h:SH w0 M K w hp)(i:Nat)(ho:dm R w (SH.A M hp) v l):SH w0 M K w (bV hp i (.rd R v l)):=h.yI i (bL.refl BE w) ho
theorem SH.Ff{α:Type}{R:lq α}{v:al}{l:List α}(h:SH w0 M K w hp)(i:Nat)(ho:dm R w M v l)(hn:∀b,¬iO hp b):SH w0 M K w (bV hp i (.rd R v l)):=
 h.aK i (ho.go (bL.refl BE w) (fun _ h=>h.elim) (fun b a _=>a.elim id (fun h=>absurd h (hn b))))
theorem SH.dG{α:Type}{R:lq α}{v:al}{l:List α}(h:SH w0 M K w hp)(i:Nat)(ho:ed R w BE M v l)(hn:∀b,¬iO hp b):SH w0 M K w (bV hp i (.sr R v l)):=
 h.know i (fun _ h=>h) (ho.sub (fun b a _=>absurd a (hn b)) (fun b a _=>a.elim id (fun h=>absurd h (hn b))))
theorem SH.bB{α:Type}{R:lq α}{v:al}{l:List α}(h:SH w0 M K w hp)(i:Nat)(a:hp i=.rd R v l):dm R w (SH.A M hp) v l:=by
 have:=h.ok i;rw[a]at this;exact this
theorem SH.srAt{α:Type}{R:lq α}{v:al}{l:List α}(h:SH w0 M K w hp)(i:Nat)(a:hp i=.sr R v l):ed R w (iO hp) (SH.A M hp) v l:=by
 have:=h.ok i;rw[a]at this;exact this
theorem SH.bI{α:Type}{R:lq α}{E:aT}{v:al}{l:List α}(h:SH w0 M K w hp)(i:Nat)(a:hp i=.own R E v l):bZ R E w (SH.A M hp) v l:=by
 have:=h.ok i;rw[a]at this;exact this
theorem SH.Ak{b:Nat}{cs:List al}(h:SH w0 M K w hp)(i:Nat)(a:hp i=.blk b cs):∃E,w.heap[b]? =aj (.cells cs.toArray E (0,0)):=by
 have:=h.ok i;rw[a]at this;exact this
theorem SH.ptAt{b o:Nat}{cs:List al}(h:SH w0 M K w hp)(i:Nat)(c:hp i=.pt b o cs):∃cells E a,w.heap[b]? =aj (.cells cells E a)/\(cells.toList.drop o).take cs.length=cs:=by
 have:=h.ok i;rw[c]at this;exact this.2
theorem SH.mpAt{b:Nat}{a:List (Int×al)}(h:SH w0 M K w hp)(i:Nat)(c:hp i=.mp b a):Jp w b a:=by
 have:=h.ok i;rw[c]at this;exact this
theorem SH.grown(h:SH w0 M BE w hp):Grow w0 w:=h.keep
theorem SH.fresh(h:SH w0 M BE w hp)(i:Nat):∀b,(hp i).own' b->w0.heap.size<=b:=fun b c=>sc (fun a=>h.old i b c a)
theorem SH.kY{α:Type}{R:lq α}{v:al}{l:List α}(h:SH w0 M K w hp)(i:Nat)(a:hp i=.rd R v l):ed R w BE (SH.A M hp) v l:=(h.bB i a).src
theorem SH.fV{α:Type}{R:lq α}{v:al}{l:List α}(h:SH w0 M K w hp)(i:Nat)(a:hp i=.sr R v l):ed R w BE (SH.A M hp) v l:=(h.srAt i a).src
theorem bZ.src{α:Type}{R:lq α}{E:aT}{w:ao}{A:BS}{v:al}{l:List α}(h:bZ R E w A v l):ed R w BE A v l:=by
  obtain⟨xs,c,d⟩:=h;rcases c.2 with⟨rfl,hn⟩|⟨g,cap,cur,rfl,e1,e2,e3,e4,e5,e6⟩
  · have:l=[]:=cl hn;subst this;exact ed.nil
  · refine⟨aj ⟨g,0,aw⟩,cap,Z,e3,e4,(fun h=>by cases h),fun i a=>⟨g,0,cur,E,(0,0),Z,fun h=>h,e2,?_⟩⟩;have:=R.go (A':=A) (d i a) (bL.refl BE w) (fun _ h=>h.elim) fun b e _=>.inl e;rw[<-e6,en,ee,cS ?_]at this
    · rw[fY];exact this
    · have:(i+1)*R.sz<=l.length*R.sz:=bd _ a;rw[cj]at this;omega
theorem SH.dA{α:Type}{R:lq α}{E:aT}{v:al}{l:List α}(h:SH w0 M K w hp)(i:Nat)(a:hp i=.own R E v l):ed R w BE (SH.A M hp) v l:=(h.bI i a).src
theorem aO:∀b,¬iO hno b:=fun _⟨_,h⟩=>h
theorem uG{α:Type}{R:lq α}{v:al}{l:List α}{i:Nat}(h:∀b,¬iO hp b):∀b,¬iO (bV hp i (.rd R v l)) b:=by
  rintro b⟨j,a⟩;by_cases e:j=i
  · subst e;rw[bY]at a;exact a
  · rw[dZ e]at a;exact h b ⟨j,a⟩
theorem aU{α:Type}{R:lq α}{v:al}{l:List α}{i:Nat}(h:∀b,¬iO hp b):∀b,¬iO (bV hp i (.sr R v l)) b:=by
  rintro b⟨j,a⟩;by_cases e:j=i
  · subst e;rw[bY]at a;exact a
  · rw[dZ e]at a;exact h b ⟨j,a⟩
end
open Go.RowKit
def gv(c:Bool)(v:al):Value:=(bif c then [v]else []).headD fR
theorem eZ{c:Bool}{v:al}(h:c=ba):gv c v=v:=by rw[h];rfl
theorem gl{a b:Bool}(h:(a&&b)=ba):a=true:=by cases a<;>simp_all
theorem gr{a b:Bool}(h:(a&&b)=ba):b=true:=by cases a<;>simp_all
structure kg(P:ca)(T E:aT)(sz bytes:Nat):Prop where
 desc:P.underlying T=aj (.slice E)
 info:∃i z,P.info? E=aj i/\i.zero=aj z/\i.size=sz/\i.bytes=bytes/\z.cells.size=sz
theorem Sg{P:ca}{T:aT}{z:Option al}{s:Nat}(h:(P.info? T).map (fun i=>(i.zero,i.size))=aj (z,s)):∃i,P.info? T=aj i/\i.zero=z/\i.size=s:=by
 cases hi:P.info? T with
 |none=>simp[hi]at h
 |some i=>simp[hi]at h;exact⟨i,Z,h.1,h.2⟩
def wV(w:ao)(b:Nat)(o:Obj):World:={w with heap:=w.heap.setIfInBounds b o}
theorem vM{w:ao}{b:Nat}{o:Obj}(h:b<w.heap.size):(wV w b o).heap[b]? =aj o:=by simp[wV,h]
theorem bL.wV(w:ao)(b:Nat)(o:Obj):bL (fun x=>x=b) w (wV w b o):=
 ⟨rfl,rfl,rfl,by simp[LX.wV],fun k a _=>by
  have:b≠k:=fun e=>a (by simp[e]);show(w.heap.setIfInBounds b o)[k]? =_;rw[Array.getElem?_setIfInBounds_ne this]⟩
theorem setCell_putb{w:ao}{b o:Nat}{cs:Array al}{E:aT}{c:Nat×Nat}{v:al}(e:w.heap[b]? =aj (.cells cs E c)):w.setCell ⟨b,o,aw⟩ v=wV w b (.cells (cs.setIfInBounds o v) E c):=by
  simp only[World.setCell,wV];congr 1;have a:=iN e;apply pC;intro i;simp only[gd,nd];by_cases d:b=i
  · subst d;rw[if_pos rfl,if_pos rfl,if_pos a,e];rfl
  · simp[d]
theorem Jq{w:ao}{b:Nat}{cs a:Array al}{E:aT}{d:Nat×Nat}(f:w.heap[b]? =aj (.cells cs E d)):w.setRow b a=wV w b (.cells a E d):=by
  simp only[World.setRow,wV];congr 1;have c:=iN f;apply pC;intro i;simp only[gd,nd];by_cases e:b=i
  · subst e;rw[if_pos rfl,if_pos rfl,if_pos c,f];rfl
  · simp[e]
def LZ(cs:List al)(o:Nat)(vs:List al):List Value:=cs.take o++vs++cs.drop (o+vs.length)
def At(w:ao)(b o:Nat)(cs:List al):Prop:=∃cells E a,w.heap[b]? =aj (.cells cells E a)/\(cells.toList.drop o).take cs.length=cs
section
variable{P:ca}{ops:Array ei}{Q:fi->Act->ao->Prop}{n:Nat}{env:Nat->al}{w w' w0:ao}{M K:BS}{hp:Nat->Chunk}{rest:List ei}
 {d:Option Nat} {op:Op} {ty:aT} {pos:String} {af:Array hF} {v:al} {g:Option (Nat×Bool)} {T:aT} {ρ:bo->al} {x y:bo}
theorem pQ{j dj:Nat}{b a:Bool}(c:Bool)(k:(ops[j]?).bind (·.dst)=aj dj)(i:ev n env (.tmp dj)=gv c (.bool b))
    (l:(c&&(b==a))=ba->(bl (ev n env) ⟨d,op,ty,pos,af,aw⟩).run P w=.ok (.value v) w) (h:WL P ops Q rest n (gq env d (gv (c&&(b==a)) v)) w):
    WL P ops Q (⟨d,op,ty,pos,af,aj (j,a)⟩::rest) n env w:=by
  by_cases f:(c&&(b==a))=ba
  · have m:=gl f;have g:=gr f;rw[eZ m]at i;rw[eZ f]at h;have q:b=a:=by simpa using g
    subst q;exact WN k i<|J (l f) h
  · have e:(c&&(b==a))=false:=by simpa using f
    rw[e]at h;cases c with
    |true=>
      refine jM k i ?_ h;simpa using e
    |false=>
      have r:ev n env (.tmp dj)=undef:=i;have o:ep ops (act n env).tmps j=none:=by
        unfold ep;have g:(act n env).eval (.tmp dj)=undef:=by rw[gP];exact r
        simp only[k,cJ];simp only[hQ]at g;cases h2:(act n env).tmps[dj]? with
        |none=>rfl
        |some x=>simp[cY,h2]at g;subst g;rfl
      have p:cm ⟨d,op,ty,pos,af,aj (j,a)⟩ (ep ops (act n env).tmps)=false:=by simp[cm,o]
      refine⟨?_⟩;unfold nc;rw[if_neg (by rw[p];decide),EW];exact h.out
theorem aQ{j dj:Nat}{b a:Bool}(c:(ops[j]?).bind (·.dst)=aj dj)(f:ev n env (.tmp dj)=.bool b)
    (e:(b==a)=ba->(bl (ev n env) ⟨d,op,ty,pos,af,aw⟩).run P w=.ok (.value v) w) (h:WL P ops Q rest n (gq env d (gv (b==a) v)) w):
    WL P ops Q (⟨d,op,ty,pos,af,aj (j,a)⟩::rest) n env w:=
  pQ ba c f (fun h=>e (by simpa using h)) (by simpa using h)
theorem fF{c a:bo}{b p:Bool}(e:ρ c=.bool b)(f:ρ a=gv (b==aq) (.bool p))(h:∀v,ρ (.const v)=v):(bl ρ ⟨d,.pick c (.const (.bool ba)) a,ty,pos,af,g⟩).run P w=.ok (.value (.bool (b||p))) w:=by
 cases b<;>simp_all[bl,asBool,gv]
theorem iE{c a:bo}{b p:Bool}(e:ρ c=.bool b)(f:ρ a=gv (b==ba) (.bool p))(h:∀v,ρ (.const v)=v):(bl ρ ⟨d,.pick c a (.const (.bool aq)),ty,pos,af,g⟩).run P w=.ok (.value (.bool (b&&p))) w:=by
 cases b<;>simp_all[bl,asBool,gv]
theorem l9{n:Nat}{env:Nat->al}:∀v,ev n env (.const v)=v:=fun _=>rfl
theorem iF{T:aT}{b:Bool}(a:ρ x=.bool b):(bl ρ ⟨d,.unOp .not T x,ty,pos,af,g⟩).run P w=.ok (.value (.bool !b)) w:=r_not a
theorem r_neqb{T2:aT}{p q:Bool}(b:P.underlying T=aj .bool)(c:ρ x=.bool p)(a:ρ y=.bool q):(bl ρ ⟨d,.binOp .neq T x y T2,ty,pos,af,g⟩).run P w=.ok (.value (.bool (p !=q))) w:=by
 simp[bl,c,a,gk,kp,run_equal_bool w T p q b,bne]
theorem cu{z:al}{b o:Nat}{cs:List al}(h:SH w0 M K w hp)(i:Nat)(c:hp i=.blk b cs)(a:One P T z)(f:ρ x=.pointer (aj ⟨b,o,aw⟩))(j:cs[o]? =aj v):
 (bl ρ ⟨d,.load T x,ty,pos,af,g⟩).run P w=.ok (.value v) w:=let ⟨_,e⟩:=h.Ak i c;r_load1 a f e (by simpa using j)
theorem r_loadN{zs vs:List al}{b o:Nat}{cells:Array al}{E:aT}{m:Nat×Nat}(k:wU P T zs)(s:ρ x=.pointer (aj ⟨b,o,aw⟩))(l:w.heap[b]? =aj (.cells cells E m))(q:(cells.toList.drop o).take zs.length=vs)(y:vs.length=zs.length):
    (bl ρ ⟨d,.load T x,ty,pos,af,g⟩).run P w=.ok (.value (.agg vs.toArray)) w:=by
  obtain⟨i,z,hz,u⟩:=Sg k.info;obtain⟨p,n,t⟩:=k.desc;have r:∀j v,vs[j]? =aj v->w.cell? ((⟨b,o,aw⟩:kq).add j)=aj v:=by
    intro j v a;have c:j<zs.length:=by
      rcases cD j vs.length with h|h
      · omega
      · rw[bw h]at a;cases a
    rw[<-q,cg,if_pos c,cw]at a;by_cases e:j=0
    · subst e;simpa[gT,eW,l]using a
    · simpa[gT,eW,l,e]using a
  have f:=sY (P:=P) (w:=w) ⟨b,o,aw⟩ vs r;rw[y]at f;cases p<;>simp at t<;>simp[bl,oT,s,hS,qu,isAgg,cA,n,fu,dy,z,u,f]
theorem xe{zs vs:List al}{b o:Nat}{cs:List al}(h:SH w0 M K w hp)(i:Nat)(e:hp i=.blk b cs)(a:wU P T zs)(j:ρ x=.pointer (aj ⟨b,o,aw⟩))(k:(cs.drop o).take zs.length=vs)(c:vs.length=zs.length):
 (bl ρ ⟨d,.load T x,ty,pos,af,g⟩).run P w=.ok (.value (.agg vs.toArray)) w:=let ⟨_,f⟩:=h.Ak i e;r_loadN a j f (by simpa using k) c
theorem kQ{z:al}{b o k:Nat}{cs:List al}(h:At w b o cs)(f:One P T z)(l:ρ x=.pointer (aj ⟨b,o+k,aw⟩))(a:cs[k]? =aj v):
    (bl ρ ⟨d,.load T x,ty,pos,af,g⟩).run P w=.ok (.value v) w:=by
  obtain⟨cells,E,m,j,e⟩:=h;refine r_load1 f l j ?_;have i:k<cs.length:=by
    rcases cD k cs.length with h1|h1
    · exact h1
    · rw[bw h1]at a;cases a
  have c:((cells.toList.drop o).take cs.length)[k]? =aj v:=by rw[e];exact a
  rw[cg,if_pos i,cw]at c;simpa using c
theorem drop_take_add{α:Type}{l:List α}{o k m s:Nat}{cs:List α}(h:(l.drop o).take s=cs)(a:k+m<=s):(l.drop (o+k)).take m=(cs.drop k).take m:=by
 rw[<-h,en,ee,lP,cS V]
theorem lM{zs vs:List al}{b o k:Nat}{cs:List al}(h:At w b o cs)(e:wU P T zs)(j:ρ x=.pointer (aj ⟨b,o+k,aw⟩))(l:(cs.drop k).take zs.length=vs)(f:vs.length=zs.length)(a:k+zs.length<=cs.length):
  (bl ρ ⟨d,.load T x,ty,pos,af,g⟩).run P w=.ok (.value (.agg vs.toArray)) w:=by
 obtain⟨cells,E,m,i,c⟩:=h;exact r_loadN e j i (by rw[drop_take_add c a];exact l) f
theorem gm{z:al}{b o k:Nat}{cs:List al}(h:SH w0 M K w hp)(i:Nat)(c:hp i=.pt b o cs)(a:One P T z)(e:ρ x=.pointer (aj ⟨b,o+k,aw⟩))(f:cs[k]? =aj v):
 (bl ρ ⟨d,.load T x,ty,pos,af,g⟩).run P w=.ok (.value v) w:=kQ (h.ptAt i c) a e f
theorem L9{zs vs:List al}{b o k:Nat}{cs:List al}(h:SH w0 M K w hp)(i:Nat)(f:hp i=.pt b o cs)(c:wU P T zs)(j:ρ x=.pointer (aj ⟨b,o+k,aw⟩))(l:(cs.drop k).take zs.length=vs)(e:vs.length=zs.length)(a:k+zs.length<=cs.length):
 (bl ρ ⟨d,.load T x,ty,pos,af,g⟩).run P w=.ok (.value (.agg vs.toArray)) w:=lM (h.ptAt i f) c j l e a
theorem aM{b o k off:Nat}(n:dQ P T k off)(l:ρ x=.pointer (aj ⟨b,o,aw⟩)):
  (bl ρ ⟨d,.fieldAddr T x k,ty,pos,af,g⟩).run P w=.ok (.value (.pointer (aj ⟨b,o+off,aw⟩))) w:=by
 obtain⟨q,f,s,j,h,p,c⟩:=n.desc;obtain⟨i,a,m⟩:∃i,P.info? f.type=aj i/\i.size=s+1:=by
  cases a:P.info? f.type with
  |none=>simp[a]at c
  |some i=>simp[a]at c;exact⟨i,Z,c⟩
 by_cases e:off=0<;>simp[bl,Instr.fieldAt,cA,j,h,l,hS,fieldPlace,fu,dy,a,m,p,gT,e]
theorem aR{a:kq}(b:ρ x=.pointer (aj a)):(bl ρ ⟨d,.nilCheck x,ty,pos,af,g⟩).run P w=.ok (.value (.pointer (aj a))) w:=by
 simp[bl,b]
theorem gG{α:Type}{R:lq α}{E:aT}{e:Nat}{B A:BS}{l:List α}{c:ao}(b:SliceOf P T E e)(f:ρ x=v)(h:ed R c B A v l):
  (bl ρ ⟨d,.call {callee:=.builtin .len,args:= #[x],argTypes:= #[T]},ty,pos,af,g⟩).run P w=.ok (.value (.int .i64 l.length)) w:=by
 obtain⟨a,cap,rfl,_⟩:=h;exact pW b f
theorem JX{s:Str}(c:P.underlying T=aj .string)(b:ρ x=bE s):
  (bl ρ ⟨d,.call {callee:=.builtin .len,args:= #[x],argTypes:= #[T]},ty,pos,af,g⟩).run P w=.ok (.value (.int .i64 s.length)) w:=by
 have a:(⟨s.toArray⟩:ByteArray).size=s.length:=by simp[kW]
 simp[bl,gZ,js,iS,sa,b,bE,cA,c,goInt,a]
theorem r_ix{α:Type}{R:lq α}{E:aT}{B A:BS}{l:List α}{k:Int}{a:α}{m:ao}(r:SliceOf P T E R.sz)(C:ed R m B A v l)(j:0<=k)(e:l[k.toNat]? =aj a):
    ∃b o cs,(∀(ρ:bo->al) x y w d ty pos af g,ρ x=v->ρ y=.int .i64 k->(bl ρ ⟨d,.indexAddr T x y,ty,pos,af,g⟩).run P w=.ok (.value (.pointer (aj ⟨b,o,aw⟩))) w)/\¬B b/\At m b o cs/\R.rd m A cs a:=by
  have c:k.toNat<l.length:=by
    rcases cD k.toNat l.length with h|h
    · exact h
    · rw[bw h]at e;cases e
  obtain⟨a',cap,rfl,N,M,O,s⟩:=C;obtain⟨b,o,cells,F,t,rfl,u,L,p⟩:=s k.toNat c;obtain⟨i,f,I⟩:∃i,P.info? E=aj i/\i.size=R.sz:=by
    have:=r.info;cases f:P.info? E with
    |none=>simp[f]at this
    |some i=>simp[f]at this;exact⟨i,Z,this⟩
  have n:l[k.toNat]=a:=by rw[bh c]at e;exact cQ e
  rw[n]at p;refine⟨b,o+k.toNat*R.sz,_,?_,u,⟨cells,F,t,L,by rw[R.len p]⟩,p⟩;intro ρ x y w d ty pos af g G z;simp only[bl,sB,G,z,hZ,cA,fu,dy];have K:(⟨b,o,aw⟩:kq).add (k.toNat*R.sz)=⟨b,o+k.toNat*R.sz,aw⟩:=by
    unfold gT;split
    · next hz=>rw[hz];rfl
    · rfl
  have q:k<(l.length:Int):=by omega
  simp[r.desc,f,I,j,q,K]
theorem SH.pt(h:SH w0 M K w hp)(i:Nat){b o:Nat}{cs:List al}(a:¬iO hp b)(c:At w b o cs):SH w0 M K w (bV hp i (.pt b o cs)):=
 h.know i (fun _ h=>h) ⟨a,c⟩
theorem allOwn_up{i:Nat}{c:Chunk}(d:∀b,¬c.own' b):∀b,iO (bV hp i c) b->iO hp b:=by
  rintro b⟨j,a⟩;by_cases e:j=i
  · subst e;rw[bY]at a;exact absurd a (d b)
  · rw[dZ e]at a;exact⟨j,a⟩
theorem ed.up{α:Type}{R:lq α}{l:List α}{i:Nat}{c:Chunk}(h:dm R w (SH.A M hp) v l)(d:∀b,¬c.own' b:=by exact fun _ h=>h):dm R w (SH.A M (bV hp i c)) v l:=
 h.sub (fun b a _=>a.imp id (allOwn_up d b)) (fun b a _=>a.imp id (allOwn_up d b))
abbrev IxOk(P:ca)(T:aT)(v:al)(k:Int)(p:al):Prop:=∀(ρ:bo->al) x y w d ty pos af g,ρ x=v->ρ y=.int .i64 k->(bl ρ ⟨d,.indexAddr T x y,ty,pos,af,g⟩).run P w=.ok (.value p) w
theorem SH.Ma{α:Type}{R:lq α}{E:aT}{d:Nat}{l:List α}{k:Int}{a:α}(h:SH w0 M K w hp)(i j:Nat)(r:hp i=.rd R v l)(p:SliceOf P T E d)(n:R.sz=d)(c:0<=k)(g:l[k.toNat]? =aj a):
  ∃b o cs,SH w0 M K w (bV hp j (.pt b o cs))/\R.rd w (SH.A M hp) cs a/\IxOk P T v k (.pointer (aj ⟨b,o,aw⟩)):=by
 subst n;obtain⟨b,o,cs,m,f,q,e⟩:=r_ix p (h.bB i r) c g;exact⟨b,o,cs,h.pt j (fun s=>f<|.inr s) q,e,m⟩
theorem SH.Cs{α:Type}{R:lq α}{E:aT}{d:Nat}{l:List α}{k:Int}{a:α}(h:SH w0 M K w hp)(i j:Nat)(r:hp i=.sr R v l)(p:SliceOf P T E d)(n:R.sz=d)(c:0<=k)(g:l[k.toNat]? =aj a):
  ∃b o cs,SH w0 M K w (bV hp j (.pt b o cs))/\R.rd w (SH.A M hp) cs a/\IxOk P T v k (.pointer (aj ⟨b,o,aw⟩)):=by
 subst n;obtain⟨b,o,cs,m,f,q,e⟩:=r_ix p (h.srAt i r) c g;exact⟨b,o,cs,h.pt j f q,e,m⟩
def Qo(o:Option al)(a:Int)(other:Nat):Prop:=(o=aw/\a=other)\/o=aj (.int .i64 a)
def cut{α:Type}(l:List α)(a b:Int):List α:=(l.take b.toNat).drop a.toNat
theorem r_slv{α:Type}{R:lq α}{E:aT}{a b:Int}{B A:BS}{l:List α}{y:ao}(X:SliceOf P T E R.sz)(hv:ed R y B A v l)(ha:0<=a)(k:a<=b)(hb:b<=l.length):
    ∃u,(∀(ρ:bo->al) x (s m:Option bo) w d ty pos af g,ρ x=v->Qo (s.map ρ) a 0->Qo (m.map ρ) b l.length->(bl ρ ⟨d,.slice T x s m aw,ty,pos,af,g⟩).run P w=.ok (.value u) w)/\ed R y B A u (cut l a b)/\(∀(p:ao) (n q:BS) (h:List α),ed R p n q v h->h.length=l.length->ed R p n q u (cut h a b)):=by
  obtain⟨a,rfl⟩:=bs ha;obtain⟨b,rfl⟩:=bs (by omega:0<=b);have k:a<=b:=by omega
  have hb:b<=l.length:=by omega
  obtain⟨ad,cap,rfl,h1,Q,N,I⟩:=hv;obtain⟨i,t,K⟩:∃i,P.info? E=aj i/\i.size=R.sz:=by
    have:=X.info;cases m:P.info? E with
    |none=>simp[m]at this
    |some i=>simp[m]at this;exact⟨i,Z,this⟩
  have r:b<=cap:=by omega
  refine⟨.slice (if cap=a then ad else ad.map (·.add (a*R.sz))) (b-a)<|cap-a,fun ρ x s m w d ty pos af g hx z G=>?_,?_⟩
  · have M:(dd ba l.length cap (s.map ρ) (m.map ρ) aw).run P w=.ok (a,b,cap) w:=by
      have h0:(0:Int)<=(a:Int):=hO a;have a5:(0:Int)<=(b:Int):=hO b;have a3:(a:Int)<=(b:Int):=by omega
      have a2:(b:Int)<=(cap:Int):=by omega
      rcases z with⟨f,O⟩|f<;>rcases G with⟨f1,f2⟩|f1
      · obtain rfl:a=0:=by omega
        obtain rfl:b=l.length:=by omega
        simp[dd,f,f1]
      · obtain rfl:a=0:=by omega
        simp[dd,f,f1,eC,hZ,r]
      · obtain rfl:b=l.length:=by omega
        simp[dd,f,f1,eC,hZ,k]
      · simp[dd,f,f1,eC,hZ,k,r]
    simp only[bl,iv,jh,cA,hx];simp[X.desc,M,fu,dy,t,K]
  suffices c:∀(p:ao) (n q:BS) (h:List α),ed R p n q (.slice ad l.length cap) h->h.length=l.length->ed R p n q (.slice (if cap=a then ad else ad.map (·.add (a*R.sz))) (b-a) (cap-a)) (cut h a b)from⟨c _ _ _ l ⟨ad,cap,Z,h1,Q,N,I⟩ Z,c⟩
  · intro y B A l⟨a6,a0,e0,h1,Q,N,I⟩a1;obtain⟨L,a4,C⟩:=Value.slice.inj e0;subst L;subst C;have hb:b<=l.length:=by omega
    have e:(cut l a b).length=b-a:=by simp[cut];omega
    refine⟨_,cap-a,by rw[e],by rw[e];omega,by omega,?_,?_⟩
    · intro hn;split at hn
      · omega
      · cases ad with
        |none=>have:=N Z;omega
        |some x=>simp at hn
    · intro j S;rw[e]at S;obtain⟨bb,o,cells,F,fz,f,O,e3,e4⟩:=I (a+j) V;subst f;refine⟨bb,o+a*R.sz,cells,F,fz,?_,O,e3,?_⟩
      · rw[if_neg V];simp only[db,eJ];unfold gT;split
        · next hz=>rw[hz];rfl
        · rfl
      · have:(cut l a b)[j]'(by rw[e];exact S)=l[a+j]'V:=by simp[cut]
        rw[this];rw[show o+a*R.sz+j*R.sz=o+(a+j)*R.sz by rw[cj,jt]];exact e4
theorem r_sl{α:Type}{R:lq α}{E:aT}{a b:Int}{B A:BS}{l:List α}{e:ao}(n:SliceOf P T E R.sz)(j:ed R e B A v l)(m:0<=a)(c:a<=b)(o:b<=l.length):
  ∃u,(∀(ρ:bo->al) x (f h:Option bo) w d ty pos af g,ρ x=v->Qo (f.map ρ) a 0->Qo (h.map ρ) b l.length->(bl ρ ⟨d,.slice T x f h aw,ty,pos,af,g⟩).run P w=.ok (.value u) w)/\ed R e B A u (cut l a b):=
 let ⟨u,k,i,_⟩:=r_slv n j m c o;⟨u,k,i⟩
abbrev SlOk(P:ca)(T:aT)(v:al)(a b:Int)(n:Nat)(u:al):Prop:=∀(ρ:bo->al) x (c e:Option bo) w d ty pos af g,ρ x=v->Qo (c.map ρ) a 0->Qo (e.map ρ) b n->(bl ρ ⟨d,.slice T x c e aw,ty,pos,af,g⟩).run P w=.ok (.value u) w
theorem SH.slR{α:Type}{R:lq α}{E:aT}{d:Nat}{a b:Int}{l:List α}(h:SH w0 M K w hp)(i j:Nat)(n:hp i=.rd R v l)(m:SliceOf P T E d)(g:R.sz=d)(k:0<=a)(c:a<=b)(o:b<=l.length):
  ∃u,SH w0 M K w (bV hp j (.rd R u (cut l a b)))/\SlOk P T v a b l.length u:=by
 subst g;obtain⟨u,f,e⟩:=r_sl m (h.bB i n) k c o;exact⟨u,h.aK j e,f⟩
theorem SH.slS{α:Type}{R:lq α}{E:aT}{d:Nat}{a b:Int}{l:List α}(h:SH w0 M K w hp)(i j:Nat)(n:hp i=.sr R v l)(m:SliceOf P T E d)(g:R.sz=d)(k:0<=a)(c:a<=b)(o:b<=l.length):
  ∃u,SH w0 M K w (bV hp j (.sr R u (cut l a b)))/\SlOk P T v a b l.length u:=by
 subst g;obtain⟨u,f,e⟩:=r_sl m (h.srAt i n) k c o;exact⟨u,h.know j (fun _ h=>h) e,f⟩
theorem r_allocN{zs:List al}(a:wU P T zs):(bl ρ ⟨d,.alloc T,ty,pos,af,g⟩).run P w=.ok (.value (.pointer (aj ⟨w.heap.size,0,aw⟩))) (w.alloc (.cells zs.toArray T)):=by
 obtain⟨i,b,hz,c⟩:=Sg a.info;simp[bl,Instr.alloc,ju,dy,b,hz,newVar,qv,pc,kd,-hU]
theorem r_alloc1{z:al}(a:One P T z):(bl ρ ⟨d,.alloc T,ty,pos,af,g⟩).run P w=.ok (.value (.pointer (aj ⟨w.heap.size,0,aw⟩))) (w.alloc (.cells #[z] T)):=by
 obtain⟨i,b,hz,c⟩:=Sg a.info;simp[bl,Instr.alloc,ju,dy,b,hz,newVar,qv,a.cell,kd,-hU]
theorem r_box(a:ρ x=v):(bl ρ ⟨d,.box T x,ty,pos,af,g⟩).run P w=.ok (.value (.pointer (aj ⟨w.heap.size,0,aw⟩))) (w.alloc (.cells v.cells T)):=by
 simp[bl,Instr.box,newVar,qv,a,kd,-hU]
theorem SH.newB(h:SH w0 M K w hp)(i:Nat)(cs:List al)(T:aT):SH w0 M K (w.alloc (.cells cs.toArray T)) (bV hp i (.blk w.heap.size cs)):=
 h.learn i (Grow.alloc _ _) (fun b a=>ly a.symm) ⟨T,Pf _ _⟩
theorem aY{zs:List al}(h:SH w0 M K w hp)(i:Nat)(a:wU P T zs)(k:∀w' b,SH w0 M K w' (bV hp i (.blk b zs))->WL P ops Q rest n (gq env d (.pointer (aj ⟨b,0,aw⟩))) w'):WL P ops Q (⟨d,.alloc T,ty,pos,af,aw⟩::rest) n env w:=
 J (r_allocN a) (k _ _ (h.newB i zs T))
theorem yJ{z:al}(h:SH w0 M K w hp)(i:Nat)(a:One P T z)(k:∀w' b,SH w0 M K w' (bV hp i (.blk b [z]))->WL P ops Q rest n (gq env d (.pointer (aj ⟨b,0,aw⟩))) w'):WL P ops Q (⟨d,.alloc T,ty,pos,af,aw⟩::rest) n env w:=
 J (r_alloc1 a) (k _ _ (h.newB i [z] T))
theorem iI{cs:List al}(h:SH w0 M K w hp)(i:Nat)(a:ev n env x=v)(c:v.cells=cs.toArray)(k:∀w' b,SH w0 M K w' (bV hp i (.blk b cs))->WL P ops Q rest n (gq env d (.pointer (aj ⟨b,0,aw⟩))) w'):WL P ops Q (⟨d,.box T x,ty,pos,af,aw⟩::rest) n env w:=
 J (by rw[r_box a,c]) (k _ _ (h.newB i cs T))
theorem Si{z:al}{b o:Nat}{cs:Array al}{E:aT}(h:One P T z)(n:ρ x=.pointer (aj ⟨b,o,aw⟩))(c:w.heap[b]? =aj (.cells cs E (0,0)))(ho:o<cs.size)(j:ρ y=v)(e:v.oneCell'=ba):
  (bl ρ ⟨d,.store T x y,ty,pos,af,g⟩).run P w=.ok .skip (wV w b (.cells (cs.setIfInBounds o v) E (0,0))):=by
 obtain⟨i,m,hz,f⟩:=Sg h.info;have k:w.cell? ⟨b,o,aw⟩=aj cs[o]:=by simp[eW,c,ho]
 have l:w.frozen? ⟨b,o,aw⟩=false:=by simp[od,c]
 have a:v.cells= #[v]:=by cases v<;>first|rfl|simp[fc]at e
 rw[<-setCell_putb c];simp only[bl,sC,n,j,hS,storeVar,a,fu,dy];simp[m,f,storeCells,run_store _ _ _ _ _ e,k,l,gT]
theorem Sj{zs vs:List al}{b o:Nat}{cs:List al}{E:aT}(f:wU P T zs)(k:ρ x=.pointer (aj ⟨b,o,aw⟩))(a:w.heap[b]? =aj (.cells cs.toArray E (0,0)))(e:ρ y=.agg vs.toArray)(h:vs.length=zs.length)(ho:o+vs.length<=cs.length)(l:∀v∈vs,v.oneCell'=ba):
  (bl ρ ⟨d,.store T x y,ty,pos,af,g⟩).run P w=.ok .skip (wV w b (.cells (LZ cs o vs).toArray E (0,0))):=by
 obtain⟨i,j,hz,c⟩:=Sg f.info;have:=nt (P:=P) b o E vs 0 cs.toArray w a (by simpa using ho) l;simp only[bl,sC,k,e,hS,storeVar,pc,fu,dy];simp[j,c,h,this,Jq a,LZ]
theorem SH.putB{b:Nat}{cs:List al}(h:SH w0 M K w hp)(i:Nat)(d:hp i=.blk b cs)(a:List al)(E:aT):SH w0 M K (wV w b (.cells a.toArray E (0,0))) (bV hp i (.blk b a)):=by
 have e:=h.Ak i d;obtain⟨f,e⟩:=e;exact h.step i (bL.wV _ _ _) (fun x c _=>by rw[d];exact c) (fun x c _=>by rw[d];exact c) ⟨E,vM (iN e)⟩
theorem gM{z:al}{b o:Nat}{cs:List al}(h:SH w0 M K w hp)(i:Nat)(a:List al)(e:hp i=.blk b cs)(f:One P T z)(l:ev n env x=.pointer (aj ⟨b,o,aw⟩))(g:ev n env y=v)(ho:cs.set o v=a)(c:mX o cs.length=ba)(m:v.oneCell'=ba)
  (k:∀w',SH w0 M K w' (bV hp i (.blk b a))->WL P ops Q rest n (gq env d fR) w'):
  WL P ops Q (⟨d,.store T x y,ty,pos,af,aw⟩::rest) n env w:=by
 obtain⟨E,j⟩:=h.Ak i e;refine A9 (Si f l j (by rw[lx]at c;simpa using c) g m) (k _ ?_);have:=h.putB i e a E;subst ho;simpa using this
theorem w_stN{zs vs:List al}{b o:Nat}{cs:List al}(h:SH w0 M K w hp)(i:Nat)(a:List al)(e:hp i=.blk b cs)(l:wU P T zs)(j:ev n env x=.pointer (aj ⟨b,o,aw⟩))(f:ev n env y=.agg vs.toArray)(m:vs.length=zs.length)(ho:LZ cs o vs=a)(p:la (o+vs.length) cs.length=ba)(g:∀v∈vs,v.oneCell'=ba)
  (k:∀w',SH w0 M K w' (bV hp i (.blk b a))->WL P ops Q rest n (gq env d fR) w'):
  WL P ops Q (⟨d,.store T x y,ty,pos,af,aw⟩::rest) n env w:=by
 obtain⟨E,c⟩:=h.Ak i e;subst ho;exact A9 (Sj l j c f m (gw p) g)<|k _<|h.putB i e _ E
def Sk(P:ca)(f:fW):Prop:=∃a,P.funcs[f]? =aj a/\(a.name== "runtime.NumGoroutine")=aq/\a.body.isNone=aq
theorem r_call{f:fW}{first captured:Array al}{xs:Array bo}{h:Array aT}(l:Sk P f)(k:ρ x=.func (.func f) first captured):
  (bl ρ ⟨d,.call {callee:=.value x,args:=xs,argTypes:=h},ty,pos,af,g⟩).run P w=.ok (.enter f (first++xs.map ρ++captured)) w:=by
 obtain⟨c,j,i,m⟩:=l;have b:¬c.name= "runtime.NumGoroutine" :=by simpa using i
 have a:¬c.body=none:=fun e=>by simp[e]at m
 simp[bl,gZ,k,Deferred.ofValue,js,callFunc,j,b,a]
theorem bW{f:fW}{first captured:Array al}{xs:Array bo}{c:Array aT}{args:List al}{R:me->ao->Prop}(i:Sk P f)(g:ev n env x=.func (.func f) first captured)
  (a:first.toList++xs.toList.map (ev n env)++captured.toList=args) (b:bC P f args.toArray w R)
  (h:∀e w',R e w'->∃v,e=.returned v/\WL P ops Q rest n (gq env d v) w'):
  WL P ops Q (⟨d,.call {callee:=.value x,args:=xs,argTypes:=c},ty,pos,af,aw⟩::rest) n env w:=by
 refine wl_enter (r_call i g) ?_ h;have:first++xs.map (ev n env)++captured=args.toArray:=by
  rw[<-a];apply lb;simp
 rw[this];exact b
theorem dR{i:Nat}{vs:List al}(a:ρ x=.tuple vs.toArray)(b:vs[i]? =aj v):(bl ρ ⟨d,.extract x i,ty,pos,af,g⟩).run P w=.ok (.value v) w:=by
 simp[bl,Instr.extract,a,b]
theorem uX{f:fW}{first captured:Array bo}{c1 c2:List al}(e:first.toList.map ρ=c1)(b:captured.toList.map ρ=c2):
  (bl ρ ⟨d,.makeFunc (.func f) first captured,ty,pos,af,g⟩).run P w=.ok (.value (.func (.func f) c1.toArray c2.toArray)) w:=by
 have c:first.map ρ=c1.toArray:=by rw[<-e];apply lb;simp
 have a:captured.map ρ=c2.toArray:=by rw[<-b];apply lb;simp
 simp[bl,Instr.makeFunc,c,a]
theorem calls_start{f:fW}{a:sd}{c:Code}{args:List al}{R:me->ao->Prop}{n:Nat}
  (e:P.funcs[f]? =aj a) (d:a.body=aj c) (hn:a.ntmps=n) (b:args.length<=n)
  (h:WC P c (jj P a R) n (Ut args) w):bC P f args.toArray w R:=by
 refine calls_of_wp e d ?_;rw[hn,act_init n args b];exact h.out
theorem bg{a:sd}{R:me->ao->Prop}{t:Tmp}(b:a.results= #[.tmp t])(c:ev n env (.tmp t)=v)(h:R (.returned v) w):jj P a R .ret (act n env) w:=by
 refine⟨Z,v,?_,h⟩;rw[results_tmp b];have:=congrFun (gP n env)<|.tmp t;rw[c]at this;exact congrArg (fun v=>qe v w) this
theorem fin0{a:sd}{R:me->ao->Prop}(b:a.results= #[])(h:R (.returned (.tuple #[])) w):jj P a R .ret (act n env) w:=⟨rfl,_,results_none b _ _ _,h⟩
theorem Sl{a:sd}{R:me->ao->Prop}(b:a.results= #[])(h:R (.returned (.tuple #[])) w):jj P a R .normal (act n env) w:=⟨rfl,_,results_none b _ _ _,h⟩
theorem vN{c:sd}{R:me->ao->Prop}{t u:Tmp}{v1 v2:al}(d:c.results= #[.tmp t,.tmp u])(f:ev n env (.tmp t)=v1)(e:ev n env (.tmp u)=v2)(h:R (.returned (.tuple #[v1,v2])) w):jj P c R .ret (act n env) w:=by
 refine⟨Z,_,?_,h⟩;rw[results_tmp2 d];have a:=congrFun (gP n env)<|.tmp t;have b:=congrFun (gP n env)<|.tmp u;rw[f]at a;rw[e]at b;simp only[hQ]at a b;rw[a,b]
end
section
variable{α β σ ρ:Type}{r:ρ}{G:Prop}
theorem lg{b:Bool}{X a:ρ}(c:cond b X a=r)(d:b=ba->X=r->G)(e:b=aq->a=r->G):G:=by
  cases b
  · exact e Z c
  · exact d Z c
theorem az{o:Option α}{f:α->Option β}{r:β}(h:o.bind f=aj r):∃x,o=aj x/\f x=aj r:=by
 cases o with
 |none=>cases h
 |some x=>exact⟨x,rfl,h⟩
def iy(p:Prop) [Decidable p](x:Option β):Option β:=if p then x else aw
theorem bD{p:Prop} [Decidable p]{x:Option β}{r:β}(h:iy p x=aj r):p/\x=aj r:=by
  unfold iy at h;by_cases hp:p
  · rw[if_pos hp]at h;exact⟨hp,h⟩
  · rw[if_neg hp]at h;cases h
def idx(l:List α)(k:Int):Option α:=if 0<=k then l[k.toNat]? else aw
theorem aF{l:List α}{k:Int}{x:α}(h:idx l k=aj x):0<=k/\l[k.toNat]? =aj x:=by
  unfold idx at h;by_cases hp:0<=k
  · rw[if_pos hp]at h;exact⟨hp,h⟩
  · rw[if_neg hp]at h;cases h
def sub?(l:List α)(a b:Int):Option (List α):=if 0<=a/\a<=b/\b<=l.length then aj (cut l a b)else aw
theorem Nb{l:List α}{a b:Int}{x:List α}(h:sub? l a b=aj x):x=cut l a b/\0<=a/\a<=b/\b<=l.length:=by
  unfold sub? at h;by_cases hp:0<=a/\a<=b/\b<=l.length
  · rw[if_pos hp]at h;cases h;exact⟨Z,hp⟩
  · rw[if_neg hp]at h;cases h
def kr(x:Int):Prop:= -9223372036854775808<=x/\x<=9223372036854775807
def i64b:Int->Bool
 | .ofNat n=>la n 9223372036854775807
 | .negSucc n=>la n 9223372036854775807
theorem i64b_iff{x:Int}:i64b x=ba↔kr x:=by
 unfold kr;cases x with
 |ofNat n=>simp[i64b,Nat.ble_eq];omega
 |negSucc n=>simp[i64b,Nat.ble_eq];omega
instance (x:Int):Decidable (kr x):=decidable_of_iff (i64b x=ba) i64b_iff
theorem kr.mk{x:Int}(a: -9223372036854775808<=x)(b:x<=9223372036854775807):kr x:=⟨a,b⟩
def each(body:α->σ->(σ->ρ)->ρ)(k:σ->ρ):List α->σ->ρ
 |[],s=>k s
 |x::r,s=>body x s (each body k r)
def gW(body:Int->α->σ->(σ->ρ)->ρ)(k:σ->ρ):Int->List α->σ->ρ
 |_,[],s=>k s
 |i,x::r,s=>body i x s (gW body k (i+1) r)
def upto(body:Int->σ->(σ->ρ)->ρ)(k:σ->ρ):Int->Nat->σ->ρ
 |_,0,s=>k s
 |i,m+1,s=>body i s (upto body k (i+1) m)
def again(body:σ->(σ->Option β)->Option β):Nat->σ->Option β
 |0,_=>aw
 |n+1,s=>body s (again body n)
end
section
variable{P:ca}{Q:fi->Act->ao->Prop}{n:Nat}{env:Nat->al}{w:ao}{x y:Code}
theorem aA{ρ:Type}{r X a:ρ}{c:bo}{b:Bool}(d:cond b X a=r)(e:ev n env c=.bool b)(g:b=ba->X=r->WC P x Q n env w)(f:b=aq->a=r->WC P y Q n env w):
 WC P (oS c x y) Q n env w:=eP e (fun h=>g h (by rw[h]at d;exact d)) (fun h=>f h (by rw[h]at d;exact d))
def JP{σ:Type}(n:Nat)(mod:Nat->Bool)(Ut:Nat->al)(live:σ->List (Nat×al))(J:σ->ao->Prop):Act->ao->Prop:=
 fun a' w'=>∃s e,a'=act n e/\Jj mod e Ut/\Holds e (live s)/\J s w'
def JL{σ:Type}(n:Nat)(mod:Nat->Bool)(Ut:Nat->al)(live:σ->List (Nat×al))(J:σ->ao->Prop)(a:σ->Nat)(b:σ):Act->ao->Prop:=
 fun a' w'=>∃s e,a'=act n e/\Jj mod e Ut/\Holds e (live s)/\J s w'/\a s<a b
theorem eX{σ:Type}{c:Code}(mod:Nat->Bool)(live:σ->List (Nat×al))(J:σ->ao->Prop)(d:σ->Nat)(b:σ)
 (g:Holds env (live b)) (f:J b w)
 (a:∀s e h,J s e->WC P c (Exit.then (JL n mod env live J d s) Q) n (upds (hav mod h env) (live s)) e):
 WC P (rl c) Q n env w:=wc_loop mod live J d b g f a
theorem bT{σ:Type}(mod:Nat->Bool)(live:σ->List (Nat×al))(J:σ->ao->Prop)
  (c:∀s w f,J s w->WC P y Q n (upds (hav mod f env) (live s)) w)
  (h:WC P x (Exit.then (JP n mod env live J) Q) n env w):WC P (Code.seq x y) Q n env w:=by
 refine aC ⟨wp_mono h.out fun g a w h=>?_⟩;cases g with
 |normal=>
  obtain⟨s,e,rfl,d,i,b⟩:=h;have:=c s w e b;rw[hav_self d,Uu _ i]at this;exact this.out
 |_=>exact h
end
section
variable{K:Act->ao->Prop}{Q:fi->Act->ao->Prop}{a:Act}{w:ao}{i j:Nat}
theorem ag(h:K a w):Exit.then K Q .normal a w:=h
theorem ai(h:Q .ret a w):Exit.then K Q .ret a w:=h
theorem bS(h:Q (.exit i) a w):Exit.then K Q (.exit i) a w:=h
theorem ak(h:Q .normal a w):hY i Q .normal a w:=h
theorem aD(h:Q .ret a w):hY i Q .ret a w:=h
theorem eG(h:Q .normal a w):hY i Q (.exit i) a w:=by simp only[hY,if_true];exact h
theorem Ej(hn:¬j=i)(h:Q (.exit j) a w):hY i Q (.exit j) a w:=by simp only[hY,if_neg hn];exact h
end
theorem Jj.os{mod:Nat->Bool}{e a:Nat->al}{d:Nat}{v:al}(b:mod d=ba)(h:Jj mod e a):Jj mod (gq e (aj d) v) a:=Jj.upd b h
theorem Jj.on{mod:Nat->Bool}{e a:Nat->al}{v:al}(h:Jj mod e a):Jj mod (gq e aw v) a:=h
theorem Jj.uc{mod:Nat->Bool}{e a:Nat->al}{d:Nat}{v:al}{l:List (Nat×al)}(b:mod d=ba)(h:Jj mod (upds e l) a):Jj mod (upds e ((d,v)::l)) a:=Jj.upd b h
theorem Jj.un{mod:Nat->Bool}{e a:Nat->al}(h:Jj mod e a):Jj mod (upds e []) a:=h
def inl(l:List Nat)(i:Nat):Bool:=match l with|[]=>aq|a::r=>bif fv i a then ba else inl r i
def subl(l m:List Nat):Bool:=match l with|[]=>ba|a::r=>bif inl m a then subl r m else aq
theorem subl_inl{m:List Nat}:∀{l:List Nat},subl l m=ba->∀i,inl l i=ba->inl m i=ba
 |[],_,i,h=>by simp[inl]at h
 |a::r,hs,i,h=>by
  unfold subl at hs;unfold inl at h;cases ha:inl m a with
  |false=>simp[ha]at hs
  |true=>
   simp only[ha,cond_true]at hs;cases hb:fv i a with
   |true=>have:=gj hb;subst this;exact ha
   |false=>simp only[hb,cond_false]at h;exact subl_inl hs i h
theorem Jj.hin{l m:List Nat}{j e a:Nat->al}(c:subl l m=ba)(h:Jj (inl m) e a):Jj (inl m) (LX.hav (inl l) j e) a:=fun i b=>by
 have:inl l i=false:=by
  cases hc:inl l i with
  |false=>rfl
  |true=>rw[subl_inl c i hc]at b;cases b
 simp only[LX.hav,this,cond_false];exact h i b
open Go.RowKit
theorem ed.row{α:Type}{R:lq α}{w:ao}{B A:BS}{v:al}{l:List α}(h:ed R w B A v l):
    (v=.slice aw 0 0/\l=[])\/∃(a:kq) (cap:Nat) (news:List al),v=.slice (aj a) l.length cap/\news.length=l.length*R.sz/\(∀j u,news[j]? =aj u->w.cell? (a.add j)=aj u)/\(∀u∈news,u.oneCell'=ba)/\
      ∀i (h:i<l.length),R.rd w A ((news.drop (i*R.sz)).take R.sz) l[i]:=by
  obtain⟨a,cap,rfl,O,K,F,s⟩:=h;cases a with
  |none=>
    have z:=F Z;subst z;have r:l=[]:=cl V;subst r;exact .inl ⟨Z,Z⟩
  |some a=>
    right;by_cases r:l.length=0
    · have:l=[]:=cl r;subst this;exact⟨a,cap,[],Z,by simp,fun j u h=>by simp at h,fun u h=>by simp at h,fun i h=>absurd h<|eN _⟩
    · obtain⟨b,o,cells,E,G,q,I,x,N⟩:=s 0 V;cases q;have e:∀i (f:i<l.length),R.rd w A ((cells.toList.drop<|o+i*R.sz).take R.sz) l[i]:=by
        intro i f;obtain⟨b',L,n,M,y,q,_,m,p⟩:=s i f;cases q;rw[x]at m;cases m;exact p
      have d:=R.len<|e (l.length-1) V;simp only[cd,cL,ct]at d;have g:=R.pos;have t:o+l.length*R.sz<=cells.size:=by
        have P:l.length*R.sz=(l.length-1)*R.sz+R.sz:=by
          conv=>lhs;rw[show l.length=(l.length-1)+1 by omega]
          rw[cj,nh]
        omega
      refine⟨⟨b,o,aw⟩,cap,(cells.toList.drop o).take<|l.length*R.sz,Z,?_,?_,?_,?_⟩
      · simp only[cd,cL,ct];omega
      · intro j u c;rw[cg]at c;split at c
        · rw[cw]at c;have C:(⟨b,o,aw⟩:kq).add j=⟨b,o+j,aw⟩:=by unfold gT;split<;>simp_all
          rw[C];simpa[eW,x]using c
        · cases c
      · intro u c;obtain⟨j,k⟩:=List.getElem?_of_mem c;rw[cg]at k;split at k
        · next hlt=>
          rw[cw]at k;have f:j / R.sz<l.length:=pD (by rw[mY];exact hlt);refine R.one (e (j / R.sz) f) u ?_;refine List.mem_of_getElem? (i:=j%R.sz) ?_;rw[cg,if_pos (mE _ g),cw];rw[show o+j / R.sz*R.sz+j%R.sz=o+j by rw[jt,Nat.div_add_mod' j R.sz]];exact k
        · cases k
      · intro i f;rw[en,ee,lP,cS]
        · exact e i f
        · have:(i+1)*R.sz<=l.length*R.sz:=bd _ f;rw[cj]at this;omega
theorem fill_fold(c:List al):∀(cells:Array al) (o:Nat),o+c.length<=cells.size->
  (c.zipIdx.foldl (fun cs(p:al×Nat)=>cs.setIfInBounds (o+p.2) p.1) cells).toList=LZ cells.toList o c:=by
 suffices a:∀(k:Nat) (cells:Array al) (o:Nat),o+k+c.length<=cells.size->
   ((c.zipIdx k).foldl (fun cs(p:al×Nat)=>cs.setIfInBounds (o+p.2) p.1) cells).toList=LZ cells.toList (o+k) c by
  intro cells o h;have:=a 0 cells o (by simpa using h);simpa using this
 induction c with
 |nil=>intro k cells o h;simp[LZ]
 |cons x r ih=>
  intro k cells o h;simp only[bq]at h;rw[rm,List.foldl_cons,ih (k+1) _ o (by simp;omega)];simp only[jx,LZ];rw[show o+(k+1)=o+k+1 by omega];apply di;intro i;simp only[cf,gx,cd,cp,ct,cg,fg,cw,bq,List.getElem?_cons]
  grind
theorem XU{a:Nat}(hz:0<a):∀(vs:List al) (k:Nat) (cells:Array al),(∀v∈vs,v.cells.size=a)->(k+vs.length)*a<=cells.size->
    ∃out,jz (fun i=>aj (i*a,a)) cells ((vs.zipIdx k).map fun p=>(p.2,p.1))=aj out/\out.toList=LZ cells.toList (k*a) (vs.map fun v=>v.cells.toList).flatten
  |[],k,cells,_,_=>⟨cells,rfl,by simp[LZ]⟩
  |v::r,k,cells,hv,hs=>by
    have e:v.cells.size=a:=hv v zq3;simp only[bq]at hs;have g:(k+1+r.length)*a<=cells.size:=by rw[show k+1+r.length=k+(r.length+1) by omega];exact hs
    have l:k*a+a<=cells.size:=by
      have:(k+1)*a<=(k+1+r.length)*a:=bd _ V;rw[cj,nh]at this;omega
    have m:=fill_fold v.cells.toList cells (k*a) (by rw[ct,e];exact l);let c2:=v.cells.zipIdx.foldl (fun cs(p:al×Nat)=>cs.setIfInBounds (k*a+p.2) p.1) cells;have b:c2.toList=LZ cells.toList (k*a) v.cells.toList:=by
      rw[<-m];show(v.cells.zipIdx.foldl _ cells).toList=_;rw[<-pH,pw]
    have h:c2.size=cells.size:=by
      have:=congrArg fb b;simp only[LZ,bc,cd,cL,ct]at this;omega
    obtain⟨out,f,d⟩:=XU hz r (k+1) c2 (fun x j=>hv x (by simp[j])) (by rw[h];exact g);refine⟨out,?_,?_⟩
    · rw[rm,ck];unfold jz;simp only[e,ne_eq,not_true_eq_false,decide_false,Bool.false_or];rw[if_neg (by simp;omega)];exact f
    · rw[d,b];simp only[ck,kj,LZ];rw[show(k+1)*a=k*a+a by rw[cj,nh]];have n:v.cells.toList.length=a:=by rw[ct,e]
      generalize v.cells.toList=c at*;generalize (r.map fun v=>v.cells.toList).flatten=q;apply di;intro i;simp only[cf,gx,cd,ct,bc,cg,cw,cL]
      grind
def Kw{α:Type}(R:lq α)(w:ao)(A:BS):List al->List α->Prop
 |[],[]=>True
 |v::vs,x::xs=>R.rd w A v.cells.toList x/\Kw R w A vs xs
 |_,_=>False
theorem Kw.len{α:Type}{R:lq α}{w:ao}{A:BS}:∀{vs:List al} {xs:List α},Kw R w A vs xs->vs.length=xs.length
 |[],[],_=>rfl
 |v::vs,x::xs,h=>by simp[Kw.len h.2]
 |[],_::_,h=>h.elim
 |_::_,[],h=>h.elim
theorem Kw.sizes{α:Type}{R:lq α}{w:ao}{A:BS}:∀{vs:List al} {xs:List α},Kw R w A vs xs->∀v∈vs,v.cells.size=R.sz
  |[],[],_=>by simp
  |v::vs,x::xs,h=>by
    intro u a;rcases bn.1 a with rfl|a
    · have:=R.len h.1;simpa using this
    · exact Kw.sizes h.2 u a
  |[],_::_,h=>h.elim
  |_::_,[],h=>h.elim
theorem flat_len{a:Nat}:∀{vs:List al},(∀v∈vs,v.cells.size=a)->(vs.map fun v=>v.cells.toList).flatten.length=vs.length*a
 |[],_=>by simp
 |v::r,h=>by
  have d:=h v zq3;have b:=flat_len fun u c=>h u<|bk _ c;simp only[ck,kj,bc,b,ct,d,bq,cj];omega
theorem Kw.at{α:Type}{R:lq α}{w:ao}{A:BS}:∀{vs:List al} {xs:List α},Kw R w A vs xs->∀i (h:i<xs.length),R.rd w A (((vs.map fun v=>v.cells.toList).flatten.drop (i*R.sz)).take R.sz) xs[i]
 |[],[],_,i,h=>absurd h (eN _)
 |v::vs,x::xs,h,i,hi=>by
  have a:v.cells.toList.length=R.sz:=R.len h.1;cases i with
  |zero=>
   simp only[ck,kj,pd,ke,List.getElem_cons_zero];rw[cH V,ia V];exact h.1
  |succ i=>
   have:=Kw.at h.2 i (by simpa using hi);simp only[ck,kj,List.getElem_cons_succ];rw[ix,cC (by rw[a,cj];omega),cF,a,show(i+1)*R.sz-R.sz=i*R.sz by rw[cj];omega];exact this
 |[],_::_,h,_,_=>h.elim
 |_::_,[],h,_,_=>h.elim
structure Struct(P:ca)(T:aT)(zs:List al)(pl:List (Nat×Nat)):Prop where
  zero:(P.info? T).map (·.zero)=aj (aj (.agg zs.toArray))
  desc:∃fs,P.underlying T=aj (.struct fs)/\fs.toList.map (fun f=>(f.offset,(P.info? f.type).map (·.size)))=pl.map (fun p=>(p.1,aj p.2))
def FillOk(pl:List (Nat×Nat))(cs:List al):List (Nat×al)->List al->Prop
 |[],out=>cs=out
 |(i,v)::r,out=>∃off a vs,pl[i]? =aj (off,a)/\v.cells.toList=vs/\vs.length=a/\off+a<=cs.length/\FillOk pl (LZ cs off vs) r out
theorem fill_ok{pl:List (Nat×Nat)}:∀{a:List (Nat×al)} {cs out:List al},FillOk pl cs a out->jz (fun i=>pl[i]?) cs.toArray a=aj out.toArray
 |[],cs,out,h=>by cases h;rfl
 |(i,v)::r,cs,out,h=>by
  obtain⟨off,b,vs,j,f,e,g,k⟩:=h;unfold jz;simp only[j];have c:v.cells.size=b:=by rw[<-e,<-f,ct]
  rw[if_neg (by simp[c];omega)];have l:=fill_fold vs cs.toArray off (by rw[e];simpa using g);have:(v.cells.zipIdx.foldl (fun cs(p:al×Nat)=>cs.setIfInBounds (off+p.2) p.1) cs.toArray)=(LZ cs off vs).toArray:=by
   apply lb;rw[<-pH,pw,f];exact l
  have d:=fill_ok k;rw[<-this]at d;exact d
section
variable{P:ca}{ops:Array ei}{Q:fi->Act->ao->Prop}{n:Nat}{env:Nat->al}{w w' w0:ao}{M K:BS}{hp:Nat->Chunk}{rest:List ei}
 {d:Option Nat} {op:Op} {ty:aT} {pos:String} {af:Array hF} {v:al} {g:Option (Nat×Bool)} {T:aT} {ρ:bo->al} {x y:bo}
theorem Ba(h:w.grownBy w' v.ownBlock):bL (ob v) w w':=
 ⟨h.os,h.tape,h.output,h.size,fun b c a=>h.block b a (fun e=>c (ob_row.2 e.symm))⟩
theorem Qp{E:aT}{j b:Nat}{a:Option kq}{l c:Nat}(e:kg P T E j b)(m:ρ x=.slice a l c)(h:l<=c)(f:ρ y=.slice aw 0 0):
  (bl ρ ⟨d,.call {callee:=.builtin .append,args:= #[x,y],argTypes:= #[T,T]},ty,pos,af,g⟩).run P w=.ok (.value (.slice a l c)) w:=by
 obtain⟨i,z,k,hz,n,_,_⟩:=e.info;cases a<;>simp[bl,gZ,js,iS,m,f,gC,cA,e.desc,fu,dy,k,nv,h,mj,storeCells]
theorem run_app{α:Type}{R:lq α}{E:aT}{sz f:Nat}{A:BS}{u:al}{l m:List α}(n:kg P T E sz f)(q:R.sz=sz)(Q:ρ x=v)(hv:bZ R E w A v l)(hy:ρ y=u)(hu:ed R w BE A u m)
    (hA:∀b,ob v b->A b) (a:(l.length+m.length)*f<=140737488355328) (hm:l.length+m.length<=9223372036854775807):
    ∃p w',(bl ρ ⟨d,.call {callee:=.builtin .append,args:= #[x,y],argTypes:= #[T,T]},ty,pos,af,g⟩).run P w=.ok (.value p) w'/\bZ R E w' A p (l++m)/\bL (ob v) w w'/\(∀b,ob p b->b<w.heap.size->ob v b):=by
  subst q;have a0:=hv;obtain⟨xs,B,h3⟩:=hv;rcases hu.row with⟨rfl,rfl⟩|⟨ad,c,news,rfl,n1,n2,n3,n4⟩
  · have hw:(bl ρ ⟨d,.call {callee:=.builtin .append,args:= #[x,y],argTypes:= #[T,T]},ty,pos,af,g⟩).run P w=.ok (.value v) w:=by
      rcases B.2 with⟨rfl,hn⟩|⟨gg,cap,cur,rfl,_,_,hc,_⟩
      · exact Qp n Q (bt _) hy
      · exact Qp n Q hc hy
    exact⟨v,w,hw,by simpa using a0,bL.refl _ _,fun _ a _=>a⟩
  · obtain⟨i,z,N,hz,q,s,a1⟩:=n.info;obtain⟨p,w',k,K,hg,_⟩:=run_append_own (P:=P) w 0 T ty E i z R.sz f n.desc N hz q s a1 R.pos v l.length xs B ad m.length c news n1 n2 n3 (by unfold ks;omega) a (fx _);have X:=Ba hg;have o:∀b,ob p b->b<w.heap.size->ob v b:=by
      rcases B.2 with⟨rfl,hn⟩|⟨gg,cap,cur,rfl,_,hgg,hc,hcm,hcs,htake⟩
      · by_cases F:m.length=0
        · have t:news=[]:=cl (by rw[n1,F];simp);subst t;have e:(gC #[T,T] ty #[.slice aw 0 0,.slice (aj ad) m.length c]).run P w=.ok (.slice aw 0 0) w:=by
            simp[gC,cA,n.desc,fu,dy,N,nv,F,mj,loadCells,loadCellsFrom]
          rw[e]at k;cases k;exact fun b a _=>a
        · have e:=run_append_nil (P:=P) w T ty E i z n.desc N hz ad m.length c news (by rw[q];exact n1) n2 V V (by rw[s];have:=a;rw[cj]at this;omega);rw[e]at k;cases k;intro b a C;simp[ob]at a;omega
      · by_cases h:l.length+m.length<=cap
        · have L:l.length*i.size+news.length<=cur.size:=by rw[n1,q,hcs,<-cj];exact bd _ h
          have e:=run_append_room (P:=P) w T ty E i n.desc N gg l.length cap cur hgg ad m.length c news (by rw[q];exact n1) n2 n3 h L;rw[e]at k;cases k;exact fun b a _=>a
        · have holds:∀j u,xs[j]? =aj u->w.cell? ((⟨gg,0,aw⟩:kq).add j)=aj u:=B.cells (g:=gg) Z;have e:=run_append_grow (P:=P) w T ty E i z n.desc N hz ⟨gg,0,aw⟩ l.length cap xs (by rw[q];exact B.1) holds ad m.length c news (by rw[q];exact n1) n2 V V (growslice_fits V (by rw[s];exact a));rw[e]at k;cases k;intro b a C;simp[ob]at a;omega
    have G:(bl ρ ⟨d,.call {callee:=.builtin .append,args:= #[x,y],argTypes:= #[T,T]},ty,pos,af,g⟩).run P w=.ok (.value p) w':=by
      simp only[bl,gZ,js,iS,cv,da,bp,fL,ck,et,Q,hy,k]
    refine⟨p,w',G,⟨xs++news,by rw[bc];exact K,?_⟩,X,o⟩;intro i O;have I:=B.1;have M:∀b,A b\/ob p b->b<w.heap.size->A b\/ob v b:=fun b a C=>a.imp id fun a=>o b a C;by_cases r:i<l.length
    · have h5:=R.go (h3 i r) X (fun b a _=>.inr a) M;have S:(i+1)*R.sz<=l.length*R.sz:=bd _ r;rw[cj]at S;rw[eR r,fS V,cH (by rw[cL];omega)];exact h5
    · rw[bc]at O;have h5:=R.go (n4 (i-l.length) V) X (fun b a _=>hA b a) fun b a C=>(M b a C).elim id<|hA b;rw[fj V,ix,cC (by rw[I];exact bd _ V),cF,I,<-nj];exact h5
theorem SH.Br{α:Type}{R:lq α}{E:aT}(h:SH w0 M K w hp)(i:Nat):SH w0 M K w (bV hp i (.own R E (.slice aw 0 0) ([]:List α))):=
 h.learn i (bL.refl BE w) (fun _ h=>h.elim) bZ.nil
theorem kS{α:Type}{R:lq α}{E:aT}{j c:Nat}{u:al}{l m:List α}(h:SH w0 M K w hp)(i:Nat)(f:hp i=.own R E v l)(G:ed R w BE (SH.A M hp) u m)(B:kg P T E j c)(t:R.sz=j)(r:ev n env x=v)(z:ev n env y=u)
    (a:(l.length+m.length)*c<=140737488355328) (s:l.length+m.length<=9223372036854775807)
    (k:∀w' e,SH w0 M K w' (bV hp i (.own R E e (l++m)))->WL P ops Q rest n (gq env d e) w'):
    WL P ops Q (⟨d,.call {callee:=.builtin .append,args:= #[x,y],argTypes:= #[T,T]},ty,pos,af,aw⟩::rest) n env w:=by
  obtain⟨e,w',q,p,C,o⟩:=run_app (d:=d) (ty:=ty) (pos:=pos) (af:=af) (g:=aw) B t r (h.bI i f) z G (fun b a=>.inr ⟨i,by rw[f];exact a⟩) a s;refine J q (k w' e (h.step i C (fun b a _=>by rw[f];exact a) (fun b a F=>by rw[f];exact o b a F) ?_));refine bZ.go p (bL.refl BE w') (fun _ h=>h.elim) (fun _ h=>h.elim) fun b a _=>?_;rcases a with a|a|a
  · exact .inl<|.inl a
  · exact .inl<|.inr<|lu a
  · exact .inr a
theorem run_bs{α:Type}{R:lq α}{E:aT}{M m:Nat}{A:BS}{a:Array (Nat×bo)}{len:Nat}{vs:List al}{xs:List α}(L:kg P T E M m)(hs:R.sz=M)
    (S:(a.toList.map fun p=>(p.1,ev n env p.2))=vs.zipIdx.map fun p=>(p.2,p.1)) (r:vs.length=len) (I:Kw R w A vs xs) (hA:∀b,A b->b<w.heap.size) (X:len*M<=16777216):
    ∃u w',(bl (ev n env) ⟨d,.buildSlice T len a,ty,pos,af,g⟩).run P w=.ok (.value u) w'/\Grow w w'/\bZ R E w' A u xs/\∀b,ob u b->w.heap.size=b:=by
  subst hs;subst r;obtain⟨i,z,O,hz,t,Q,a0⟩:=L.info;have e:=I.sizes;have o:=I.len;let zero:Array Value:=if vs.length*R.sz=0 then #[]else z.cells
  let c:Array Value:=(lO (vs.length*R.sz)).map (zero[· %zero.size]!);have j:c.size=vs.length*R.sz:=by simp[c]
  obtain⟨out,C,N⟩:=XU R.pos vs 0 c e (by rw[j];simp);have f:=flat_len e;have q:out.toList=(vs.map fun v=>v.cells.toList).flatten:=by
    rw[N,pd];simp only[LZ,List.take_zero,cF,fY];rw[cC (by rw[ct,j,f];omega),List.append_nil]
  have k:out.size=vs.length*R.sz:=by rw[<-ct,q,f]
  have B:(a.map fun p=>(p.1,ev n env p.2)).toList=vs.zipIdx.map fun p=>(p.2,p.1):=by simpa using S
  have y:(bl (ev n env) ⟨d,.buildSlice T vs.length a,ty,pos,af,g⟩).run P w=.ok (.value<|.slice (aj ⟨w.heap.size,0,aw⟩) vs.length vs.length) (w.alloc<|.cells out E):=by
    simp only[bl,Instr.buildSlice,cA,fu,dy];have G:¬(vs.length*R.sz>2 ^ 24):=by omega
    by_cases s:vs.length*R.sz=0
    · simp only[cv,fI,bp,L.desc,da,O,t,pK,s,if_true];have:out= #[]:=Array.eq_empty_of_size_eq_zero (by rw[k,s]);have K:jz (fun i=>aj (i*R.sz,R.sz)) ((lO 0).map fun x=>(#[]:Array al)[x%(#[]:Array al).size]!) (a.map fun p=>(p.1,ev n env p.2)).toList=aj out:=by
        rw[B];have:c=(lO 0).map (fun x=>(#[]:Array al)[x%(#[]:Array al).size]!):=by simp[c,s]
        rw[<-this];exact C
      rw[K];simp[qv,kd,-hU]
    · simp only[cv,fI,bp,L.desc,da,O,t,pK,if_neg G,s,if_false,ju,dy,hz];have K:jz (fun i=>aj (i*R.sz,R.sz)) ((lO<|vs.length*R.sz).map fun x=>z.cells[x%z.cells.size]!) (a.map fun p=>(p.1,ev n env p.2)).toList=aj out:=by
        rw[B];have:c=(lO<|vs.length*R.sz).map (fun x=>z.cells[x%z.cells.size]!):=by simp[c,zero,s]
        rw[<-this];exact C
      rw[K];simp[qv,kd,-hU]
  refine⟨_,_,y,Grow.alloc _ _,⟨out.toList,⟨by rw[ct,k,o],.inr ⟨w.heap.size,vs.length,out,by rw[o],fx _,Pf _ _,by omega,?_,k,?_⟩⟩,?_⟩,?_⟩
  · unfold ks;have:vs.length<=vs.length*R.sz:=ld _ R.pos;omega
  · rw[ia];rw[ct,k,o];exact bt _
  · intro i F;have h5:=R.go (A':=fun b=>A b\/ob (.slice (aj ⟨w.heap.size,0,aw⟩) vs.length vs.length) b) (I.at i F) (Grow.alloc w (.cells out E)) (fun _ h=>h.elim) (fun b l hl=>by
      rcases l with l|l
      · exact l
      · simp[ob]at l;omega)
    rw[q];exact h5
  · intro b l;simp[ob]at l;exact l.symm
theorem qC{α:Type}{R:lq α}{E:aT}{j c:Nat}{a:Array (Nat×bo)}{len:Nat}{vs:List al}{xs:List α}(h:SH w0 M K w hp)(i:Nat)(t:kg P T E j c)(s:R.sz=j)
  (q:(a.toList.map fun p=>(p.1,ev n env p.2))=vs.zipIdx.map fun p=>(p.2,p.1)) (e:vs.length=len) (r:Kw R w (SH.A M hp) vs xs) (f:la (len*j) 16777216=ba)
  (k:∀w' u,SH w0 M K w' (bV hp i (.own R E u xs))->WL P ops Q rest n (gq env d u) w'):
  WL P ops Q (⟨d,.buildSlice T len a,ty,pos,af,aw⟩::rest) n env w:=by
 obtain⟨u,w',o,m,v,l⟩:=run_bs (d:=d) (ty:=ty) (pos:=pos) (af:=af) (g:=aw) t s q e r h.lt<|gw f;exact J o<|k w' u<|h.ui i m v fun b x=>ly<|l b x
theorem run_places{P:ca}{w:ao}:∀(a:List Field) (pl:List (Nat×Nat)),a.map (fun f=>(f.offset,(P.info? f.type).map (·.size)))=pl.map (fun p=>(p.1,aj p.2))->
    (a.mapM (m:=Sem) fun f=>do pure (f.offset,<-fu f.type)).run P w=.ok pl w
  |[],[],_=>rfl
  |[],_::_,h=>by simp at h
  |_::_,[],h=>by simp at h
  |f::a,p::pl,h=>by
    simp only[ck,List.cons.injEq,ic]at h;obtain⟨⟨j,c⟩,g⟩:=h;have d:=run_places (w:=w) a pl g;obtain⟨i,b,e⟩:∃i,P.info? f.type=aj i/\i.size=p.2:=by
      cases b:P.info? f.type with
      |none=>simp[b]at c
      |some i=>simp[b]at c;exact⟨i,Z,c⟩
    rw[mu];simp only[cv,fu,dy,fI,bp,b,da,e,j];simp only[fu,dy]at d;rw[d];simp
theorem oJ{zs out:List al}{pl:List (Nat×Nat)}{a:Array (Nat×bo)}{pv:List (Nat×al)}(o:Struct P T zs pl)(hp:(a.toList.map fun p=>(p.1,ρ p.2))=pv)(q:FillOk pl zs pv out):
  (bl ρ ⟨d,.build T a,ty,pos,af,g⟩).run P w=.ok (.value (.agg out.toArray)) w:=by
 obtain⟨n,h,k⟩:=o.desc;obtain⟨i,c,hz⟩:∃i,P.info? T=aj i/\i.zero=aj (.agg zs.toArray):=by
  have:=o.zero;cases c:P.info? T with
  |none=>simp[c]at this
  |some i=>simp[c]at this;exact⟨i,Z,this⟩
 have r:=run_places (w:=w) n.toList pl k;have l:(n.mapM (m:=Sem) fun f=>do pure (f.offset,<-fu f.type)).run P w=.ok pl.toArray w:=by
  rw[Array.mapM_eq_mapM_toList];simp only[Sem.run_map,r,bp]
 have j:(a.map fun p=>(p.1,ρ p.2)).toList=pv:=by rw[<-hp];simp
 have b:=fill_ok q;simp only[bl,Instr.build,ju,dy,cA];simp only[cv,fI,bp,c,da,hz,h,l,j,pc];have e:(fun(x:Nat)=>pl.toArray[x]?)=fun(i:Nat)=>pl[i]? :=by funext x;simp
 rw[e,b];simp
def isNil:al->Bool| .slice aw _ _=>ba|_=>aq
theorem EX{α:Type}{R:lq α}{T2 E:aT}{h:Nat}{B A:BS}{l:List α}{f:ao}(k:SliceOf P T E h)(j:ρ x=v)(i:ed R f B A v l)(e:ρ y=.slice aw 0 0):(bl ρ ⟨d,.binOp .eql T x y T2,ty,pos,af,g⟩).run P w=.ok (.value (.bool (isNil v))) w:=by
 obtain⟨a,cap,rfl,o,n,p,m⟩:=i;have b:∀a l c,(oA Op.maxDepth T (.slice a l c)<|.slice aw 0 0).run P w=.ok a.isNone w:=by
  intro a l c;show(oA (9999+1) T (.slice a l c)<|.slice aw 0 0).run P w=_;unfold oA;simp only[cv,cA,fI,bp,k.desc,da];cases a<;>simp
 cases a<;>simp[bl,j,e,gk,kp,isNil,Op.equal,b]
theorem pR{α:Type}{R:lq α}{B A:BS}{l:List α}(d:ed R w B A v l)(h:isNil v=ba):v=.slice aw 0 0/\l=[]:=by
 obtain⟨a,cap,rfl,g,f,c,e⟩:=d;cases a with
 |none=>
  have:=c Z;subst this;have b:l.length=0:=by omega
  exact⟨by rw[b],cl b⟩
 |some a=>simp[isNil]at h
theorem SH.wZ{α:Type}{R:lq α}{E:aT}{l:List α}{k:Int}{a:α}{b:Nat}(h:SH w0 M K w hp)(i:Nat)(j:hp i=.own R E v l)(q:ob v b)(d:l[k.toNat]? =aj a):
    ∃cs,At w b (k.toNat*R.sz) cs/\R.rd w (SH.A M hp) cs a:=by
  have c:k.toNat<l.length:=by
    rcases cD k.toNat l.length with h|h
    · exact h
    · rw[bw h]at d;cases d
  have g:l[k.toNat]=a:=by rw[bh c]at d;exact cQ d
  obtain⟨a',cap,rfl,t,s,u,m⟩:=h.dA i j;obtain⟨b',o,cells,F,p,rfl,_,r,f⟩:=m k.toNat c;have:b=b':=q;subst this;have ho:o=0:=by
    obtain⟨xs,n,_⟩:=h.bI i j;rcases n.2 with⟨e,_⟩|⟨_,_,_,e,_⟩
    · cases e
    · cases e;rfl
  subst ho;rw[g]at f;rw[fY]at f;exact⟨_,⟨cells,F,p,r,by rw[R.len f]⟩,f⟩
theorem SH.uj{α:Type}{R:lq α}{E:aT}{f:Nat}{l:List α}{k:Int}{a:α}(h:SH w0 M K w hp)(i:Nat)(c:hp i=.own R E v l)(o:SliceOf P T E f)(m:R.sz=f)(e:0<=k)(n:l[k.toNat]? =aj a):
    ∃b,ob v b/\IxOk P T v k (.pointer (aj ⟨b,k.toNat*f,aw⟩)):=by
  subst m;have t:k.toNat<l.length:=by
    rcases cD k.toNat l.length with h|h
    · exact h
    · rw[bw h]at n;cases n
  obtain⟨xs,p,_⟩:=h.bI i c;rcases p.2 with⟨rfl,hn⟩|⟨g',cap,cur,rfl,_⟩
  · omega
  refine⟨g',Z,fun ρ x y w d ty pos af g r q=>?_⟩;obtain⟨i,c,m⟩:∃i,P.info? E=aj i/\i.size=R.sz:=by
    have:=o.info;cases c:P.info? E with
    |none=>simp[c]at this
    |some i=>simp[c]at this;exact⟨i,Z,this⟩
  simp only[bl,sB,r,q,hZ,cA,fu,dy];have s:(⟨g',0,aw⟩:kq).add (k.toNat*R.sz)=⟨g',k.toNat*R.sz,aw⟩:=by
    unfold gT;split
    · next hz=>rw[hz]
    · simp
  have j:k<(l.length:Int):=by omega
  simp[o.desc,c,m,e,j,s]
theorem SH.cutO{α:Type}{R:lq α}{E:aT}{Q:Nat}{l:List α}{b:Int}(h:SH w0 M K w hp)(i:Nat)(N:hp i=.own R E v l)(q:SliceOf P T E Q)(hs:R.sz=Q)(m:0<=b)(S:b<=l.length):
    ∃u,SH w0 M K w (bV hp i (.own R E u (l.take b.toNat)))/\SlOk P T v 0 b l.length u:=by
  subst hs;have n:b.toNat<=l.length:=by omega
  have d:(l.take b.toNat).length=b.toNat:=by rw[cd];omega
  obtain⟨xs,A,q2⟩:=h.bI i N;obtain⟨u,F,hr⟩:=r_sl (P:=P) (T:=T) q (h.dA i N) (Int.le_refl 0) m S;have hv:∃cap,v=.slice aw 0 0\/∃g,v=.slice (aj ⟨g,0,aw⟩) l.length cap:=by
    rcases A.2 with⟨rfl,_⟩|⟨g',cap,cur,rfl,_⟩
    · exact⟨0,.inl Z⟩
    · exact⟨cap,.inr ⟨g',Z⟩⟩
  have e:=F (fun o=>match o with| .tmp 0=>v| .const v=>v|_=>fR) (.tmp 0) aw (aj<|.const<|.int .i64 b) w aw 0 "" #[] aw Z (.inl ⟨Z,Z⟩) (.inr Z);rcases A.2 with⟨rfl,hn⟩|⟨g',cap,cur,rfl,e1,e2,e3,e4,e5,e6⟩
  · have B:l=[]:=cl hn;subst B;obtain⟨a,cap,rfl,h1,h2,h3,h4⟩:=hr;have C:b=0:=by simp at S;omega
    subst C;have:a=aw/\cap=0:=by
      obtain⟨p,k⟩:∃p,P.info? E=aj p:=by
        have:=q.info;cases r:P.info? E with
        |none=>simp[r]at this
        |some i=>exact⟨i,rfl⟩
      simp[bl,iv,jh,cA,q.desc,dd,eC,hZ,fu,dy,k,cut]at e;exact⟨e.1.symm,e.2.symm⟩
    obtain⟨rfl,rfl⟩:=this;refine⟨_,?_,F⟩;have:=h.step (c:=.own R E (.slice aw 0 0) ([]:List α)) i (bL.refl BE w) (fun _ h=>h.elim) (fun _ h=>h.elim) bZ.nil;simpa[cut]using this
  · have I:u=.slice (aj ⟨g',0,aw⟩) b.toNat cap:=by
      obtain⟨p,k,t⟩:∃p,P.info? E=aj p/\p.size=R.sz:=by
        have:=q.info;cases r:P.info? E with
        |none=>simp[r]at this
        |some i=>simp[r]at this;exact⟨i,Z,this⟩
      obtain⟨s,rfl⟩:=bs m;have G:s<=cap:=by simp at n;omega
      have z:(⟨g',0,aw⟩:kq).add 0=⟨g',0,aw⟩:=rfl;have a0:(0:Int)<=(s:Int):=hO s;have X:(s:Int)<=(cap:Int):=by omega
      by_cases y:cap=0
      · subst y;have m:s=0:=by omega
        subst m;simp[bl,iv,jh,cA,q.desc,dd,eC,hZ,fu,dy,k,t]at e;simpa using e.symm
      · simp[bl,iv,jh,cA,q.desc,dd,eC,hZ,fu,dy,k,t,G,y,z]at e;simpa using e.symm
    subst I;refine⟨_,h.step (c:=.own R E (.slice (aj ⟨g',0,aw⟩) b.toNat cap) (l.take b.toNat)) i (bL.refl BE w) (fun _ h=>h.elim) (fun x f _=>by rw[N];exact f) ⟨xs.take (b.toNat*R.sz),⟨?_,.inr ⟨g',cap,cur,by rw[d],e1,e2,?_,e4,e5,?_⟩⟩,?_⟩,F⟩
    · rw[d,cd,A.1,cS (bd _ n)]
    · rw[d];omega
    · rw[d,<-e6,ee,cS (bd _ n)]
    · intro j O;rw[d]at O;have L:j<l.length:=by omega
      have r:=R.go (A':=fun x=>(M x\/SH.av hp i (.own R E (.slice (aj ⟨g',0,aw⟩) b.toNat cap) (l.take b.toNat)) x)\/ob (.slice (aj ⟨g',0,aw⟩) b.toNat cap) x) (q2 j L) (bL.refl BE w) (fun _ h=>h.elim) (fun x f _=>by
        rcases f with(f|f|f)|f
        · exact .inl<|.inl f
        · exact .inl<|.inr<|lu f
        · exact .inr f
        · exact .inr f)
      rw[kl];rw[en,ee,cS]
      · exact r
      · have:(j+1)*R.sz<=b.toNat*R.sz:=bd _ O;rw[cj]at this;omega
theorem Qq{α:Type}{l:List α}{i o s off:Nat}{x:α}(ho:o=i+off):((l.set o x).drop i).take s=((l.drop i).take s).set off x:=by
 subst ho;rw[s7,if_neg V,Nat.add_sub_cancel_left,mx]
theorem NM{α:Type}{l:List α}{i o s:Nat}{x:α}(h:o<i\/i+s<=o):((l.set o x).drop i).take s=(l.drop i).take s:=by
  rw[s7];split
  · rfl
  · rw[mx,List.set_eq_of_length_le];rw[cd];omega
theorem Ky{α:Type}{R:lq α}{E:aT}{G:Nat}{l:List α}{k:Int}{a a':α}{b off:Nat}{z u:al}(h:SH w0 M K w hp)(i:Nat)(s:hp i=.own R E u l)(L:ob u b)(hs:R.sz=G)(r:l[k.toNat]? =aj a)(hT:One P T z)(c:ev n env x=.pointer (aj ⟨b,k.toNat*G+off,aw⟩))
    (hy:ev n env y=v) (h1:v.oneCell'=ba) (m:mX off G=ba) (hset:∀cs,R.rd w (SH.A M hp) cs a->R.rd w (SH.A M hp) (cs.set off v) a')
    (kk:∀w',SH w0 M K w' (bV hp i (.own R E u (l.set k.toNat a')))->WL P ops Q rest n (gq env d fR) w'):
    WL P ops Q (⟨d,.store T x y,ty,pos,af,aw⟩::rest) n env w:=by
  subst hs;rw[lx]at m;have f:k.toNat<l.length:=by
    rcases cD k.toNat l.length with h|h
    · exact h
    · rw[bw h]at r;cases r
  have B:l[k.toNat]=a:=by rw[bh f]at r;exact cQ r
  generalize k.toNat=k at*;have e:∀b,ob u b->SH.A M hp b:=fun b L=>.inr ⟨i,by rw[s];exact L⟩;obtain⟨xs,O,q3⟩:=h.bI i s;rcases O.2 with⟨rfl,hn⟩|⟨g',cap,cur,rfl,e1,e2,e3,e4,e5,e6⟩
  · omega
  have I:b=g':=L;subst I;have F:(k+1)*R.sz<=l.length*R.sz:=bd _ f;have a0:l.length*R.sz<=cap*R.sz:=bd _ e3;rw[cj]at F;have C:k*R.sz+off<cur.size:=by omega
  have q:=bL.wV w b<|.cells (cur.setIfInBounds (k*R.sz+off) v) E (0,0);refine A9 (Si hT c e2 C hy h1) (kk _ (h.step i q (fun x c _=>by rw[s];exact c) (fun x c _=>by rw[s];exact c) ⟨xs.set (k*R.sz+off) v,⟨?_,.inr ⟨b,cap,cur.setIfInBounds (k*R.sz+off) v,?_,e1,?_,?_,e4,?_,?_⟩⟩,?_⟩))
  · rw[cp,cp];exact O.1
  · rw[cp]
  · rw[vM (iN e2)]
  · rw[cp];exact e3
  · simpa using e5
  · rw[cp,jx,mx,e6]
  · intro g t;have N:g<l.length:=by rwa[cp]at t
    have o:=fun cs a(h:R.rd w (SH.A M hp) cs a)=>R.go (A':=fun x=>(M x\/(SH.av hp i (.own R E (.slice (aj ⟨b,0,aw⟩) l.length cap) (l.set k a'))) x)\/ob (.slice (aj ⟨b,0,aw⟩) l.length cap) x) h q (fun x c _=>e x c) (fun x c _=>by
      rcases c with(c|c|c)|c
      · exact .inl c
      · exact .inr<|lu c
      · exact e x c
      · exact e x c)
    have S:=fun j(X:j<l.length)=>R.go (A':=SH.A M hp) (q3 j X) (bL.refl BE w) (fun _ h=>h.elim) fun x c _=>.inl c;by_cases p:g=k
    · subst p;rw[lR,Qq rfl];exact o _ _<|hset _<|B▸S g f
    · rw[mz (Ne.symm p),NM]
      · exact o _ _<|S g N
      · rcases cD k g with h5|h5
        · left;have:(k+1)*R.sz<=g*R.sz:=bd _ h5;rw[cj]at this;omega
        · right;have:(g+1)*R.sz<=k*R.sz:=bd _ V;rw[cj]at this;omega
structure WK(P:ca)(ops:Array ei)(w:ao)(Q:Act->Prop)(l:List ei)(n:Nat)(env:Nat->al):Prop where
 out:pa P ops (fun x=>x=w) Q l (act n env)
end
section
variable{P:ca}{ops:Array ei}
theorem vO{w:ao}{Q:Act->Prop}:∀{l:List ei} {a:Act},pa P ops (fun x=>x=w) Q l a->wpStill P ops w Q l a
  |[],_,h=>h
  |o::rest,a,h=>by
    unfold pa at h;unfold wpStill;split
    · rename_i c;rw[if_pos c]at h;obtain⟨v,i,d⟩:=h;have b:=i w Z;unfold Oper.quietAt at b;unfold Oper.still;generalize (bl a.eval o).run P w=r at b⊢;cases r with
      |ok n w'=>
        cases n<;>simp only[sE]at b<;>simp only[Oper.stillUpon];case value u=>exact⟨b.1,by rw[b.2];exact vO d⟩
        case skip=>exact⟨b.1,by rw[<-b.2];exact vO d⟩
        case enter f args=>exact⟨b.1,v,b.2.mono (fun e g h=>h),vO d⟩
      |halt x w'=>simp only[sE]at b
    · rename_i c;rw[if_neg c]at h;exact vO h
end
section
variable{P:ca}{ops:Array ei}{Q:fi->Act->ao->Prop}{n:Nat}{env:Nat->al}{w w' w0:ao}{M K:BS}{hp:Nat->Chunk}{rest:List ei}
 {d:Option Nat} {op:Op} {ty:aT} {pos:String} {af:Array hF} {v:al} {g:Option (Nat×Bool)} {T:aT} {ρ:bo->al} {x y:bo}
variable{Q1:Act->Prop}
theorem aG(b:(bl (ev n env) ⟨d,op,ty,pos,af,aw⟩).run P w=.ok (.value v) w)(h:WK P ops w Q1 rest n (gq env d v)):WK P ops w Q1 (⟨d,op,ty,pos,af,aw⟩::rest) n env:=by
  refine⟨?_⟩;unfold pa;have a:cm ⟨d,op,ty,pos,af,aw⟩ (ep ops (act n env).tmps)=true:=rfl;rw[if_pos a];refine⟨v,fun w' c=>?_,?_⟩
  · subst c;unfold Oper.quietAt;rw[gP,b];exact⟨Z,Z⟩
  · rw[EW];exact h.out
theorem fZ{j dj:Nat}{b:Bool}(c:(ops[j]?).bind (·.dst)=aj dj)(g:ev n env (.tmp dj)=.bool b)(h:WK P ops w Q1 (⟨d,op,ty,pos,af,aw⟩::rest) n env):WK P ops w Q1 (⟨d,op,ty,pos,af,aj (j,b)⟩::rest) n env:=by
  have e:=Ei (ops:=ops) c g;have f:cm ⟨d,op,ty,pos,af,aj (j,b)⟩ (ep ops (act n env).tmps)=true:=by simp[cm,e]
  have a:cm ⟨d,op,ty,pos,af,aw⟩ (ep ops (act n env).tmps)=true:=rfl;obtain⟨h⟩:=h;refine⟨?_⟩;unfold pa at h⊢;rw[if_pos a]at h;rw[if_pos f];exact h
theorem wk_skip(a:cm ⟨d,op,ty,pos,af,g⟩ (ep ops (act n env).tmps)=aq)(h:WK P ops w Q1 rest n (gq env d fR)):WK P ops w Q1 (⟨d,op,ty,pos,af,g⟩::rest) n env:=by
 refine⟨?_⟩;unfold pa;rw[if_neg (by rw[a];decide),EW];exact h.out
theorem dP{j dj:Nat}{b b':Bool}(a:(ops[j]?).bind (·.dst)=aj dj)(f:ev n env (.tmp dj)=.bool b')(e:(b'==b)=aq)(h:WK P ops w Q1 rest n (gq env d fR)):WK P ops w Q1 (⟨d,op,ty,pos,af,aj (j,b)⟩::rest) n env:=
  wk_skip (by have c:=Ei (ops:=ops) a f;simpa[cm,c]using e) h
theorem Qr{j dj:Nat}(b:(ops[j]?).bind (·.dst)=aj dj)(c:ev n env (.tmp dj)=fR):ep ops (act n env).tmps j=none:=by
  unfold ep;have a:(act n env).eval (.tmp dj)=undef:=by rw[gP];exact c
  simp only[b,cJ];simp only[hQ]at a;cases h2:(act n env).tmps[dj]? with
  |none=>rfl
  |some x=>simp[cY,h2]at a;subst a;rfl
theorem Bb{j dj:Nat}{b:Bool}(a:(ops[j]?).bind (·.dst)=aj dj)(c:ev n env (.tmp dj)=fR)(h:WK P ops w Q1 rest n (gq env d fR)):WK P ops w Q1 (⟨d,op,ty,pos,af,aj (j,b)⟩::rest) n env:=
  wk_skip (by simp[cm,Qr a c]) h
theorem wl_offU{j dj:Nat}{b:Bool}(a:(ops[j]?).bind (·.dst)=aj dj)(e:ev n env (.tmp dj)=fR)(h:WL P ops Q rest n (gq env d fR) w):WL P ops Q (⟨d,op,ty,pos,af,aj (j,b)⟩::rest) n env w:=by
  have c:cm ⟨d,op,ty,pos,af,aj (j,b)⟩ (ep ops (act n env).tmps)=false:=by simp[cm,Qr a e]
  refine⟨?_⟩;unfold nc;rw[if_neg (by rw[c];decide),EW];exact h.out
theorem wk_gd{j dj:Nat}{b a:Bool}(c:Bool)(i:(ops[j]?).bind (·.dst)=aj dj)(g:ev n env (.tmp dj)=gv c (.bool b))
    (k:(c&&(b==a))=ba->(bl (ev n env) ⟨d,op,ty,pos,af,aw⟩).run P w=.ok (.value v) w) (h:WK P ops w Q1 rest n (gq env d (gv (c&&(b==a)) v))):
    WK P ops w Q1 (⟨d,op,ty,pos,af,aj (j,a)⟩::rest) n env:=by
  by_cases f:(c&&(b==a))=ba
  · have l:=gl f;have m:=gr f;rw[eZ l]at g;rw[eZ f]at h;have o:b=a:=by simpa using m
    subst o;exact fZ i g<|aG (k f) h
  · have e:(c&&(b==a))=false:=by simpa using f
    rw[e]at h;cases c with
    |true=>exact dP i g (by simpa using e) h
    |false=>exact Bb i g h
theorem nD{j dj:Nat}{b a:Bool}(c:(ops[j]?).bind (·.dst)=aj dj)(f:ev n env (.tmp dj)=.bool b)
    (e:(b==a)=ba->(bl (ev n env) ⟨d,op,ty,pos,af,aw⟩).run P w=.ok (.value v) w) (h:WK P ops w Q1 rest n (gq env d (gv (b==a) v))):
    WK P ops w Q1 (⟨d,op,ty,pos,af,aj (j,a)⟩::rest) n env:=
  wk_gd ba c f (fun h=>e (by simpa using h)) (by simpa using h)
theorem Az{l:List ei}(h:WL P ops Q l n env w):WK P ops w (fun a=>nc P ops Q l a w) [] n env:=⟨h.out⟩
theorem uH{id:Nat}(k:Nat){l:List ei}(d:P.follows .mixedOrders=ba)(b:qA .any l.toArray k=ba)(h:SH w0 M K w hp)
  (c:∀w,SH w0 M K w hp->WK P l.toArray w (fun a=>nc P l.toArray Q (l.drop k) a w) (l.take k) n env):WC P (fX id l.toArray ba) Q n env w:=
 ⟨se k d b (vO (c _ (h.grow (Grow.drew w))).out)⟩
theorem qM{id:Nat}{l:List ei}(d:P.follows .mixedOrders=ba)(b:Region.lexB .any l.toArray=ba)(h:SH w0 M K w hp)
  (c:∀w,SH w0 M K w hp->WK P l.toArray w (fun a=>∀w',w'=w->Q .normal a w') l n env):WC P (fX id l.toArray ba) Q n env w:=
 ⟨wp_region_quiet (C:=fun x=>x=w.drew) d b Z (c _ (h.grow (Grow.drew w))).out⟩
theorem qW(h:Q .normal (act n env) w):WK P ops w (fun a=>∀w',w'=w->Q .normal a w') [] n env:=⟨fun _ e=>by rw[e];exact h⟩
end
open Go.RowKit
section
variable{P:ca}{ops:Array ei}{Q:fi->Act->ao->Prop}{n:Nat}{env:Nat->al}{w w' w0:ao}{M K:BS}{hp:Nat->Chunk}{rest:List ei}
 {d:Option Nat} {op:Op} {ty:aT} {pos:String} {af:Array hF} {v:al} {g:Option (Nat×Bool)} {T:aT} {ρ:bo->al} {x y:bo}
theorem Gy{v:al}(h:v.oneCell'=ba):v.cells= #[v]:=by
 cases v<;>first|rfl|simp[fc]at h
theorem dU{v:al}(h:v.oneCell'=ba):v.cells.toList=[v]:=by rw[Gy h]
theorem ed.rdc{α:Type}{R:lq α}{A:BS}{l:List α}(h:dm R w A v l):(wY R).rd w A v.cells.toList l:=by
 rw[Gy h.one];exact⟨v,Z,h⟩
theorem gvn{c d:Bool}{v:al}(h:c=ba):gv (c&&d) v=gv d v:=by rw[h,mL]
theorem aL:∀v∈([]:List al),v.oneCell'=true:=fun _ h=>by cases h
theorem aa{a:al}{l:List al}(b:a.oneCell'=ba)(c:∀v∈l,v.oneCell'=ba):∀v∈a::l,v.oneCell'=true:=fun v h=>by
  rcases bn.1 h with rfl|h
  · exact b
  · exact c v h
def Room{α:Type}(a:Nat)(l m:List α):Prop:=(l.length+m.length)*a<=140737488355328/\l.length+m.length<=9223372036854775807
instance {α:Type} (bytes:Nat) (l m:List α):Decidable (Room bytes l m):=inferInstanceAs (Decidable (_/\_))
theorem Room.mk{α:Type}{a:Nat}{l m:List α}(c:(l.length+m.length)*a<=140737488355328)(b:l.length+m.length<=9223372036854775807):Room a l m:=⟨c,b⟩
theorem set1{α:Type}{R:lq α}{A:BS}{cs:List al}{a a':α}{v:al}(h:R.rd w A v.cells.toList a')(d:R.rd w A cs a)(b:R.sz=1:=by rfl)(e:v.oneCell'=true:=by assumption):R.rd w A (cs.set 0 v) a':=by
 have:=R.len d;rw[b]at this
 match cs,this with
 |[c],_=>rw[dU e]at h;exact h
theorem iJ{f:fW}{first captured:Array al}{xs:Array bo}{b:Array aT}{args:List al}(g:Sk P f)(c:ev n env x=.func (.func f) first captured)
  (i:first.toList++xs.toList.map (ev n env)++captured.toList=args) (a:bC P f args.toArray w (fun e w'=>∃v,e=.returned v/\WL P ops Q rest n (gq env d v) w')):
  WL P ops Q (⟨d,.call {callee:=.value x,args:=xs,argTypes:=b},ty,pos,af,aw⟩::rest) n env w:=
 bW g c i a (fun _ _ h=>h)
theorem lh{α:Type}{a b:α}{l m:List α}(h:a=b)(c:l=m):a::l=b::m:=by rw[h,c]
theorem w_callG{f:fW}{first captured:Array al}{xs:Array bo}{r:Array aT}{args:List al}{j dj:Nat}{b a:Bool}(g:Bool)(m:(ops[j]?).bind (·.dst)=aj dj)(l:ev n env (.tmp dj)=gv g (.bool b))(u:Sk P f)(t:ev n env x=.func (.func f) first captured)
    (y:(g&&(b==a))=ba->first.toList++xs.toList.map (ev n env)++captured.toList=args) (q:bC P f args.toArray w (fun e w'=>Grow w w'/\e=.returned v))
    (k:∀w',Grow w w'->WL P ops Q rest n (gq env d (gv (g&&(b==a)) v)) w'):
    WL P ops Q (⟨d,.call {callee:=.value x,args:=xs,argTypes:=r},ty,pos,af,aj (j,a)⟩::rest) n env w:=by
  by_cases c:(g&&(b==a))=ba
  · have o:=gl c;have s:=gr c;rw[eZ o]at l;have z:b=a:=by simpa using s
    subst z;refine WN m l<|bW u t (y c) q ?_;rintro e w'⟨p,rfl⟩;refine⟨_,Z,?_⟩;have:=k w' p;rw[eZ c]at this;exact this
  · have i:(g&&(b==a))=false:=by simpa using c
    have h:=k w<|bL.refl _ _;rw[i]at h;cases g with
    |true=>exact jM m l (by simpa using i) h
    |false=>exact wl_offU m l h
theorem w_callG0{f:fW}{first captured:Array al}{xs:Array bo}{l:Array aT}{args:List al}{j dj:Nat}{b a:Bool}(o:(ops[j]?).bind (·.dst)=aj dj)(p:ev n env (.tmp dj)=.bool b)(m:Sk P f)(c:ev n env x=.func (.func f) first captured)
    (g:(b==a)=ba->first.toList++xs.toList.map (ev n env)++captured.toList=args) (i:bC P f args.toArray w (fun e w'=>Grow w w'/\e=.returned v))
    (k:∀w',Grow w w'->WL P ops Q rest n (gq env d (gv (b==a) v)) w'):
    WL P ops Q (⟨d,.call {callee:=.value x,args:=xs,argTypes:=l},ty,pos,af,aj (j,a)⟩::rest) n env w:=
  w_callG ba o p m c (fun h=>g (by simpa using h)) i (by simpa using k)
theorem SH.dS{α:Type}{R:lq α}{E:aT}{l:List α}(h:SH w0 M BE w hp)(i:Nat)(c:hp i=.own R E v l):bZ R E w M v l/\∀b,ob v b->w0.heap.size<=b:=
 ⟨bZ.go (h.bI i c) (bL.refl BE w) (fun _ h=>h.elim) (fun _ h=>h.elim) (fun b a _=>.inl (.inl a)),fun b a=>h.fresh i b (by rw[c];exact a)⟩
theorem dY{s:Nat}:∀b,ob (.slice aw 0 0) b->s<=b:=fun _ h=>h.elim
theorem pU{P:ca}{E:aT}{z:al}{s b:Nat}(h:(P.info? E).map (fun i=>(i.zero,i.size,i.bytes))=aj (aj z,s,b))(hz:z.cells.size=s):∃i z,P.info? E=aj i/\i.zero=aj z/\i.size=s/\i.bytes=b/\z.cells.size=s:=by
 cases hi:P.info? E with
 |none=>simp[hi]at h
 |some i=>simp[hi]at h;exact⟨i,z,Z,h.1,h.2.1,h.2.2,hz⟩
theorem r_max{T2:aT}{p q:Int}(b:ρ x=.int .i64 p)(a:ρ y=.int .i64 q):(bl ρ ⟨d,.call {callee:=.builtin .max,args:= #[x,y],argTypes:= #[T,T2]},ty,pos,af,g⟩).run P w=.ok (.value (.int .i64 (max p q))) w:=by
 have h:(if q>p then q else p)=max p q:=by split<;>omega
 simp[bl,gZ,js,iS,Builtin.max_,Builtin.max2,b,a,h]
theorem r_min{T2:aT}{p q:Int}(b:ρ x=.int .i64 p)(a:ρ y=.int .i64 q):(bl ρ ⟨d,.call {callee:=.builtin .min,args:= #[x,y],argTypes:= #[T,T2]},ty,pos,af,g⟩).run P w=.ok (.value (.int .i64 (min p q))) w:=by
 have h:(if q<p then q else p)=min p q:=by split<;>omega
 simp[bl,gZ,js,iS,Builtin.min_,Builtin.min2,b,a,h]
theorem Cw{zs vs cs:List al}{b i:Nat}(f:SH w0 M K w hp)(k:hp i=.blk b cs)(j:wU P T zs)(e:vs.length=zs.length)(l:cs=vs):(qu T ⟨b,0,aw⟩).run P w=.ok (.agg vs.toArray) w:=by
 subst l;have h:=xe (P:=P) (ρ:=fun _=>.pointer (aj ⟨b,0,aw⟩)) (d:=aw) (ty:=0) (pos:= "") (af:= #[]) (g:=aw) (x:=.tmp 0) (o:=0) (vs:=cs) f i k j Z (by rw[<-e];simp) e;simp only[bl,oT,hS]at h;have c:((qu T ⟨b,0,aw⟩).run P w).andThen (fun a w'=>qe (Next.value a) w')=qe (Next.value (Value.agg cs.toArray)) w:=by simpa using h
 cases hres:(qu T ⟨b,0,aw⟩).run P w with
 |ok v w'=>rw[hres]at c;simp at c;rw[c.1,c.2]
 |halt x w'=>rw[hres]at c;simp[Result.andThen]at c
theorem Jr{g:sd}{R:me->ao->Prop}{t u a:Tmp}{T:aT}{v1 v3:al}{zs vs:List al}{b:Nat}(m:g.results= #[.tmp t,.cell a T,.tmp u])(l:ev n env (.tmp t)=v1)(o:ev n env (.tmp a)=.pointer (aj ⟨b,0,aw⟩))(k:ev n env (.tmp u)=v3)
  (j:SH w0 M K w hp) (i:Nat) (r:hp i=.blk b vs) (p:wU P T zs) (q:vs.length=zs.length) (h:R (.returned (.tuple #[v1,.agg vs.toArray,v3])) w):jj P g R .ret (act n env) w:=by
 refine⟨Z,_,?_,h⟩;have d:=congrFun (gP n env)<|.tmp t;have c:=congrFun (gP n env)<|.tmp u;have e:=congrFun (gP n env)<|.tmp a;rw[l]at d;rw[k]at c;rw[o]at e;simp only[hQ]at d c e;rw[cY]at d c e;have f:=Cw (P:=P) j r p q Z;unfold results;rw[m];simp[d,c,e,asAddr,f]
theorem SH.jY{α:Type}{R:lq α}{E:aT}{l:List α}(h:SH w0 M K w hp)(j i:Nat)(n:hp j=.own R E v l)(u:hp i=.no)(s:j≠i):SH w0 M K w (bV (bV hp j .no) i (.own R E v l)):=by
  have ho:=h.bI j n;have d:∀x b,(bV (bV hp j .no) i (.own R E v l) x).own' b->∃y,(hp y).own' b/\(x=i->y=j)/\(x≠i->y=x/\x≠j):=by
    intro x b a;by_cases e:x=i
    · subst e;rw[bY]at a;exact⟨j,by rw[n];exact a,fun _=>rfl,fun h=>absurd Z h⟩
    · rw[dZ e]at a;by_cases c:x=j
      · subst c;rw[bY]at a;exact a.elim
      · rw[dZ c]at a;exact⟨x,a,fun h=>absurd h e,fun _=>⟨Z,c⟩⟩
  have f:∀b,iO (bV (bV hp j .no) i<|.own R E v l) b->iO hp b:=fun b⟨x,o⟩=>let ⟨y,g,_⟩:=d x b o;⟨y,g⟩;refine⟨h.keep,h.ltM,fun x b a=>let ⟨y,g,_⟩:=d x b a;h.apM y b g,fun x=>?_,fun x y k b o g=>?_,fun x b a=>let ⟨y,g,_⟩:=d x b a;h.old y b g⟩
  · by_cases e:x=i
    · subst e;rw[bY];have:=h.ok j;rw[n]at this;exact Chunk.sub this fun b a _=>f b a
    · rw[dZ e];by_cases c:x=j
      · subst c;rw[bY];trivial
      · rw[dZ c];exact Chunk.sub (h.ok x) (fun b a _=>f b a)
  · obtain⟨x',t,r,p⟩:=d x b o;obtain⟨q,k1,k2,m⟩:=d y b g;have:x'≠q:=by
      by_cases e:x=i
      · have c:y≠i:=fun h=>k<|e.trans h.symm;rw[r e,(m c).1];exact fun h=>(m c).2 h.symm
      · by_cases c:y=i
        · rw[k2 c,(p e).1];exact(p e).2
        · rw[(p e).1,(m c).1];exact k
    exact h.apart x' q this b t k1
theorem SH.eH{α:Type}{R:lq α}{l:List α}(h:SH w0 M K w hp)(j i:Nat)(a:hp j=.rd R v l):SH w0 M K w (bV hp i (.rd R v l)):=h.aK i (h.bB j a)
theorem SH.yz{α:Type}{R:lq α}{l:List α}(h:SH w0 M K w hp)(i:Nat)(c:hp i=.rd R v l):dm R w M v l:=
 (h.bB i c).sub (fun b a _=>.inl a) (fun b a _=>.inl a)
def clone{α:Type}(b:Nat)(a:List α):Option (List α):=iy (Room b ([]:List α) a) (aj a)
structure Arr2(P:ca)(T E:aT):Prop where
  desc:P.underlying T=aj (.array 2 E)
  zero:∃z0 z1,(P.info? T).map (·.zero)=aj (aj (.agg #[z0,z1]))
  size:(P.info? E).map (·.size)=aj 1
  plain:∃F,P.underlying E=aj (.slice F)
theorem r_build2{E:aT}{x y:bo}{p q:al}(h:Arr2 P T E)(l:ρ x=p)(k:ρ y=q)(r:p.oneCell'=ba)(n:q.oneCell'=ba):(bl ρ ⟨d,.build T #[(0,x),(1,y)],ty,pos,af,g⟩).run P w=.ok (.value (.agg #[p,q])) w:=by
 obtain⟨e,f,hz⟩:=h.zero;obtain⟨i,a,b⟩:∃i,P.info? T=aj i/\i.zero=aj (.agg #[e,f]):=by
  cases a:P.info? T with
  |none=>simp[a]at hz
  |some i=>simp[a]at hz;exact⟨i,Z,hz⟩
 obtain⟨j,o,c⟩:∃j,P.info? E=aj j/\j.size=1:=by
  have:=h.size;cases a:P.info? E with
  |none=>simp[a]at this
  |some i=>simp[a]at this;exact⟨i,Z,this⟩
 have c1:=Gy r;have c2:=Gy n;simp only[bl,Instr.build,l,k,cA,ju,dy,fu];have m:(Value.agg #[e,f]).cells= #[e,f]:=rfl;simp[a,b,h.desc,o,c,jz,c1,c2,m,l,k]
theorem r_index2{E:aT}{x y:bo}{p q v:al}{k:Nat}(c:Arr2 P T E)(r:ρ x=.agg #[p,q])(n:ρ y=.int .i64 k)(a:[p,q][k]? =aj v):(bl ρ ⟨d,.index T x y,ty,pos,af,g⟩).run P w=.ok (.value v) w:=by
  obtain⟨F,o⟩:=c.plain;obtain⟨j,m,b⟩:∃j,P.info? E=aj j/\j.size=1:=by
    have:=c.size;cases hi:P.info? E with
    |none=>simp[hi]at this
    |some i=>simp[hi]at this;exact⟨i,Z,this⟩
  have f:k<2:=by
    rcases cD k 2 with h|h
    · exact h
    · rw[bw (by simpa using h)]at a;cases a
  have l:(#[p,q]:Array al)[k]? =aj v:=by simpa using a
  have e:((k:Int)<2):=by omega
  simp only[bl,Instr.index,r,n,cA,hZ,part,isAgg,fu,dy];simp[c.desc,m,b,o,e,f];rw[bh (by simpa using f)]at a;exact cQ a
structure PairI(P:ca)(T:aT):Prop where
 desc:∃f0 f1,P.underlying T=aj (.struct #[f0,f1])/\f0.name≠ "_" /\f1.name≠ "_" /\f0.offset=0/\f1.offset=1/\P.underlying f0.type=aj (.int .i64)/\P.underlying f1.type=aj (.int .i64)/\P.plainKey f0.type=ba/\P.plainKey f1.type=ba
 stood:P.stoodInHeld T=aq
 guard:P.eqGuardType P.depth T=aq
theorem eq_pairI(j:PairI P T)(a b c e:Int):(oA 10000 T (.agg #[.int .i64 a,.int .i64 b]) (.agg #[.int .i64 c,.int .i64 e])).run P w=.ok (ab (a=c)&&ab (b=e)) w:=by
  obtain⟨k,i,g,q,p,l,o1,n,o,d,k1⟩:=j.desc;have f:P.fieldsOf T= #[k,i]:=by simp[Program.fieldsOf,g]
  rw[show(10000:Nat)=9999+1 from rfl,run_equalIn_agg w 9999 T _ _ (by rw[f];exact g) j.stood,f];simp only[Op.eqFields,q,p,ne_eq,not_false_eq_true,if_true,l,o1,cv];rw[fN w d (xs:= #[.int .i64 a,.int .i64 b]) (off:=0) (v:=.int .i64 a) rfl];simp only[bp];rw[fN w d (xs:= #[.int .i64 c,.int .i64 e]) (off:=0) (v:=.int .i64 c) rfl];simp only[bp];rw[show(9999:Nat)=9998+1 from rfl,run_equalIn_int w 9998 k.type .i64 .i64 a c n];simp only[bp,pK,cv];by_cases h:a=c
  · subst h;simp only[beq_self_eq_true,Bool.not_true,cM,if_false];rw[fN w k1 (xs:= #[.int .i64 a,.int .i64 b]) (off:=1) (v:=.int .i64 b) rfl];simp only[bp];rw[fN w k1 (xs:= #[.int .i64 a,.int .i64 e]) (off:=1) (v:=.int .i64 e) rfl];simp only[bp];rw[run_equalIn_int w 9998 i.type .i64 .i64 b e o];by_cases m:b=e<;>simp[m]
  · simp[h]
theorem r_eqlP{T2:aT}{a b c e:Int}(f:PairI P T)(i:ρ x=.agg #[.int .i64 a,.int .i64 b])(h:ρ y=.agg #[.int .i64 c,.int .i64 e]):(bl ρ ⟨d,.binOp .eql T x y T2,ty,pos,af,g⟩).run P w=.ok (.value (.bool (ab (a=c)&&ab (b=e)))) w:=by
 simp only[bl,i,h,cv,run_eqGuard_agg w .eql T x y _ _ f.guard,bp,run_eql_struct,eq_pairI f];simp
theorem r_neqP{T2:aT}{a b c e:Int}(f:PairI P T)(i:ρ x=.agg #[.int .i64 a,.int .i64 b])(h:ρ y=.agg #[.int .i64 c,.int .i64 e]):(bl ρ ⟨d,.binOp .neq T x y T2,ty,pos,af,g⟩).run P w=.ok (.value (.bool (!(ab (a=c)&&ab (b=e))))) w:=by
 simp only[bl,i,h,cv,run_eqGuard_agg w .neq T x y _ _ f.guard,bp,run_neq_struct,eq_pairI f];simp
end
section
variable{σ:Type}{n:Nat}{e Ut:Nat->al}{mod:Nat->Bool}{live:σ->List (Nat×al)}{J:σ->ao->Prop}{w:ao}
theorem bO(s:σ)(b:J s w)(a:Holds e (live s):=by repeat (first|exact U|refine⟨rfl,?_⟩))
 (c:Jj mod e Ut:=by repeat (first|(with_reducible exact Jj.refl _ _)|(with_reducible exact Jj.hav _ _ _)|(with_reducible refine Jj.on ?_)|((with_reducible refine Jj.hin ?_ ?_);rfl)|(with_reducible refine Jj.un ?_)|((with_reducible refine Jj.os ?_ ?_);rfl)|((with_reducible refine Jj.uc ?_ ?_);rfl))):
 JP n mod Ut live J (act n e) w:=⟨s,e,rfl,c,a,b⟩
theorem ja{a:σ->Nat}{c:σ}(s:σ)(d:J s w)(b:a s<a c:=by dsimp only;omega)(f:Holds e (live s):=by repeat (first|exact U|refine⟨rfl,?_⟩))
 (g:Jj mod e Ut:=by repeat (first|(with_reducible exact Jj.refl _ _)|(with_reducible exact Jj.hav _ _ _)|(with_reducible refine Jj.on ?_)|((with_reducible refine Jj.hin ?_ ?_);rfl)|(with_reducible refine Jj.un ?_)|((with_reducible refine Jj.os ?_ ?_);rfl)|((with_reducible refine Jj.uc ?_ ?_);rfl))):
 JL n mod Ut live J a c (act n e) w:=⟨s,e,rfl,g,f,d,b⟩
end
section
variable{P:ca}{Q:fi->Act->ao->Prop}{n:Nat}{env:Nat->al}{w:ao}
theorem wc_rounds{c:Code}(m:Nat)(h:WC P c (Exit.then (px P c Q m) Q) n env w):WC P (rl c) Q n env w:=⟨wp_loop_rounds (m+1) h.out⟩
theorem XV{c:Code}{m:Nat}(h:WC P c (Exit.then (px P c Q m) Q) n env w):Exit.then (px P c Q (m+1)) Q .normal (act n env) w:=h.out
end
theorem SH.cn{w0 w:ao}{M K:BS}{hp:Nat->Chunk}(h:SH w0 M K w hp)(l:List (Nat×Chunk))(a:HoldsC hp l:=by repeat (first|exact U|refine⟨rfl,?_⟩)):SH w0 M K w (hset l):=h.canon l a
section
variable{α β σ ρ:Type}
theorem drop_lt{l:List α}{k:Nat}(h:ab ((k:Int)<(l.length:Int))=ba):∃x,l[k]? =aj x/\l.drop k=x::l.drop (k+1):=by
 have a:k<l.length:=by have:=of_decide_eq_true h;omega
 exact⟨l[k],bh a,cX a⟩
theorem drop_ge{l:List α}{k:Nat}(h:ab ((k:Int)<(l.length:Int))=aq):l.drop k=[]:=by
 have:=of_decide_eq_false h;exact cC V
theorem gD{body:α->σ->(σ->ρ)->ρ}{k:σ->ρ}{x:α}{l:List α}{s:σ}:each body k (x::l) s=body x s (each body k l):=rfl
theorem qN{body:α->σ->(σ->ρ)->ρ}{k:σ->ρ}{s:σ}:each body k [] s=k s:=rfl
theorem yK{body:Int->α->σ->(σ->ρ)->ρ}{k:σ->ρ}{x:α}{l:List α}{s:σ}{i:Int}:gW body k i (x::l) s=body i x s (gW body k (i+1) l):=rfl
theorem Uv{body:Int->α->σ->(σ->ρ)->ρ}{k:σ->ρ}{s:σ}{i:Int}:gW body k i [] s=k s:=rfl
theorem upto_lt{body:Int->σ->(σ->ρ)->ρ}{k:σ->ρ}{s:σ}{i:Int}{j m:Nat}(h:j<m):upto body k i (m-j) s=body i s (upto body k (i+1) (m-(j+1))):=by
 rw[show m-j=(m-(j+1))+1 by omega];rfl
theorem upto_ge{body:Int->σ->(σ->ρ)->ρ}{k:σ->ρ}{s:σ}{i:Int}{j m:Nat}(h:m<=j):upto body k i (m-j) s=k s:=by
 rw[show m-j=0 by omega];rfl
theorem mR{body:σ->(σ->Option β)->Option β}{m:Nat}{s:σ}{r:β}(h:again body m s=aj r):∃a,m=a+1/\body s (again body a)=aj r:=by
 cases m with
 |zero=>cases h
 |succ m=>exact⟨m,rfl,h⟩
theorem eQ{l:List α}{k:Nat}{i:Int}{x:α}(a:i=(k:Int))(h:l[k]? =aj x):l[i.toNat]? =aj x:=by subst a;simpa using h
theorem ik{k:Nat}{i:Int}(a:i=(k:Int)):0<=i:=by omega
theorem fG{l:List α}{k:Nat}{i:Int}(b:l.length<=9223372036854775807)(c:i=(k:Int))(a:ab (i<(l.length:Int))=ba):kr (i+1):=by
 have:=of_decide_eq_true a;exact⟨by omega,by omega⟩
end
open Go.RowKit
section
variable{P:ca}{ops:Array ei}{C:ao->Prop}{Q:fi->Act->ao->Prop}{n:Nat}{env:Nat->al}{w w':ao}{rest:List ei}
 {d:Option Nat} {op:Op} {ty:aT} {pos:String} {af:Array hF} {v:al} {g:Option (Nat×Bool)} {T:aT} {ρ:bo->al}
def BndN(o:Option al)(a other:Nat):Prop:=(o=aw/\a=other)\/o=aj (.int .i64 a)
theorem addr_zero(g:Nat):(⟨g,0,aw⟩:kq).add 0=⟨g,0,aw⟩:=rfl
theorem BI{x:bo}{k:Option bo}{e:bo}{E:aT}{l b len cap:Nat}{ad:Option kq}(m:SliceOf P T E l)(p:ρ x=.slice ad len cap)(q:ad=aw\/∃g,ad=aj ⟨g,0,aw⟩)(j:BndN (k.map ρ) 0 0)(a:ρ e=.int .i64 b)(n:b<=cap):
    (bl ρ ⟨d,.slice T x k (aj e) aw,ty,pos,af,g⟩).run P w=.ok (.value (.slice ad b cap)) w:=by
  obtain⟨i,f,h⟩:∃i,P.info? E=aj i/\i.size=l:=by
    have:=m.info;cases e:P.info? E with
    |none=>simp[e]at this
    |some i=>simp[e]at this;exact⟨i,Z,this⟩
  have c:(dd ba len cap (k.map ρ) ((aj e).map ρ) aw).run P w=.ok (0,b,cap) w:=by
    have o:(b:Int)<=(cap:Int):=by omega
    rcases j with⟨e1,_⟩|e1
    · simp[dd,e1,a,eC,hZ,n]
    · simp[dd,e1,a,eC,hZ,n]
  simp only[bl,iv,jh,cA,p];simp only[db,a]at c;rcases q with rfl|⟨g,rfl⟩<;>simp[m.desc,c,fu,dy,f,h,a,addr_zero]
theorem pq{x:bo}{u c n:Option bo}{E:aT}{h gg a b m len cap:Nat}(v:SliceOf P T E h)(z:ρ x=.slice (aj ⟨gg,0,aw⟩) len cap)(k:BndN (u.map ρ) a 0)(q:BndN (c.map ρ) b len)(o:(n.map ρ=aw/\m=cap)\/(n.map ρ=aj (.int .i64 m)/\c.map ρ=aj (.int .i64 b)))
    (f:a<=b) (e:b<=m) (s:m<=cap):
    (bl ρ ⟨d,.slice T x u c n,ty,pos,af,g⟩).run P w=.ok (.value (.slice (aj (if m=a then⟨gg,0,aw⟩else⟨gg,a*h,aw⟩)) (b-a) (m-a))) w:=by
  obtain⟨i,r,t⟩:∃i,P.info? E=aj i/\i.size=h:=by
    have:=v.info;cases c:P.info? E with
    |none=>simp[c]at this
    |some i=>simp[c]at this;exact⟨i,Z,this⟩
  have l:(dd ba len cap (u.map ρ) (c.map ρ)<|n.map ρ).run P w=.ok (a,b,m) w:=by
    have B:(0:Int)<=(a:Int):=hO a;have y:(0:Int)<=(b:Int):=hO b;have j:b<=cap:=by omega
    have p:a<=m:=by omega
    rcases o with⟨g1,g2⟩|⟨g1,f1⟩
    · subst g2;rcases k with⟨e1,e2⟩|e1<;>rcases q with⟨f1,f2⟩|f1<;>(try subst e2)<;>(try subst f2)<;>
        simp[dd,e1,f1,g1,eC,hZ,f,e,j]
    · rcases k with⟨e1,e2⟩|e1<;>(try subst e2)<;>
        simp[dd,e1,f1,g1,eC,hZ,f,e,s,p]
  have A:(⟨gg,0,aw⟩:kq).add (a*h)=⟨gg,a*h,aw⟩:=by
    unfold gT;split
    · next hz=>rw[hz]
    · simp
  simp only[bl,iv,jh,cA,z];simp[v.desc,l,fu,dy,r,t,A];split<;>rfl
structure Raw(w:ao)(gg cap sz:Nat)(E:aT)(cur:List al):Prop where
 blk:w.heap[gg]? =aj (.cells cur.toArray E (0,0))
 len:cur.length=cap*sz
 le:cap<=ks
theorem addr_add(gg o k:Nat):(⟨gg,o,aw⟩:kq).add k=⟨gg,o+k,aw⟩:=by
  unfold gT;split
  · next hz=>rw[hz];rfl
  · rfl
theorem Sm{x y:bo}{E:aT}{b o gg cap a m c j:Nat}{e:List al}{ad:kq}(F:kg P T E b o)(r:Raw w gg cap b E e)(K:ev n env x=.slice (aj ⟨gg,0,aw⟩) a cap)(L:ev n env y=.slice (aj ad) m c)
    (A:m=0\/ad=⟨gg,j*b,aw⟩) (G:j+m<=cap) (s:a+m<=cap) (M:∀u∈(e.drop (j*b)).take (m*b),u.oneCell'=ba)
    (h:∀w',bL (fun x=>x=gg) w w'->Raw w' gg cap b E (e.take (a*b)++(e.drop (j*b)).take (m*b)++e.drop (a*b+m*b))->WL P ops Q rest n (gq env d (.slice (aj ⟨gg,0,aw⟩) (a+m) cap)) w'):
    WL P ops Q (⟨d,.call {callee:=.builtin .append,args:= #[x,y],argTypes:= #[T,T]},ty,pos,af,aw⟩::rest) n env w:=by
  obtain⟨i,z,O,hz,B,I,R⟩:=F.info;have N:j*b+m*b<=cap*b:=by rw[<-cj];exact bd _ G
  have t:a*b+m*b<=cap*b:=by rw[<-cj];exact bd _ s
  have g:=r.len;have f:((e.drop<|j*b).take<|m*b).length=m*b:=by rw[cd,cL];omega
  have q:∀k u,((e.drop<|j*b).take<|m*b)[k]? =aj u->w.cell? (ad.add k)=aj u:=by
    intro k u v;rcases A with rfl|rfl
    · simp at v
    · rw[addr_add];have C:k<m*b:=by
        rcases cD k (m*b)with h|h
        · exact h
        · rw[bw V]at v;cases v
      rw[cg,if_pos C,cw]at v;simp[eW,r.blk,v]
  have l:=run_append_room (P:=P) w T ty E i F.desc O gg a cap e.toArray r.blk ad m c _ (by rw[B];exact f) q M s (by rw[B,f];simpa[g]using t);have p:(bl (ev n env) ⟨d,.call {callee:=.builtin .append,args:= #[x,y],argTypes:= #[T,T]},ty,pos,af,aw⟩).run P w=.ok (.value<|.slice (aj ⟨gg,0,aw⟩) (a+m) cap) (wV w gg<|.cells (e.take (a*b)++(e.drop<|j*b).take (m*b)++e.drop (a*b+m*b)).toArray E (0,0)):=by
    rw[B,f,Jq r.blk]at l;simp only[bl,gZ,js,iS,cv,da,bp,fL,ck,et,K,L,l]
  refine J p<|h _ (bL.wV _ _ _) ⟨vM<|iN r.blk,?_,r.le⟩;rw[bc,bc,f,cd,cL,g];omega
def ZeroOne(P:ca)(E:aT):Prop:=∃z,(P.info? E).map (·.zero)=aj (aj z)/\z.cells.all (·.oneCell')=ba
theorem zeroCells_one{z:Array al}{k:Nat}(h:z.all (·.oneCell')=ba):∀u∈(cy z k).toList,u.oneCell'=true:=by
  intro u c;simp only[cy,Array.toList_map,ea]at c;obtain⟨i,d,rfl⟩:=c;have b:i<k*z.size:=by simpa using d
  have hz:0<z.size:=by
    rcases Nat.eq_zero_or_pos z.size with h0|h0
    · rw[h0,Nat.mul_zero]at b;omega
    · exact h0
  have a:i%z.size<z.size:=mE _ hz;rw[getElem!_pos z (i%z.size) a];exact(Array.all_eq_true.1 h) _ a
theorem WO{x:bo}{E:aT}{a j gg cap m k c:Nat}{b:List al}(C:kg P T E a j)(B:ZeroOne P E)(r:Raw w gg cap a E b)(I:ev n env x=.slice (aj ⟨gg,m*a,aw⟩) k c)(K:0<k)(A:m+k<=cap)
    (h:∀w' g,bL (fun x=>x=gg) w w'->Raw w' gg cap a E g->g.take (m*a)=b.take (m*a)->WL P ops Q rest n (gq env d (.tuple #[])) w'):
    WL P ops Q (⟨d,.call {callee:=.builtin .clear,args:= #[x],argTypes:= #[T]},ty,pos,af,aw⟩::rest) n env w:=by
  obtain⟨i,z,F,hz,L,G,u⟩:=C.info;obtain⟨t,o,q⟩:=B;have v:t=z:=by simp[F,hz]at o;exact o.symm
  subst v;have y:m*a+k*a<=cap*a:=by rw[<-cj];exact bd _ A
  have f:=r.len;have l:(cy t.cells k).toList.length=k*a:=by rw[ct,kt,u]
  have e:=nt (P:=P) gg (m*a) E (cy t.cells k).toList 0 b.toArray w r.blk (by rw[l];simpa[f]using y) (zeroCells_one q);rw[Jq r.blk]at e;obtain⟨s,rfl⟩:∃s,k=s+1:=⟨k-1,by omega⟩;have p:(bl (ev n env) ⟨d,.call {callee:=.builtin .clear,args:= #[x],argTypes:= #[T]},ty,pos,af,aw⟩).run P w=.ok (.value<|.tuple #[]) (wV w gg<|.cells (b.take (m*a)++(cy t.cells<|s+1).toList++b.drop (m*a+(s+1)*a)).toArray E (0,0)):=by
    rw[l]at e;simp only[Nat.add_zero]at e;simp only[bl,gZ,js,iS,Builtin.clear_,cA,ju,dy,cv,da,bp,fL,ck,et,I];simp[C.desc,F,hz,e]
  refine J p<|h _ _ (bL.wV _ _ _) ⟨vM<|iN r.blk,?_,r.le⟩ ?_
  · rw[bc,bc,l,cd,cL,f];omega
  · rw[cf,cH (by rw[cd];omega),ee,Nat.min_self]
end
theorem XC{α:Type}{R:lq α}{E:aT}{w:ao}{A:BS}{v:al}{l:List α}(h:bZ R E w A v l)(j:0<l.length):
    ∃gg cap a,v=.slice (aj ⟨gg,0,aw⟩) l.length cap/\Raw w gg cap R.sz E a/\l.length<=cap/\∀i (h:i<l.length),R.rd w (fun b=>A b\/b=gg) ((a.drop (i*R.sz)).take R.sz) l[i]:=by
  obtain⟨xs,f,g⟩:=h;rcases f.2 with⟨rfl,hn⟩|⟨gg,cap,a,rfl,e1,e2,e3,e4,e5,e6⟩
  · omega
  refine⟨gg,cap,a.toList,Z,⟨by simpa using e2,by simpa using e5,e4⟩,e3,fun i e=>?_⟩;have c:(i+1)*R.sz<=l.length*R.sz:=bd _ e;rw[cj]at c;have d:=g i e;rw[<-e6,en,ee,cS V]at d;exact d
theorem rd_ones{α:Type}{R:lq α}{w:ao}{A:BS}{l:List α}{a:List al}(h:∀i (h:i<l.length),R.rd w A ((a.drop (i*R.sz)).take R.sz) l[i]){j m:Nat}(g:j+m<=l.length):∀u∈(a.drop (j*R.sz)).take (m*R.sz),u.oneCell'=true:=by
 intro u f;obtain⟨k,d,rfl⟩:=List.getElem_of_mem f;have c:k<m*R.sz:=by rw[cd]at d;omega
 have hp:=R.pos;have n:k / R.sz<m:=pD (by rw[mY];exact c);refine R.one (h (j+k / R.sz) V) _ ?_;rw[List.mem_iff_getElem?];refine⟨k%R.sz,?_⟩;have b:k%R.sz<R.sz:=mE _ hp;rw[cg,if_pos b,cw,kl,mS];have e:(j+k / R.sz)*R.sz+k%R.sz=j*R.sz+k:=by
  rw[cj,jt,mY (k / R.sz),Nat.div_add_mod]
 rw[e,bh]
theorem raw_del{α:Type}{R:lq α}{E:aT}{w w':ao}{A:BS}{l:List α}{gg cap i j:Nat}{c e:List al}(q:Raw w' gg cap R.sz E e)(I:Raw w gg cap R.sz E c)(G:bL (fun x=>x=gg) w w')(r:i<=j)(y:j<=l.length)(K:l.length<=cap)
    (n:∀k (h:k<l.length),R.rd w (fun b=>A b\/b=gg) ((c.drop (k*R.sz)).take R.sz) l[k])
    (C:e.take ((i+(l.length-j))*R.sz)=c.take (i*R.sz)++(c.drop (j*R.sz)).take ((l.length-j)*R.sz)):
    bZ R E w' A (.slice (aj ⟨gg,0,aw⟩) (i+(l.length-j)) cap) (l.take i++l.drop j):=by
  have d:(l.take i++l.drop j).length=i+(l.length-j):=by rw[bc,cd,cL];omega
  have N:=I.len;have z:l.length*R.sz<=cap*R.sz:=bd _ K;have M:j*R.sz<=l.length*R.sz:=bd _ y;have v:i*R.sz<=j*R.sz:=bd _ r;have u:(l.length-j)*R.sz=l.length*R.sz-j*R.sz:=nj _ _ _;have g:(c.take<|i*R.sz).length=i*R.sz:=by rw[cd];omega
  refine⟨c.take (i*R.sz)++(c.drop<|j*R.sz).take ((l.length-j)*R.sz),⟨?_,.inr ⟨gg,cap,e.toArray,?_,fx _,q.blk,?_,q.le,?_,?_⟩⟩,?_⟩
  · rw[d,bc,g,cd,cL,cj];omega
  · rw[d]
  · rw[d];omega
  · simpa using q.len
  · rw[d];exact C
  · intro k s;rw[d]at s;have m:=fun cs a(h:R.rd w (fun b=>A b\/b=gg) cs a)=>R.go (A':=fun b=>A b\/b=gg) h G (fun x B _=>.inr B) fun _ h _=>h;by_cases p:k<i
    · have f:(k+1)*R.sz<=i*R.sz:=bd _ p;rw[cj]at f;have t:=m _ _<|n k V;rw[eR (by rw[cd];omega),kl,fS V,cH (by rw[cL];omega),en,ee,cS V];exact t
    · have t:=m _ _<|n (j+(k-i)) V;have f:(k-i+1)*R.sz<=(l.length-j)*R.sz:=bd _ V;rw[cj]at f;have L:i*R.sz<=k*R.sz:=bd _ V;have o:(k-i)*R.sz=k*R.sz-i*R.sz:=nj _ _ _;rw[fj (by rw[cd];omega)];have F:(l.drop j)[k-(l.take i).length]'(by rw[cd,cL];omega)=l[j+(k-i)]'V:=by
        rw[mS];congr 1;rw[cd];omega
      rw[F,ix,cC V,cF,g,<-o,en,ee,cS V,lP,<-cj];exact t
theorem Raw.keep{w w':ao}{gg cap b:Nat}{E:aT}{a:List al}{N:BS}(h:Raw w gg cap b E a)(c:bL N w w')(hn:¬N gg):Raw w' gg cap b E a:=⟨c.blk h.blk hn,h.len,h.le⟩
section
variable{P:ca}{Q:fi->Act->ao->Prop}{n:Nat}{env:Nat->al}{w w' w0:ao}{M K:BS}{hp:Nat->Chunk}
theorem Sn{id:Nat}(k:Nat){l:List ei}(d:P.follows .mixedOrders=ba)(c:qA .any l.toArray k=ba)
  (e:∀b,Grow w b->WK P l.toArray b (fun a=>nc P l.toArray Q (l.drop k) a b) (l.take k) n env):WC P (fX id l.toArray ba) Q n env w:=
 ⟨se k d c (vO (e _ (Grow.drew w)).out)⟩
theorem SH.given{α:Type}{R:lq α}{E:aT}{v u:al}{l c:List α}(h:SH w0 M K w hp)(i:Nat)(d:hp i=.own R E v l)(ho:bZ R E w' (fun b=>M b\/rest hp i b) u c)(f:bL (ob v) w w')(hn:∀b,ob u b->b<w.heap.size->ob v b):SH w0 M K w' (bV hp i (.own R E u c)):=by
  refine h.step i f (fun b a _=>by rw[d];exact a) (fun b a e=>by rw[d];exact hn b a e) ?_;refine bZ.go ho (bL.refl BE w') (fun _ h=>h.elim) (fun _ h=>h.elim) fun b a _=>?_;rcases a with a|a|a
  · exact .inl<|.inl a
  · exact .inl<|.inr a
  · exact .inr a
theorem SH.giveO{α:Type}{R:lq α}{E:aT}{v:al}{l:List α}(h:SH w0 M K w hp)(i:Nat)(a:hp i=.own R E v l):bZ R E w (fun b=>M b\/rest hp i b) v l:=
 bZ.go (h.bI i a) (bL.refl BE w) (fun _ h=>h.elim) (fun _ h=>h.elim) (fun b c _=>.inl (c.imp id lu))
theorem SH.Hy{α β:Type}{R:lq α}{R':lq β}{E:aT}{v u:al}{l:List α}{d:List β}(h:SH w0 M K w hp)(i j:Nat)(e:hp i=.rd R v l)(c:hp j=.own R' E u d):dm R w (fun b=>M b\/ob u b) v l:=
 (h.bB i e).sub (fun b a _=>a.elim .inl (fun a=>.inr ⟨j,by rw[c];exact a⟩)) (fun b a _=>a.elim .inl (fun a=>.inr ⟨j,by rw[c];exact a⟩))
theorem dm.Sa{α β:Type}{R:lq α}{R':lq β}{E:aT}{v u:al}{l:List α}{d:List β}{i:Nat}(h:dm R w (fun b=>SH.A M hp b\/ob u b) v l):dm R w (SH.A M (bV hp i (.own R' E u d))) v l:=by
  have c:∀b,SH.A M (bV hp i<|.own R' E u d) b->SH.A M hp b\/ob u b:=by
    rintro b(a|⟨j,a⟩)
    · exact .inl<|.inl a
    · by_cases e:j=i
      · subst e;rw[bY]at a;exact .inr a
      · rw[dZ e]at a;exact .inl (.inr ⟨j,a⟩)
  exact h.sub (fun b a _=>c b a) fun b a _=>c b a
theorem del_len{i j l cap a:Nat}{b:List al}(k:b.length=cap*a)(d:i<=j)(g:j<=l)(f:l<=cap):
  ((b.take (i*a)++(b.drop (j*a)).take ((l-j)*a)++b.drop (i*a+(l-j)*a)).take ((i+(l-j))*a))=b.take (i*a)++(b.drop (j*a)).take ((l-j)*a):=by
 have n:i*a<=j*a:=bd _ d;have m:j*a+(l-j)*a=l*a:=by rw[<-cj];congr 1;omega
 have h:l*a<=cap*a:=bd _ f;have e:(b.take<|i*a).length=i*a:=by rw[cd];omega
 have c:((b.drop<|j*a).take ((l-j)*a)).length=(l-j)*a:=by rw[cd,cL];omega
 rw[cj,cH (by rw[bc,e,c];omega),ia (by rw[bc,e,c];omega)]
def del1{α:Type}(l:List α)(i j:Int):Option (List α):=if 0<=i/\i<j/\j<=l.length then aj (l.take i.toNat++l.drop j.toNat)else aw
theorem o_del{α:Type}{l r:List α}{i j:Int}(h:del1 l i j=aj r):∃a b:Nat,i=a/\j=b/\a<b/\b<=l.length/\r=l.take a++l.drop b:=by
  unfold del1 at h;by_cases hp:0<=i/\i<j/\j<=l.length
  · rw[if_pos hp]at h;cases h;exact⟨i.toNat,j.toNat,by omega,by omega,by omega,by omega,Z⟩
  · rw[if_neg hp]at h;cases h
end
open Go.RowKit
def selK(K:Act->ao->Prop)(Q:fi->Act->ao->Prop):fi->Act->ao->Prop
 | .normal,a,w=>K a w
 |e,a,w=>Q e a w
section
variable{P:ca}{ops:Array ei}
variable{Q:fi->Act->ao->Prop}{n:Nat}{env:Nat->al}{w w0:ao}{M K:BS}{hp:Nat->Chunk}
structure WH(P:ca)(ops:Array ei)(ws:ao)(Q:fi->Act->ao->Prop)(fuel:Nat)(listed:Array Bool)(n:Nat)(env:Nat->al)(w:ao):Prop where
 out:qB P .any ops (pb Q) (Grow ws) fuel listed (act n env) w
theorem uI{id:Nat}{l:List ei}(a:P.follows .mixedOrders=ba)(b:SH w0 M K w hp)
  (h:∀w,SH w0 M K w hp->WH P l.toArray w Q l.length (nb l.length aq) n env w):WC P (fX id l.toArray ba) Q n env w:=
 ⟨wp_region_noPanic (wp_region_held (S:=Grow w.drew) a (h _ (b.grow (Grow.drew w))).out)⟩
theorem held_weak{S S':ao->Prop}(c:∀w,S' w->S w):∀(fuel:Nat) (listed:Array Bool) (a:Act) (w:ao),qB P .any ops Q S' fuel listed a w->qB P .any ops Q S fuel listed a w
 |0,_,_,_,h=>h
 |fuel+1,_,_,_,h=>⟨h.1,fun i d=>wpOp_mono (fun a' w' b=>⟨c _ b.1,held_weak c fuel _ a' w' b.2⟩) (h.2 i d)⟩
variable{d:Option Nat}{op:Op}{ty:aT}{pos:String}{af:Array hF}{v:al}{g:Option (Nat×Bool)}{i fuel:Nat}{listed:Array Bool}
theorem bA:cm ⟨d,op,ty,pos,af,aw⟩ (ep ops (act n env).tmps)=true:=rfl
theorem vI{j dj:Nat}{b:Bool}(a:(ops[j]?).bind (·.dst)=aj dj)(e:ev n env (.tmp dj)=.bool b):cm ⟨d,op,ty,pos,af,aj (j,b)⟩ (ep ops (act n env).tmps)=true:=by
  have c:=Ei (ops:=ops) a e;simp[cm,c]
theorem qO{j dj:Nat}{b b':Bool}(a:(ops[j]?).bind (·.dst)=aj dj)(f:ev n env (.tmp dj)=.bool b')(c:(b'==b)=aq):cm ⟨d,op,ty,pos,af,aj (j,b)⟩ (ep ops (act n env).tmps)=false:=by
  have e:=Ei (ops:=ops) a f;simpa[cm,e]using c
theorem wh_first{ws:ao}{o:ei}(e:Grow ws w)(d:ops[i]? =aj o)(b:ec ops=ba)(f:eS .any ops listed i=ba)(a:(cR .any ops listed).contains i=ba)
  (c:YieldsIf P ops (Grow ws) o v (act n env)) (h:WH P ops ws Q fuel (listed.setIfInBounds i ba) n (gq env o.dst v) w):WH P ops ws Q (fuel+1) listed n env w:=by
 refine⟨wpAnyH_take d b f a (fun _ _ _ h=>h) c e ?_⟩;rw[EW];exact h.out
theorem Fg{ws:ao}(i:Nat)(l:Grow ws w)(k:ops[i]? =aj ⟨d,op,ty,pos,af,g⟩)(j:cm ⟨d,op,ty,pos,af,g⟩ (ep ops (act n env).tmps)=ba)(c:ec ops=ba)(m:eS .any ops listed i=ba)(b:(cR .any ops listed).contains i=ba)
  (e:∀a,Grow ws a->(bl (ev n env) ⟨d,op,ty,pos,af,g⟩).run P a=.ok (.value v) a) (h:WH P ops ws Q fuel (listed.setIfInBounds i ba) n (gq env d v) w):WH P ops ws Q (fuel+1) listed n env w:=
 wh_first (o:=⟨d,op,ty,pos,af,g⟩) l k c m b (.inl ⟨j,fun a f=>by rw[gP];exact e a f⟩) h
theorem vJ{ws:ao}(i:Nat)(f:Grow ws w)(e:ops[i]? =aj ⟨d,op,ty,pos,af,g⟩)(c:cm ⟨d,op,ty,pos,af,g⟩ (ep ops (act n env).tmps)=aq)(b:ec ops=ba)(j:eS .any ops listed i=ba)(a:(cR .any ops listed).contains i=ba)
  (h:WH P ops ws Q fuel (listed.setIfInBounds i ba) n (gq env d fR) w):WH P ops ws Q (fuel+1) listed n env w:=
 wh_first (o:=⟨d,op,ty,pos,af,g⟩) f e b j a (.inr ⟨c,rfl⟩) h
theorem wh_done{ws:ao}(a:cR .any ops listed=[])(h:Q .normal (act n env) w):WH P ops ws Q fuel listed n env w:=⟨wpAnyH_done a (NoPanic.normal h) fuel⟩
def after(P:ca)(ops:Array ei)(ws:ao)(Q:fi->Act->ao->Prop)(fuel:Nat)(listed:Array Bool):fi->Act->ao->Prop:=
 selK (fun a' w'=>Grow ws w'/\qB P .any ops (pb Q) (Grow ws) fuel listed a' w') (pb Q)
theorem ek{ws:ao}(a:Grow ws w)(h:WH P ops ws Q fuel listed n env w):after P ops ws Q fuel listed .normal (act n env) w:=⟨a,h.out⟩
theorem Hz{K:Act->ao->Prop}{Q1:fi->Act->ao->Prop}(l:ops[i]? =aj ⟨d,op,ty,pos,af,g⟩)(k:cm ⟨d,op,ty,pos,af,g⟩ (ep ops (act n env).tmps)=ba)
    (h:WL P ops (selK K Q1) [⟨d,op,ty,pos,af,aw⟩] n env w):wpOp P ops Q1 i K (act n env) w:=by
  unfold wpOp;simp only[l,k,if_true];have b:=h.out;unfold nc at b;rw[if_pos (show cm _ _=ba from rfl)]at b;rcases b with b|⟨ha,hl⟩
  rotate_left
  · exact .inr ⟨ha,let ⟨a,w,h⟩:=hl;⟨a,w,h⟩⟩
  refine .inl ?_;unfold qt at b⊢;have e:(bl (act n env).eval ⟨d,op,ty,pos,af,g⟩)=bl (act n env).eval ⟨d,op,ty,pos,af,aw⟩:=by unfold bl;rfl
  rw[e];generalize (bl (act n env).eval ⟨d,op,ty,pos,af,aw⟩).run P w=r at b⊢;cases r with
  |ok nx w'=>
    cases nx with
    |value v=>exact b
    |skip=>exact b
    |defer d=>exact b
    |enter f args=>
      refine Calls.mono b fun e m j=>?_;cases e with
      |returned v=>exact j
      |panicked c=>exact j
      |outgrown=>exact j
    |row r args=>exact b
    |_=>exact b
  |halt x w'=>
    cases x<;>exact b
theorem wh_eff{ws:ao}(i:Nat)(b:cR .any ops listed=[i])(a:ops[i]? =aj ⟨d,op,ty,pos,af,g⟩)(c:cm ⟨d,op,ty,pos,af,g⟩ (ep ops (act n env).tmps)=ba)
  (h:WL P ops (after P ops ws Q fuel (listed.setIfInBounds i ba)) [⟨d,op,ty,pos,af,aw⟩] n env w):WH P ops ws Q (fuel+1) listed n env w:=by
 refine⟨nf b zq3 fun k e=>?_⟩;obtain rfl:k=i:=by simpa using e
 exact Hz a c h
theorem Js{ws:ao}{m:Option Nat}{c:Op}{e:aT}{a:String}{b:Array hF}{o:Option (Nat×Bool)}(i j:Nat)(p:cR .any ops listed=[i,j])(t:ops[i]? =aj ⟨d,op,ty,pos,af,g⟩)(s:cm ⟨d,op,ty,pos,af,g⟩ (ep ops (act n env).tmps)=ba)
    (r:ops[j]? =aj ⟨m,c,e,a,b,o⟩) (f:cm ⟨m,c,e,a,b,o⟩ (ep ops (act n env).tmps)=ba)
    (h:WL P ops (after P ops ws Q fuel (listed.setIfInBounds i ba)) [⟨d,op,ty,pos,af,aw⟩] n env w) (q:WL P ops (after P ops ws Q fuel (listed.setIfInBounds j ba)) [⟨m,c,e,a,b,aw⟩] n env w):WH P ops ws Q (fuel+1) listed n env w:=by
  refine⟨nf p zq3 fun k l=>?_⟩;rcases bn.1 l with rfl|l
  · exact Hz t s h
  · obtain rfl:k=j:=by simpa using l
    exact Hz r f q
theorem wh_base{ws:ao}(a:Grow ws w)(h:WH P ops w Q fuel listed n env w):WH P ops ws Q fuel listed n env w:=⟨held_weak (fun _ h=>a.trans h) _ _ _ _ h.out⟩
variable{w':ao}{rest:List ei}{T:aT}{x y:bo}
theorem yA{α:Type}{R:lq α}{E:aT}{j c:Nat}{a:Array (Nat×bo)}{len:Nat}{vs:List al}{xs:List α}(h:SH w0 M K w hp)(i:Nat)(v:kg P T E j c)(t:R.sz=j)
  (r:(a.toList.map fun p=>(p.1,ev n env p.2))=vs.zipIdx.map fun p=>(p.2,p.1)) (e:vs.length=len) (s:Kw R w (SH.A M hp) vs xs) (f:la (len*j) 16777216=ba)
  (k:∀w' u,SH w0 M K w' (bV hp i (.own R E u xs))->Grow w w'->(∀b,ob u b->w.heap.size<=b)->WL P ops Q rest n (gq env d u) w'):
  WL P ops Q (⟨d,.buildSlice T len a,ty,pos,af,aw⟩::rest) n env w:=by
 obtain⟨u,w',q,o,x,m⟩:=run_bs (d:=d) (ty:=ty) (pos:=pos) (af:=af) (g:=aw) v t r e s h.lt<|gw f;exact J q<|k w' u (h.ui i o x fun b l=>ly<|m b l) o fun b l=>ly<|m b l
theorem bL.fresh{a b c:ao}{N:BS}(h:Grow a b)(k:bL N b c)(hN:∀x,N x->a.heap.size<=x):Grow a c:=h.step k (fun x d e=>by have:=hN x d;omega)
end
open Go.RowKit Go.Deep
def Nc{α:Type}(P:ca)(T:aT)(R:lq α):Prop:=
 ∀(a:Type) (enc:aT×al->a) (w:ao) (b:Nat->Bool) (c:Bool) (fuel:Nat) (cs:List al) (x:DataW a×List pe),DataW.trod enc P w 0 b c fuel T cs=aj x->∃d,R.rd w BE cs d
theorem opens_int{P:ca}{T:aT}(d:P.underlying T=aj (.int .i64)):Nc P T cZ:=by
 intro a enc w b c fuel cs x h;obtain⟨n,rfl,_,e⟩:=DataW.trod_int d h;exact⟨n,Z⟩
theorem Jt{α:Type}{P:ca}{T E:aT}{R:lq α}(ht:P.underlying T=aj (.slice E))(Q:P.cellsOf E=R.sz)(h:Nc P E R):Nc P T (wY R):=by
  intro c enc w p G fuel cs x hx;rcases open_slice ht hx with⟨rfl,rfl⟩|⟨a,len,cap,m,n,D,Pl,rfl,_,hl,hm,hmm,rfl,hel⟩
  · exact⟨[],_,Z,ed.nil⟩
  · have a0:len<=m:=by rw[hmm];split<;>omega
    have u:∀i,i<len->∃d:α,∃b o cells F r,a=⟨b,o,aw⟩/\w.heap[b]? =aj (.cells cells F r)/\R.rd w BE ((cells.toList.drop<|o+i*R.sz).take R.sz) d:=by
      intro i l;obtain⟨g,S,h2⟩:=hel i V;obtain⟨d,X⟩:=h c enc w p G n g _ h2;refine⟨d,?_⟩;rw[Q]at S;obtain⟨_,O,s⟩:=qf S;have hp:=R.pos;have A:a.spot=none:=by
        obtain⟨C,g1,_⟩:=hel 0 V;rw[Q]at g1;obtain⟨_,N,q⟩:=qf g1;have K:=q 0 hp;rw[pd,add_add,fY]at K;have:∃v,C[0]? =aj v:=⟨C[0]'V,bh V⟩;obtain⟨v,M⟩:=this;rw[M]at K;have:=World.cell?_spot K;simpa[gT]using this
      obtain⟨b,o,sp⟩:=a;simp only at A;subst A;have z:∀k,(⟨b,o,aw⟩:kq).add k=⟨b,o+k,aw⟩:=by
        intro k;unfold gT;split<;>simp_all
      have B:∀j,j<R.sz->w.cell? ⟨b,o+i*R.sz+j,aw⟩=g[j]? :=by
        intro j y;have:=s j y;rw[add_add,z]at this;rw[<-this,jt]
      have I:=B 0 hp;have M:g[0]? =aj (g[0]'V):=bh V;rw[M]at I;unfold eW at I;cases t:w.heap[b]? with
      |none=>simp[t]at I
      |some ob=>
        cases ob with
        |cells cells F r=>
          refine⟨b,o,cells,F,r,Z,t,?_⟩;have e:(cells.toList.drop<|o+i*R.sz).take R.sz=g:=by
            apply di;intro j;rw[cg,cw];by_cases y:j<R.sz
            · rw[if_pos y,<-B j y];simp[eW,t]
            · rw[if_neg y,bw V]
          rw[e];exact X
        |_=>simp[t]at I
    obtain⟨f,hf⟩:∃f:(i:Nat)->i<len->α,∀i l,∃b o cells F r,a=⟨b,o,aw⟩/\w.heap[b]? =aj (.cells cells F r)/\R.rd w BE ((cells.toList.drop<|o+i*R.sz).take R.sz) (f i l):=
      ⟨fun i l=>Classical.choose (u i l),fun i l=>Classical.choose_spec (u i l)⟩
    refine⟨List.ofFn fun i:Fin len=>f i.val i.isLt,_,Z,aj a,cap,by simp,by simpa using hl,hm,(fun h=>by cases h),?_⟩;intro i l;have L:i<len:=by simpa using l
    obtain⟨b,o,cells,F,r,rfl,t,hr⟩:=hf i L;refine⟨b,o,cells,F,r,Z,fun h=>h,t,?_⟩;simpa using hr
theorem QH{a:Type}{enc:aT×al->a}{P:ca}{w:ao}{b:Nat->Bool}{c:Bool}{T:aT}{d:Array Field}{fuel:Nat}{cs:List al}{x:DataW a×List pe}(l:P.underlying T=aj (.struct d))(h:DataW.trod enc P w 0 b c fuel T cs=aj x):
    cs.length=P.cellsOf T/\∃n:Nat,∀(i:Nat) (f:Field),d[i]? =aj f->∃y:DataW a×List pe,DataW.trod enc P w 0 b c n f.type ((cs.drop f.offset).take (P.cellsOf f.type))=aj y:=by
  obtain⟨xs,n,_,_,m,g,k⟩:=DataW.trod_struct l h;refine⟨m,n,fun i f j=>?_⟩;have:=k i f j;have e:i<xs.length:=by
    rw[g];rcases cD i d.size with h1|h1
    · exact h1
    · rw[kV h1]at j;cases j
  rw[bh e]at this;exact⟨_,this⟩
theorem oG{α:Type}{a:Type}{enc:aT×al->a}{P:ca}{w:ao}{b:Nat->Bool}{c:Bool}{e:Array Field}{n:Nat}{cs:List al}{R:lq α}{i:Nat}{f:Field}
  (h:∀(i:Nat) (f:Field),e[i]? =aj f->∃y:DataW a×List pe,DataW.trod enc P w 0 b c n (Field.type f) ((cs.drop f.offset).take (P.cellsOf f.type))=aj y) (k:e[i]? =aj f) (j:P.cellsOf f.type=R.sz) (l:Nc P f.type R):
  ∃d,R.rd w BE ((cs.drop f.offset).take R.sz) d:=by
 obtain⟨y,g⟩:=h i f k;rw[j]at g;exact l a enc w b c n _ _ g
theorem cells_one{l:List al}{o:Nat}{v:al}(h:(l.drop o).take 1=[v]):l[o]? =aj v:=by
 have:=congrArg (fun l=>l[0]?) h;simpa[cg,cw]using this
theorem Nf{α:Type}{l:List α}{n:Nat}(h:l.length=n+1):∃a t,l=a::t/\t.length=n:=by
 cases l with
 |nil=>simp at h
 |cons a t=>exact⟨a,t,rfl,by simpa using h⟩
theorem nobody{w:ao}:∀b,BE b->b<w.heap.size:=fun _ h=>h.elim
open Go.RowKit Go.MapKept
def QI(z:al)(jC:List (Int×al))(k:Int):Value:=match jC with|[]=>z|p::r=>if k=p.1 then p.2 else QI z r k
def Nt(jC:List (Int×al))(k:Int)(v:al):List (Int×al):=match jC with|[]=>[(k,v)]|p::r=>if k=p.1 then(p.1,v)::r else p::Nt r k v
def ahas(jC:List (Int×al))(k:Int):Bool:=match jC with|[]=>aq|p::r=>if k=p.1 then ba else ahas r k
def QJ(jC:List (Int×al))(k:Int)(i:Nat):Option (Nat×al):=match jC with|[]=>aw|p::r=>if k=p.1 then aj (i,p.2)else QJ r k (i+1)
theorem Gz{jC:List (Int×al)}{k:Int}:∀{a:List sb} {i:Nat},a.map (fun e=>(e.key,e.val))=jC.map (fun p=>(dp .i64 p.1,p.2))->
    sL (.int .i64) (.int .i64 k) a i=aj (QJ jC k i):=by
  induction jC with
  |nil=>intro a i h;cases a with|nil=>rfl|cons e r=>simp at h
  |cons p r ih=>
    intro a i h;cases a with
    |nil=>simp at h
    |cons e s=>
      simp only[ck,List.cons.injEq,ic]at h;obtain⟨⟨c,f⟩,d⟩:=h;unfold sL QJ;by_cases b:k=p.1
      · simp[sQ,c,f,b]
      · have:(k==p.1)=false:=by simpa using b
        simp[sQ,c,this,b,ih d]
theorem XW{z:al}{k:Int}:∀{jC:List (Int×al)} {i:Nat},QI z jC k=match QJ jC k i with|some (_,v)=>v|none=>z
  |[],i=>rfl
  |p::r,i=>by
    unfold QI QJ;by_cases a:k=p.1
    · simp[a]
    · simp only[a,if_false];exact XW
theorem Uw{k:Int}{v:al}:∀{jC:List (Int×al)} {i:Nat},QJ jC k i=aw->Nt jC k v=jC++[(k,v)]
  |[],i,_=>rfl
  |p::r,i,h=>by
    unfold QJ at h;unfold Nt;by_cases a:k=p.1
    · simp[a]at h
    · simp only[a,if_false]at h⊢;rw[Uw h];rfl
theorem Ux{k:Int}{v u:al}:∀{jC:List (Int×al)} {i j:Nat},QJ jC k i=aj (j,u)->i<=j/\∃p,jC[j-i]? =aj p/\p.1=k/\Nt jC k v=jC.set (j-i) (k,v)
  |[],i,j,h=>by cases h
  |p::r,i,j,h=>by
    unfold QJ at h;unfold Nt;by_cases a:k=p.1
    · simp only[a,if_true,eJ,ic]at h;obtain⟨rfl,_⟩:=h;refine⟨bt _,p,by simp,a.symm,?_⟩;simp[a]
    · simp only[a,if_false]at h⊢;obtain⟨e,q,c,d,b⟩:=Ux (v:=v) h;refine⟨by omega,q,?_,d,?_⟩
      · rw[show j-i=(j-(i+1))+1 by omega];simpa using c
      · rw[show j-i=(j-(i+1))+1 by omega,b];simp
section
variable{P:ca}{ops:Array ei}{Q:fi->Act->ao->Prop}{n:Nat}{env:Nat->al}{w w' w0:ao}{M K:BS}{hp:Nat->Chunk}{rest:List ei}
 {d:Option Nat} {op:Op} {ty:aT} {pos:String} {af:Array hF} {v:al} {g:Option (Nat×Bool)} {T:aT} {ρ:bo->al}
structure MapOf(P:ca)(T:aT)(z:al):Prop where
  desc:∃K E,P.underlying T=aj (.map K E)/\P.underlying K=aj (.int .i64)/\(P.info? E).map (·.zero)=aj (aj z)
theorem r_makeMap:(bl ρ ⟨d,.makeMap T aw,ty,pos,af,g⟩).run P w=.ok (.value (.map (aj w.heap.size))) (w.alloc (.map #[] 0)):=by
 simp[bl,Instr.makeMap,kd,-hU]
theorem ckInt{e:Bool}{K:aT}{k:Int}(a:P.underlying K=aj (.int .i64)):(Instr.checkKey e 10000 K (.int .i64 k)).run P w=.ok () w:=
 run_checkKey a (by trivial) e 9999
theorem L8.push{b:Array sb}{c:Nat}(h:L8 b c)(k v:al):L8 (b.push {key:=k,val:=v,born:=c}) (c+1):=by
  refine⟨fun e a=>?_,?_⟩
  · simp only[qg,cV,eV]at a;rcases a with a|rfl
    · exact Nat.lt_succ_of_lt<|h.1 e a
    · exact sf c
  · rw[qg,List.map_append,List.nodup_append];refine⟨h.2,by simp,fun x d y f=>?_⟩;simp only[ck,et,eV]at f;obtain⟨e,a,rfl⟩:=ea.1 d;have:=h.1 e a;omega
theorem L8.modify{a:Array sb}{c:Nat}(h:L8 a c)(j:Nat)(k v:al):L8 (a.modify j fun e=>{e with key:=k,val:=v}) c:=by
  have e:(a.modify j fun e=>{e with key:=k,val:=v}).toList.map (·.born)=a.toList.map (·.born):=by
    apply di;intro i;simp only[ej,ij,gd];by_cases d:j=i
    · subst d;cases a[j]? <;>simp
    · simp[d]
  refine⟨fun x f=>?_,by rw[e];exact h.2⟩;have:x.born∈(a.modify j fun e=>{e with key:=k,val:=v}).toList.map (·.born):=ea.2 ⟨x,f,Z⟩;rw[e]at this;obtain⟨y,g,b⟩:=ea.1 this;rw[<-b];exact h.1 y g
theorem XX{z:al}{x y:bo}{b:Nat}{k:Int}{jC:List (Int×al)}(v:MapOf P T z)(t:ρ x=.map (aj b))(m:ρ y=.int .i64 k)(h:Jp w b jC):
  (bl ρ ⟨d,.lookup T x y aq,ty,pos,af,g⟩).run P w=.ok (.value (QI z jC k)) w:=by
 obtain⟨K,E,s,j,f⟩:=v.desc;obtain⟨r,a,h,l,q⟩:=h;obtain⟨i,c,hz⟩:∃i,P.info? E=aj i/\i.zero=aj z:=by
  cases c:P.info? E with
  |none=>simp[c]at f
  |some i=>simp[c]at f;exact⟨i,Z,f⟩
 have u:=Gz (k:=k) (i:=0) l;have n:(km b).run P w=.ok (.map r a) w:=by simp[km,kf,h]
 rw[XW (z:=z) (k:=k) (jC:=jC) (i:=0)];simp only[bl,s8,cA,t,m];have o:=fun e=>ckInt (P:=P) (w:=w) (e:=e) (K:=K) (k:=k) j;simp only[cv,fI,bp,s,da,n,o,iz,cA,j,u];cases ha:QJ jC k 0 with
 |none=>simp[ju,dy,c,hz]
 |some p=>simp
theorem Sq{z:al}{x y u:bo}{b:Nat}{k:Int}{jC:List (Int×al)}(hT:MapOf P T z)(S:ev n env x=.map (aj b))(I:ev n env y=.int .i64 k)(L:ev n env u=v)(f:Jp w b jC)
    (h:∀w',bL (fun x=>x=b) w w'->Jp w' b (Nt jC k v)->WL P ops Q rest n (gq env d fR) w'):
    WL P ops Q (⟨d,.mapUpdate T x y u,ty,pos,af,aw⟩::rest) n env w:=by
  obtain⟨K,E,R,C,h3⟩:=hT.desc;obtain⟨c,a,f,m,r⟩:=f;have t:=Gz (k:=k) (i:=0) m;have N:(km b).run P w=.ok (.map c a) w:=by simp[km,kf,f]
  have o:=iN f;have O:=fun e=>ckInt (P:=P) (w:=w) (e:=e) (K:=K) (k:=k) C;have g:c.toList.length=jC.length:=by have:=congrArg fb m;simpa using this
  cases ha:QJ jC k 0 with
  |none=>
    refine A9 (w':=wV w b<|.map (c.push {key:=.int .i64 k,val:=v,born:=a})<|a+1) ?_<|h _ (bL.wV _ _ _) ⟨_,_,vM o,?_,r.push _ _⟩
    · rw[ha]at t;simp only[bl,lf,cA,S,I,L];simp only[cv,fI,bp,R,da,N,O,iz,cA,C,t,run_setObj_map _ f];rfl
    · rw[Uw ha];simp[m]
  |some p=>
    obtain⟨j,u0⟩:=p;obtain⟨_,q,A,G,hset⟩:=Ux (v:=v) ha;simp only[Nat.sub_zero]at A hset;have F:j<c.size:=by
      have s:j<jC.length:=by
        rcases cD j jC.length with s|s
        · exact s
        · rw[bw s]at A;cases A
      simpa[<-g]using s
    have hkey:c[j].key=.int .i64 k:=by
      have M:=congrArg (fun l=>l[j]?) m;simp[A,F]at M;rw[M.1,G]
    refine A9 (w':=wV w b<|.map (c.modify j fun e=>{e with key:=.int .i64 k,val:=v}) a) ?_<|h _ (bL.wV _ _ _) ⟨_,_,vM o,?_,r.modify _ _ _⟩
    · rw[ha]at t;have B:(jA (.int .i64 k)<|.int .i64 k).run P w=.ok (.int .i64 k) w:=by simp[jA,sg]
      simp only[bl,lf,cA,S,I,L];simp only[cv,fI,bp,R,da,N,O,iz,cA,C,t,nG F,db,eM,hkey,B,run_setObj_map _ f];rfl
    · rw[hset,List.map_set,<-m];apply di;intro i;simp only[ej,ij,gd,fg,cG,ct];by_cases X:j=i
      · subst X;simp[F]
      · simp[X]
theorem wl_insert{z:al}{x y u:bo}{b:Nat}{k:Int}{jC:List (Int×al)}(hT:MapOf P T z)(S:ev n env x=.map (aj b))(I:ev n env y=.int .i64 k)(L:ev n env u=v)(f:Jp w b jC)
    (h:∀w',bL (fun x=>x=b) w w'->Jp w' b (Nt jC k v)->WL P ops Q rest n (gq env d fR) w'):
    WL P ops Q (⟨d,.insert T x y u,ty,pos,af,aw⟩::rest) n env w:=by
  obtain⟨K,E,R,C,h3⟩:=hT.desc;obtain⟨c,a,f,m,r⟩:=f;have t:=Gz (k:=k) (i:=0) m;have N:(km b).run P w=.ok (.map c a) w:=by simp[km,kf,f]
  have o:=iN f;have O:=fun e=>ckInt (P:=P) (w:=w) (e:=e) (K:=K) (k:=k) C;have g:c.toList.length=jC.length:=by have:=congrArg fb m;simpa using this
  cases ha:QJ jC k 0 with
  |none=>
    refine A9 (w':=wV w b<|.map (c.push {key:=.int .i64 k,val:=v,born:=a})<|a+1) ?_<|h _ (bL.wV _ _ _) ⟨_,_,vM o,?_,r.push _ _⟩
    · rw[ha]at t;simp only[bl,lf,cA,S,I,L];simp only[cv,fI,bp,R,da,N,O,iz,cA,C,t,run_setObj_map _ f];rfl
    · rw[Uw ha];simp[m]
  |some p=>
    obtain⟨j,u0⟩:=p;obtain⟨_,q,A,G,hset⟩:=Ux (v:=v) ha;simp only[Nat.sub_zero]at A hset;have F:j<c.size:=by
      have s:j<jC.length:=by
        rcases cD j jC.length with s|s
        · exact s
        · rw[bw s]at A;cases A
      simpa[<-g]using s
    have hkey:c[j].key=.int .i64 k:=by
      have M:=congrArg (fun l=>l[j]?) m;simp[A,F]at M;rw[M.1,G]
    refine A9 (w':=wV w b<|.map (c.modify j fun e=>{e with key:=.int .i64 k,val:=v}) a) ?_<|h _ (bL.wV _ _ _) ⟨_,_,vM o,?_,r.modify _ _ _⟩
    · rw[ha]at t;have B:(jA (.int .i64 k)<|.int .i64 k).run P w=.ok (.int .i64 k) w:=by simp[jA,sg]
      simp only[bl,lf,cA,S,I,L];simp only[cv,fI,bp,R,da,N,O,iz,cA,C,t,nG F,db,eM,hkey,B,run_setObj_map _ f];rfl
    · rw[hset,List.map_set,<-m];apply di;intro i;simp only[ej,ij,gd,fg,cG,ct];by_cases X:j=i
      · subst X;simp[F]
      · simp[X]
theorem aidx_has{k:Int}:∀{jC:List (Int×al)} {i:Nat},ahas jC k=(QJ jC k i).isSome
  |[],i=>rfl
  |p::r,i=>by
    unfold ahas QJ;by_cases a:k=p.1
    · simp[a]
    · simp only[a,if_false];exact aidx_has
theorem r_lookup2{z:al}{x y:bo}{b:Nat}{k:Int}{jC:List (Int×al)}(v:MapOf P T z)(t:ρ x=.map (aj b))(m:ρ y=.int .i64 k)(h:Jp w b jC):
  (bl ρ ⟨d,.lookup T x y ba,ty,pos,af,g⟩).run P w=.ok (.value (.tuple #[QI z jC k,.bool (ahas jC k)])) w:=by
 obtain⟨K,E,s,j,f⟩:=v.desc;obtain⟨r,a,h,l,q⟩:=h;obtain⟨i,c,hz⟩:∃i,P.info? E=aj i/\i.zero=aj z:=by
  cases c:P.info? E with
  |none=>simp[c]at f
  |some i=>simp[c]at f;exact⟨i,Z,f⟩
 have u:=Gz (k:=k) (i:=0) l;have n:(km b).run P w=.ok (.map r a) w:=by simp[km,kf,h]
 rw[XW (z:=z) (k:=k) (jC:=jC) (i:=0),aidx_has (i:=0)];simp only[bl,s8,cA,t,m];have o:=fun e=>ckInt (P:=P) (w:=w) (e:=e) (K:=K) (k:=k) j;simp only[cv,fI,bp,s,da,n,o,iz,cA,j,u];cases ha:QJ jC k 0 with
 |none=>simp[ju,dy,c,hz]
 |some p=>simp
def lk{α:Type}(k:Int):List (Int×α)->Option α
 |[]=>aw
 |p::r=>if k=p.1 then aj p.2 else lk k r
theorem XD{α:Type}{f:α->al}{z:α}{k:Int}:∀(l:List (Int×α)),QI (f z) (l.map fun p=>(p.1,f p.2)) k=f ((lk k l).getD z)
  |[]=>rfl
  |p::r=>by
    show(if k=p.1 then f p.2 else QI _ _ k)=f ((if k=p.1 then aj p.2 else lk k r).getD z);by_cases h:k=p.1
    · simp[h]
    · simp only[h,if_false];exact XD r
theorem ahas_lk{α:Type}{f:α->al}{k:Int}:∀(l:List (Int×α)),ahas (l.map fun p=>(p.1,f p.2)) k=(lk k l).isSome
  |[]=>rfl
  |p::r=>by
    show(if k=p.1 then ba else ahas _ k)=(if k=p.1 then aj p.2 else lk k r).isSome;by_cases h:k=p.1
    · simp[h]
    · simp only[h,if_false];exact ahas_lk r
theorem r_lk2{α:Type}{f:α->al}{zz:α}{z:al}{x y:bo}{b:Nat}{k:Int}{jC:List (Int×al)}(l:List (Int×α))(h:SH w0 M K w hp)(i:Nat)(m:hp i=.mp b jC)(j:MapOf P T z)(e:ρ x=.map (aj b))(c:ρ y=.int .i64 k)(hz:z=f zz)(a:jC=l.map fun p=>(p.1,f p.2)):
  (bl ρ ⟨d,.lookup T x y ba,ty,pos,af,g⟩).run P w=.ok (.value (.tuple #[f ((lk k l).getD zz),.bool (lk k l).isSome])) w:=by
 have:=r_lookup2 (d:=d) (ty:=ty) (pos:=pos) (af:=af) (g:=g) j e c<|h.mpAt i m;rw[hz,a,XD,ahas_lk]at this;exact this
theorem r_lk1{α:Type}{f:α->al}{zz:α}{z:al}{x y:bo}{b:Nat}{k:Int}{jC:List (Int×al)}(l:List (Int×α))(h:SH w0 M K w hp)(i:Nat)(m:hp i=.mp b jC)(j:MapOf P T z)(e:ρ x=.map (aj b))(c:ρ y=.int .i64 k)(hz:z=f zz)(a:jC=l.map fun p=>(p.1,f p.2)):
  (bl ρ ⟨d,.lookup T x y aq,ty,pos,af,g⟩).run P w=.ok (.value (f ((lk k l).getD zz))) w:=by
 have:=XX (d:=d) (ty:=ty) (pos:=pos) (af:=af) (g:=g) j e c<|h.mpAt i m;rw[hz,a,XD]at this;exact this
theorem Kz(h:SH w0 M K w hp)(i:Nat)(k:∀w' b,SH w0 M K w' (bV hp i (.mp b []))->WL P ops Q rest n (gq env d (.map (aj b))) w'):WL P ops Q (⟨d,.makeMap T aw,ty,pos,af,aw⟩::rest) n env w:=
 J r_makeMap (k _ _ (h.learn i (Grow.alloc _ _) (fun b a=>ly a.symm) ⟨#[],0,Pf _ _,rfl,by simp[L8]⟩))
theorem SH.mpSet{b:Nat}{jC vC:List (Int×al)}(h:SH w0 M K w hp)(i:Nat)(c:hp i=.mp b jC)(e:bL (fun x=>x=b) w w')(d:Jp w' b vC):SH w0 M K w' (bV hp i (.mp b vC)):=
 h.step i e (fun x a _=>by rw[c];exact a) (fun x a _=>by rw[c];exact a) d
theorem vP{z:al}{x y u:bo}{b:Nat}{k:Int}{jC vC:List (Int×al)}(h:SH w0 M K w hp)(i:Nat)(a:hp i=.mp b jC)(o:MapOf P T z)(l:ev n env x=.map (aj b))(f:ev n env y=.int .i64 k)(g:ev n env u=v)(e:Nt jC k v=vC)
  (j:∀w',SH w0 M K w' (bV hp i (.mp b vC))->WL P ops Q rest n (gq env d fR) w'):WL P ops Q (⟨d,.insert T x y u,ty,pos,af,aw⟩::rest) n env w:=
 wl_insert o l f g (h.mpAt i a) fun w' c m=>j w' (h.mpSet i a c (e▸m))
theorem NP{z:al}{x y u:bo}{b:Nat}{k:Int}{jC vC:List (Int×al)}(h:SH w0 M K w hp)(i:Nat)(a:hp i=.mp b jC)(o:MapOf P T z)(l:ev n env x=.map (aj b))(f:ev n env y=.int .i64 k)(g:ev n env u=v)(e:Nt jC k v=vC)
  (j:∀w',SH w0 M K w' (bV hp i (.mp b vC))->WL P ops Q rest n (gq env d fR) w'):WL P ops Q (⟨d,.mapUpdate T x y u,ty,pos,af,aw⟩::rest) n env w:=
 Sq o l f g (h.mpAt i a) fun w' c m=>j w' (h.mpSet i a c (e▸m))
end
theorem SH.argPt{w:ao}{M K:BS}{hp:Nat->Chunk}{w0:ao}{b:Nat}{cs:List al}(h:SH w0 M K w hp)(i:Nat)(ho:∃E,w.heap[b]? =aj (.cells cs.toArray E (0,0)))(hn:∀b,¬iO hp b):SH w0 M K w (bV hp i (.pt b 0 cs)):=by
 obtain⟨E,ho⟩:=ho;exact h.know i (fun _ h=>h) ⟨hn b,_,_,_,ho,by simp⟩
open Go.RowKit
def hasB(s:Str)(c:UInt8):Bool:=ab (0<=Go.Lib.indexByte s c)
section
variable{P:ca}{ops:Array ei}{Q:fi->Act->ao->Prop}{n:Nat}{env:Nat->al}{w:ao}{rest:List ei}
 {d:Option Nat} {ty:aT} {pos:String} {af:Array hF} {v:al} {x:bo}
theorem Pg{f:fW}(c:List al){xs:Array bo}{r:Array aT}{args:List al}{j dj:Nat}{b a:Bool}(i:Bool)(o:(ops[j]?).bind (·.dst)=aj dj)(m:ev n env (.tmp dj)=gv i (.bool b))(u:Sk P f)(t:(i&&(b==a))=ba->ev n env x=.func (.func f) #[] c.toArray)
    (z:(i&&(b==a))=ba->xs.toList.map (ev n env)++c=args) (p:bC P f args.toArray w (fun e w'=>Grow w w'/\e=.returned v))
    (k:∀w',Grow w w'->WL P ops Q rest n (gq env d (gv (i&&(b==a)) v)) w'):
    WL P ops Q (⟨d,.call {callee:=.value x,args:=xs,argTypes:=r},ty,pos,af,aj (j,a)⟩::rest) n env w:=by
  by_cases g:(i&&(b==a))=ba
  · have q:=gl g;have s:=gr g;rw[eZ q]at m;have A:b=a:=by simpa using s
    subst A;refine WN o m<|bW u (t g) (by simpa using z g) p ?_;rintro e w'⟨y,rfl⟩;refine⟨_,Z,?_⟩;have:=k w' y;rw[eZ g]at this;exact this
  · have l:(i&&(b==a))=false:=by simpa using g
    have h:=k w<|bL.refl _ _;rw[l]at h;cases i with
    |true=>exact jM o m (by simpa using l) h
    |false=>exact wl_offU o m h
theorem XY{f:fW}(a:List al){xs:Array bo}{m:Array aT}{args:List al}{j dj:Nat}{b c:Bool}(g:(ops[j]?).bind (·.dst)=aj dj)(i:ev n env (.tmp dj)=.bool b)(p:Sk P f)(o:(b==c)=ba->ev n env x=.func (.func f) #[] a.toArray)
    (q:(b==c)=ba->xs.toList.map (ev n env)++a=args) (l:bC P f args.toArray w (fun e w'=>Grow w w'/\e=.returned v))
    (k:∀w',Grow w w'->WL P ops Q rest n (gq env d (gv (b==c) v)) w'):
    WL P ops Q (⟨d,.call {callee:=.value x,args:=xs,argTypes:=m},ty,pos,af,aj (j,c)⟩::rest) n env w:=
  Pg a ba g i p (fun h=>o (by simpa using h)) (fun h=>q (by simpa using h)) l (by simpa using k)
end
open Go.RowKit
section
variable{P:ca}{ops:Array ei}{Q:fi->Act->ao->Prop}{n:Nat}{env:Nat->al}{w w' w0:ao}{M K:BS}{hp:Nat->Chunk}{rest:List ei}
 {d:Option Nat} {op:Op} {ty:aT} {pos:String} {af:Array hF} {v:al} {g:Option (Nat×Bool)} {T:aT} {ρ:bo->al}
theorem r_cap{x:bo}{T E:aT}{e:Nat}{a:Option kq}{l c:Nat}(b:SliceOf P T E e)(f:ρ x=.slice a l c):
  (bl ρ ⟨d,.call {callee:=.builtin .cap,args:= #[x],argTypes:= #[T]},ty,pos,af,g⟩).run P w=.ok (.value (.int .i64 c)) w:=by
 simp[bl,gZ,js,iS,Builtin.cap_,f,cA,b.desc,goInt]
theorem Nu(w:ao)(t s ty e:aT)(i:TypeInfo)(z:al)(x:P.underlying t=aj (.slice e))(m:P.underlying s=aj (.int .i64))(A:P.info? e=aj i)(hz:i.zero=aj z)(F:0<i.size)
  (b:kq) (a c:Nat) (d:List al) (p:d.length=a*i.size) (holds:∀j v,d[j]? =aj v->w.cell? (b.add j)=aj v)
  (n:Nat) (C:0<n) (E:c<a+n) (B:((a+n:Nat):Int)<=9223372036854775807) (r:iu (a+n) c*i.bytes<=281474976710656) (y:n*i.bytes<=281474976710656):
  (gC #[t,s] ty #[.slice (aj b) a c,.int .i64 n]).run P w=
   .ok (.slice (aj ⟨w.heap.size,0,aw⟩) (a+n) (gS w (a+n) c e))
    (w.drew.alloc (.cells (d.toArray++cy z.cells n++cy z.cells (gS w (a+n) c e-(a+n))) e)):=by
 have hn:¬(a+n<=c):=by omega
 have l:n≠0:=by omega
 have h:¬(9223372036854775807<((a:Int)+(n:Int))):=by omega
 have g:¬(281474976710656<iu (a+n) c*i.bytes):=by omega
 have u:IntKind.i64.wrap (n:Int)=n:=by rw[IntKind.wrap_i64];omega
 have k:¬(281474976710656<(n:Int)*(i.bytes:Int)):=by
  rw[<-sR];omega
 have f:¬((n:Int)<0):=by omega
 have o:¬(n*i.size=0):=Nat.mul_ne_zero l V;have q:=run_firstCells_some (P:=P) w.drew i.size a b a c d p (by simpa using holds);simp[gC,pf x,pf m,fu,dy,ju,A,hz,asInt,hZ,u,hn,l,f,o,h,g,k,Question.forced,q,qv,gS]
theorem wl_growRaw{x y:bo}{E s:aT}{e c gg cap a k:Nat}{b:List al}(M:kg P T E e c)(S:P.underlying s=aj (.int .i64))(L:Raw w gg cap e E b)(R:ev n env x=.slice (aj ⟨gg,0,aw⟩) a cap)(hy:ev n env y=.int .i64 (k:Nat))(hs:0<e)(C:a<=cap)(X:0<k)(O:cap<a+k)
    (hb:(a+k)*c<=140737488355328) (K:a+k<=ks)
    (h:∀w' g2 f g,Grow w w'->w.heap.size<=g2->a+k<=f->Raw w' g2 f e E g->g.take (a*e)=b.take (a*e)->WL P ops Q rest n (gq env d (.slice (aj ⟨g2,0,aw⟩) (a+k) f)) w'):
    WL P ops Q (⟨d,.call {callee:=.builtin .append,args:= #[x,y],argTypes:= #[T,s]},ty,pos,af,aw⟩::rest) n env w:=by
  obtain⟨i,z,hi,hz,F,l,G⟩:=M.info;have I:a*e<=cap*e:=bd _ C;have N:=L.len;have o:(b.take<|a*e).length=a*e:=by rw[cd];omega
  have holds:∀j u,(b.take<|a*e)[j]? =aj u->w.cell? ((⟨gg,0,aw⟩:kq).add j)=aj u:=by
    intro j u r;rw[addr_add,fY];rw[cg]at r;split at r
    · simp[eW,L.blk,r]
    · cases r
  have B:((a+k:Nat):Int)<=9223372036854775807:=by simp only[ks]at K;omega
  have v:iu (a+k) cap<=2*(a+k):=by
    exact nextslicecap_le V
  have q:iu (a+k) cap*i.bytes<=281474976710656:=by
    have:=bd i.bytes v;rw[Nat.mul_assoc,l]at this;rw[l];omega
  have A:k*i.bytes<=281474976710656:=by
    rw[l];have:k*c<=(a+k)*c:=bd _ V;omega
  have m:=Nu (P:=P) w T s ty E i z M.desc S hi hz V ⟨gg,0,aw⟩ a cap (b.take (a*e)) (by rw[F];exact o) holds k X O B q A;have p:(bl (ev n env) ⟨d,.call {callee:=.builtin .append,args:= #[x,y],argTypes:= #[T,s]},ty,pos,af,aw⟩).run P w=.ok (.value<|.slice (aj ⟨w.heap.size,0,aw⟩) (a+k)<|gS w (a+k) cap E) (w.drew.alloc<|.cells ((b.take<|a*e).toArray++cy z.cells k++cy z.cells (gS w (a+k) cap E-(a+k))) E):=by
    simp only[bl,gZ,js,iS,cv,da,bp,fL,ck,et,R,hy,m]
  have hge:=grownCap_ge w (a+k) cap E;have t:gS w (a+k) cap E<=maxLen:=s9 w (a+k) cap E K;refine J p<|h _ _ _ ((b.take<|a*e)++(cy z.cells k).toList++(cy z.cells<|gS w (a+k) cap E-(a+k)).toList) ?_ (bt _) hge ⟨?_,?_,t⟩ ?_
  · exact(Grow.drew w).trans<|Grow.alloc _ _
  · have:=heap_alloc_new w.drew<|.cells ((b.take<|a*e).toArray++cy z.cells k++cy z.cells (gS w (a+k) cap E-(a+k))) E;rw[show((b.take (a*e))++(cy z.cells k).toList++(cy z.cells (gS w (a+k) cap E-(a+k))).toList).toArray=((b.take (a*e)).toArray++cy z.cells k++cy z.cells (gS w (a+k) cap E-(a+k))) by apply lb;simp];exact this
  · rw[bc,bc,o,ct,ct,kt,kt,G,<-cj,<-cj];congr 1;omega
  · rw[cf,cH V,ia V]
theorem run_copyN(w:ao)(dT q ty e:aT)(i:TypeInfo)(g o b k:Nat)(a:kq)(d h:Nat)(c:Array al)(t:aT)(cs:List al)
  (u:P.underlying dT=aj (.slice e)) (s:P.info? e=aj i)
  (n:w.heap[g]? =aj (.cells c t (0,0))) (hn:cs.length=iL d b*i.size)
  (l:∀j v,cs[j]? =aj v->w.cell? (a.add j)=aj v) (f:o+cs.length<=c.size) (p:∀v∈cs,v.oneCell'=ba):
  (rn #[dT,q] ty #[.slice (aj ⟨g,o,aw⟩) b k,.slice (aj a) d h]).run P w=
   .ok (goInt (iL d b)) (w.setRow g (c.toList.take o++cs++c.toList.drop (o+cs.length)).toArray):=by
 have r:=sY (P:=P) w a cs l;have m:=nt P g o t cs 0 c w n (by simpa using f) p;simp[rn,pf u,nv,mj,fu,dy,s,<-hn,r,m]
theorem Mc{x y:bo}{E r:aT}{b g gg cap o dl dc m c:Nat}{a news:List al}{ad:kq}(v:kg P T E b g)(l:Raw w gg cap b E a)(C:ev n env x=.slice (aj ⟨gg,o*b,aw⟩) dl dc)(F:ev n env y=.slice (aj ad) m c)
  (A:news.length=iL m dl*b) (k:∀j u,news[j]? =aj u->w.cell? (ad.add j)=aj u) (G:∀u∈news,u.oneCell'=ba) (q:o+iL m dl<=cap)
  (h:∀w',bL (fun x=>x=gg) w w'->Raw w' gg cap b E (a.take (o*b)++news++a.drop (o*b+news.length))->WL P ops Q rest n (gq env d (.int .i64 (iL m dl:Nat))) w'):
  WL P ops Q (⟨d,.call {callee:=.builtin .copy,args:= #[x,y],argTypes:= #[T,r]},ty,pos,af,aw⟩::rest) n env w:=by
 obtain⟨i,z,I,hz,t,B,K⟩:=v.info;have f:=l.len;have s:o*b+news.length<=cap*b:=by rw[A,<-cj];exact bd _ q
 have e:=run_copyN (P:=P) w T r ty E i gg (o*b) dl dc ad m c a.toArray E news v.desc I l.blk (by rw[t];exact A) k (by simpa[f]using s) G;rw[Jq l.blk]at e;have p:(bl (ev n env) ⟨d,.call {callee:=.builtin .copy,args:= #[x,y],argTypes:= #[T,r]},ty,pos,af,aw⟩).run P w=.ok (.value<|.int .i64 (iL m dl:Nat)) (wV w gg<|.cells (a.take (o*b)++news++a.drop (o*b+news.length)).toArray E (0,0)):=by
  simp only[bl,gZ,js,iS,cv,da,bp,fL,ck,et,C,F,e];rfl
 refine J p<|h _ (bL.wV _ _ _) ⟨vM<|iN l.blk,?_,l.le⟩;rw[bc,bc,cd,cL,f];omega
structure OverFn(P:ca)(f:fW)(T B:aT):Prop where
 out:∀(args:Array al) (w:ao),(callFunc f args).run P w=((Extern.SlicesOverlaps.overlaps #[T,T] #[B] args).run P w).andThen fun v w'=>.ok (.value v) w'
theorem wl_overlaps{x:bo}{xs:Array bo}{t:Array aT}{f:fW}{E B:aT}{j e g1 g2 c2 o1 o2 m1 m2 k1 k2:Nat}{a c:List al}{s:aT}(y:OverFn P f T B)(q:kg P T E j e)(m:w.heap[g1]? =aj (.cells a.toArray s (0,0)))(p:Raw w g2 c2 j E c)(k:g1≠g2)(r:0<c2*j)
  (v:ev n env x=.func (.func f) #[] #[]) (o:xs.toList.map (ev n env)=[.slice (aj ⟨g1,o1,aw⟩) m1 k1,.slice (aj ⟨g2,o2,aw⟩) m2 k2])
  (h:WL P ops Q rest n (gq env d (.bool aq)) w):
  WL P ops Q (⟨d,.call {callee:=.value x,args:=xs,argTypes:=t},ty,pos,af,aw⟩::rest) n env w:=by
 obtain⟨i,z,A,hz,l,u,C⟩:=q.info;have ho:=Lib.run_overlaps_apart (P:=P) w T B E q.desc j (fun w=>by simp[fu,dy,A,l]) ⟨g1,o1,aw⟩ ⟨g2,o2,aw⟩ m1 k1 m2 k2 k s E a.length c.length (by simp[ta,m]) (by simp[ta,p.blk]) (by rw[p.len];omega) (by simp[od,m]) (by simp[od,m]);have g:xs.map (ev n env)= #[.slice (aj ⟨g1,o1,aw⟩) m1 k1,.slice (aj ⟨g2,o2,aw⟩) m2 k2]:=by
  apply lb;simpa using o
 have b:=y.out #[.slice (aj ⟨g1,o1,aw⟩) m1 k1,.slice (aj ⟨g2,o2,aw⟩) m2 k2] w;rw[ho]at b;refine J ?_ h;simp only[bl,gZ,v,Deferred.ofValue,js];simp[g,b]
end
open Go.RowKit
section
variable{β:Type}
theorem ins_l1{C X:List β}{p s:Nat}(a:X.length=s)(hp:p<=C.length):(C.take p++X++C.drop (p+s)).take (p+s)=C.take p++X:=by
 have h:(C.take p++X).length=p+s:=by simp[a];omega
 rw[<-h,jU]
theorem ins_l2{B a R:List β}{p q:Nat}(c:p<=B.length)(b:a.length=q):(B.take p++a++R).take (p+q)=B.take p++a:=by
 have h:(B.take p++a).length=p+q:=by simp[b];omega
 rw[<-h,jU]
theorem ins_l3{C X a R:List β}{p s q:Nat}(g:X.length=s)(hp:p+s<=C.length)(b:a.length=q):
  ((C.take (p+s)++a++R).take p++X++(C.take (p+s)++a++R).drop (p+s)).take (p+s+q)=C.take p++X++a:=by
 have d:(C.take<|p+s).length=p+s:=by simp;omega
 have c:(C.take (p+s)++a++R).take p=C.take p:=by
  rw[cf,cH V,ee,cS V]
 have e:(C.take (p+s)++a++R).drop (p+s)=a++R:=by
  rw[cf];exact sh d
 rw[c,e,<-cf];have f:(C.take p++X++a).length=p+s+q:=by simp[g,b];omega
 rw[<-f,jU]
end
theorem raw_ins{α:Type}{R:lq α}{E:aT}{w w':ao}{A N:BS}{l:List α}{x:α}{gg g2 d i:Nat}{c f m:List al}(I:Raw w' g2 d R.sz E f)(M:bL (fun y=>y=gg) w w')(v:g2<w.heap.size->g2=gg)(X:i<=l.length)(hc:l.length+1<=d)(a0:l.length*R.sz<=c.length)
    (u:∀k (h:k<l.length),R.rd w (fun b=>A b\/b=gg) ((c.drop (k*R.sz)).take R.sz) l[k]) (O:R.rd w N m x) (hN:∀b,(A b\/b=gg)->b<w.heap.size->N b) (Q:gg<w.heap.size)
    (T:f.take (i*R.sz+R.sz+(l.length-i)*R.sz)=c.take (i*R.sz)++m++(c.drop (i*R.sz)).take ((l.length-i)*R.sz)):
    bZ R E w' A (.slice (aj ⟨g2,0,aw⟩) (l.length+1) d) (l.take i++[x]++l.drop i):=by
  have e:(l.take i++[x]++l.drop i).length=l.length+1:=by simp;omega
  have p:=R.len O;have P:i*R.sz<=l.length*R.sz:=bd _ X;have n:(l.length-i)*R.sz=l.length*R.sz-i*R.sz:=nj _ _ _;have q:(c.take<|i*R.sz).length=i*R.sz:=by rw[cd];omega
  have L:(l.length+1)*R.sz=i*R.sz+R.sz+(l.length-i)*R.sz:=by rw[cj,n];omega
  have s:∀cs a,R.rd w (fun b=>A b\/b=gg) cs a->R.rd w' (fun b=>A b\/ob (.slice (aj ⟨g2,0,aw⟩) (l.length+1) d) b) cs a:=fun cs a h=>
    R.go h M (fun b g _=>.inr g) (fun b g r=>g.elim .inl (fun g=>.inr (by have:b=g2:=g;subst this;exact v r)))
  have G:R.rd w' (fun b=>A b\/ob (.slice (aj ⟨g2,0,aw⟩) (l.length+1) d) b) m x:=
    R.go O M (fun b g r=>hN b (.inr g) r) (fun b g r=>hN b (g.elim .inl (fun g=>.inr (by have:b=g2:=g;subst this;exact v r))) r)
  refine⟨c.take (i*R.sz)++m++(c.drop<|i*R.sz).take ((l.length-i)*R.sz),⟨?_,.inr ⟨g2,d,f.toArray,?_,fx _,I.blk,?_,I.le,?_,?_⟩⟩,?_⟩
  · rw[e,L,bc,bc,q,p,cd,cL,n];omega
  · rw[e]
  · rw[e];omega
  · simpa using I.len
  · rw[e,L];exact T
  · intro k K;rw[e]at K;by_cases B:k<i
    · have o:(k+1)*R.sz<=i*R.sz:=bd _ B;rw[cj]at o;have F:=s _ _<|u k V;have t:(l.take i++[x]++l.drop i)[k]'(by rw[e];omega)=l[k]'V:=by
        rw[eR (by simp;omega),eR (by simp;omega),kl]
      rw[t,cf,fS V,cH (by rw[cL];omega),en,ee,cS V];exact F
    · by_cases C:k=i
      · subst C;have t:(l.take k++[x]++l.drop k)[k]'(by rw[e];omega)=x:=by
          rw[eR (by simp;omega),fj (by simp;omega)];simp
        rw[t,cf];have z:(c.take (k*R.sz)++(m++(c.drop<|k*R.sz).take ((l.length-k)*R.sz))).drop (k*R.sz)=m++(c.drop<|k*R.sz).take ((l.length-k)*R.sz):=by
          exact sh q
        rw[z,<-p,jU];exact G
      · obtain⟨j,rfl⟩:∃j,k=i+1+j:=⟨k-i-1,by omega⟩;have F:=s _ _<|u (i+j) V;have t:(l.take i++[x]++l.drop i)[i+1+j]'(by rw[e];omega)=l[i+j]'V:=by
          rw[fj (by simp;omega),mS];congr 1;simp;omega
        have S:(c.take (i*R.sz)++m).length=i*R.sz+R.sz:=by rw[bc,q,p]
        have z:(c.take (i*R.sz)++m++(c.drop<|i*R.sz).take ((l.length-i)*R.sz)).drop ((i+1+j)*R.sz)=((c.drop<|i*R.sz).take ((l.length-i)*R.sz)).drop (j*R.sz):=by
          rw[show(i+1+j)*R.sz=(c.take (i*R.sz)++m).length+j*R.sz by rw[S,cj,cj,nh]];rw[ix];have:(c.take (i*R.sz)++m).drop ((c.take (i*R.sz)++m).length+j*R.sz)=[]:=cC V;rw[this,cF];congr 1;omega
        have o:(j+1)*R.sz<=(l.length-i)*R.sz:=bd _ V;rw[cj]at o;rw[t,z,en,ee,cS V,lP,<-cj];exact F
def ins1{α:Type}(l:List α)(i:Int)(m:List α):Option (List α):=if 0<=i/\i<=l.length then aj (l.take i.toNat++m++l.drop i.toNat)else aw
theorem o_ins{α:Type}{l r m:List α}{i:Int}(h:ins1 l i m=aj r):∃a:Nat,i=a/\a<=l.length/\r=l.take a++m++l.drop a:=by
  unfold ins1 at h;by_cases hp:0<=i/\i<=l.length
  · rw[if_pos hp]at h;cases h;exact⟨i.toNat,by omega,by omega,Z⟩
  · rw[if_neg hp]at h;cases h
theorem Ph{w:ao}{gg cap d:Nat}{E:aT}{b:List al}(c:Raw w gg cap d E b)(o k:Nat):∀j u,((b.drop o).take k)[j]? =aj u->w.cell? ((⟨gg,o,aw⟩:kq).add j)=aj u:=by
  intro j u a;rw[addr_add];rw[cg]at a;split at a
  · rw[cw]at a;simp[eW,c.blk,a]
  · cases a
theorem bZ.srcO{α:Type}{R:lq α}{E:aT}{w:ao}{A:BS}{v:al}{l:List α}(h:bZ R E w A v l):ed R w BE (fun b=>A b\/ob v b) v l:=by
  obtain⟨xs,c,d⟩:=h;rcases c.2 with⟨rfl,hn⟩|⟨g,cap,cur,rfl,e1,e2,e3,e4,e5,e6⟩
  · have:l=[]:=cl hn;subst this;exact ed.nil
  · refine⟨aj ⟨g,0,aw⟩,cap,Z,e3,e4,(fun h=>by cases h),fun i a=>⟨g,0,cur,E,(0,0),Z,fun h=>h,e2,?_⟩⟩;have:=d i a;rw[<-e6,en,ee,cS ?_]at this
    · rw[fY];exact this
    · have:(i+1)*R.sz<=l.length*R.sz:=bd _ a;rw[cj]at this;omega
section
variable{P:ca}{ops:Array ei}{Q:fi->Act->ao->Prop}{n:Nat}{env:Nat->al}{w:ao}{rest:List ei}
 {d:Option Nat} {ty:aT} {pos:String} {af:Array hF} {v:al} {T:aT} {x y:bo}
theorem wl_appO{α:Type}{R:lq α}{E:aT}{e a:Nat}{A:BS}{u:al}{l m:List α}(r:kg P T E e a)(p:R.sz=e)(C:bZ R E w A v l)(B:ed R w BE A u m)(j:ev n env x=v)(q:ev n env y=u)
  (s:∀b,ob v b->A b) (z:(l.length+m.length)*a<=140737488355328) (o:l.length+m.length<=9223372036854775807)
  (k:∀w' c,bZ R E w' A c (l++m)->bL (ob v) w w'->(∀b,ob c b->b<w.heap.size->ob v b)->WL P ops Q rest n (gq env d c) w'):
  WL P ops Q (⟨d,.call {callee:=.builtin .append,args:= #[x,y],argTypes:= #[T,T]},ty,pos,af,aw⟩::rest) n env w:=by
 obtain⟨c,w',i,h,t,f⟩:=run_app (d:=d) (ty:=ty) (pos:=pos) (af:=af) (g:=aw) r p j C q B s z o;exact J i<|k w' c h t f
end
theorem ins_av{α β:Type}{R:lq α}{R':lq β}{E g:aT}{w0 w:ao}{M K:BS}{hp:Nat->Chunk}{i j:Nat}{v u:al}{l:List α}{m:List β}(h:SH w0 M K w hp)(c:i≠j)(f:hp i=.own R E v l)(d:hp j=.own R' g u m):∀b,((M b\/rest hp i b)\/ob v b)->b<w.heap.size->(M b\/rest hp j b)\/ob u b:=by
  rintro b((a|⟨k,n,a⟩)|a)_
  · exact .inl<|.inl a
  · by_cases e:k=j
    · subst e;rw[d]at a;exact .inr a
    · exact .inl<|.inr ⟨k,e,a⟩
  · exact .inl (.inr ⟨i,c,by rw[f];exact a⟩)
open Go.RowKit
section
variable{P:ca}{ops:Array ei}
variable{Q:fi->Act->ao->Prop}{n:Nat}{env:Nat->al}{w w0:ao}{M K:BS}{hp:Nat->Chunk}
structure XE(P:ca)(ops:Array ei)(L:BS)(ws:ao)(Q:fi->Act->ao->Prop)(fuel:Nat)(listed:Array Bool)(n:Nat)(env:Nat->al)(w:ao):Prop where
 out:qB P .any ops (pb Q) (bL L ws) fuel listed (act n env) w
theorem jb{L:BS}{id:Nat}{l:List ei}(a:P.follows .mixedOrders=ba)(b:SH w0 M K w hp)
  (h:∀w,SH w0 M K w hp->XE P l.toArray L w Q l.length (nb l.length aq) n env w):WC P (fX id l.toArray ba) Q n env w:=
 ⟨wp_region_noPanic (wp_region_held (S:=bL L w.drew) a (h _ (b.grow (Grow.drew w))).out)⟩
variable{d:Option Nat}{op:Op}{ty:aT}{pos:String}{af:Array hF}{v:al}{g:Option (Nat×Bool)}{i fuel:Nat}{listed:Array Bool}
theorem whk_first{L:BS}{ws:ao}{o:ei}(e:bL L ws w)(d:ops[i]? =aj o)(b:ec ops=ba)(f:eS .any ops listed i=ba)(a:(cR .any ops listed).contains i=ba)
  (c:YieldsIf P ops (bL L ws) o v (act n env)) (h:XE P ops L ws Q fuel (listed.setIfInBounds i ba) n (gq env o.dst v) w):XE P ops L ws Q (fuel+1) listed n env w:=by
 refine⟨wpAnyH_take d b f a (fun _ _ _ h=>h) c e ?_⟩;rw[EW];exact h.out
theorem whk_ok{L:BS}{ws:ao}(i:Nat)(l:bL L ws w)(k:ops[i]? =aj ⟨d,op,ty,pos,af,g⟩)(j:cm ⟨d,op,ty,pos,af,g⟩ (ep ops (act n env).tmps)=ba)(c:ec ops=ba)(m:eS .any ops listed i=ba)(b:(cR .any ops listed).contains i=ba)
  (e:∀a,bL L ws a->(bl (ev n env) ⟨d,op,ty,pos,af,g⟩).run P a=.ok (.value v) a) (h:XE P ops L ws Q fuel (listed.setIfInBounds i ba) n (gq env d v) w):XE P ops L ws Q (fuel+1) listed n env w:=
 whk_first (o:=⟨d,op,ty,pos,af,g⟩) l k c m b (.inl ⟨j,fun a f=>by rw[gP];exact e a f⟩) h
theorem whk_done{L:BS}{ws:ao}(a:cR .any ops listed=[])(h:Q .normal (act n env) w):XE P ops L ws Q fuel listed n env w:=⟨wpAnyH_done a (NoPanic.normal h) fuel⟩
def Uy(P:ca)(ops:Array ei)(L:BS)(ws:ao)(Q:fi->Act->ao->Prop)(fuel:Nat)(listed:Array Bool):fi->Act->ao->Prop:=
 selK (fun a' w'=>bL L ws w'/\qB P .any ops (pb Q) (bL L ws) fuel listed a' w') (pb Q)
theorem au{L:BS}{ws:ao}(a:bL L ws w)(h:XE P ops L ws Q fuel listed n env w):Uy P ops L ws Q fuel listed .normal (act n env) w:=⟨a,h.out⟩
theorem whk_eff{L:BS}{ws:ao}(i:Nat)(b:cR .any ops listed=[i])(e:ops[i]? =aj ⟨d,op,ty,pos,af,g⟩)(c:cm ⟨d,op,ty,pos,af,g⟩ (ep ops (act n env).tmps)=ba)
  (h:WL P ops (Uy P ops L ws Q fuel (listed.setIfInBounds i ba)) [⟨d,op,ty,pos,af,aw⟩] n env w):XE P ops L ws Q (fuel+1) listed n env w:=by
 refine⟨nf b zq3 fun k a=>?_⟩;obtain rfl:k=i:=by simpa using a
 exact Hz e c h
theorem jk{L:BS}{ws:ao}{l:Option Nat}{e:Op}{c:aT}{a:String}{b:Array hF}{o:Option (Nat×Bool)}(i j:Nat)(s:cR .any ops listed=[i,j])(t:ops[i]? =aj ⟨d,op,ty,pos,af,g⟩)(r:cm ⟨d,op,ty,pos,af,g⟩ (ep ops (act n env).tmps)=ba)
    (q:ops[j]? =aj ⟨l,e,c,a,b,o⟩) (m:cm ⟨l,e,c,a,b,o⟩ (ep ops (act n env).tmps)=ba)
    (h:WL P ops (Uy P ops L ws Q fuel (listed.setIfInBounds i ba)) [⟨d,op,ty,pos,af,aw⟩] n env w) (p:WL P ops (Uy P ops L ws Q fuel (listed.setIfInBounds j ba)) [⟨l,e,c,a,b,aw⟩] n env w):XE P ops L ws Q (fuel+1) listed n env w:=by
  refine⟨nf s zq3 fun k f=>?_⟩;rcases bn.1 f with rfl|f
  · exact Hz t r h
  · obtain rfl:k=j:=by simpa using f
    exact Hz q m p
end
theorem bL.Ga{a b c:ao}{L N:BS}(h:bL L a b)(k:bL N b c)(hN:∀x,N x->a.heap.size<=x):bL L a c:=h.step k (fun x d e=>by have:=hN x d;omega)
theorem bL.same{a b c:ao}{L:BS}(h:bL L a b)(k:bL L b c):bL L a c:=h.step k (fun _ d _=>d)
section
variable{P:ca}{ops:Array ei}{Q:fi->Act->ao->Prop}{n:Nat}{env:Nat->al}{w w' w0:ao}{M K:BS}{hp:Nat->Chunk}{rest:List ei}
 {d:Option Nat} {op:Op} {ty:aT} {pos:String} {af:Array hF} {v:al} {g:Option (Nat×Bool)} {T:aT} {ρ:bo->al} {x y:bo}
theorem w_stOG{α:Type}{R:lq α}{E:aT}{G:Nat}{l:List α}{k:Int}{a a':α}{b off:Nat}{z u:al}(h:SH w0 M K w hp)(i:Nat)(s:hp i=.own R E u l)(L:ob u b)(hs:R.sz=G)(r:l[k.toNat]? =aj a)(hT:One P T z)(c:ev n env x=.pointer (aj ⟨b,k.toNat*G+off,aw⟩))
    (hy:ev n env y=v) (h1:v.oneCell'=ba) (o:mX off G=ba) (hset:∀cs,R.rd w (SH.A M hp) cs a->R.rd w (SH.A M hp) (cs.set off v) a')
    (kk:∀w',SH w0 M K w' (bV hp i (.own R E u (l.set k.toNat a')))->bL (ob u) w w'->WL P ops Q rest n (gq env d fR) w'):
    WL P ops Q (⟨d,.store T x y,ty,pos,af,aw⟩::rest) n env w:=by
  subst hs;rw[lx]at o;have f:k.toNat<l.length:=by
    rcases cD k.toNat l.length with h|h
    · exact h
    · rw[bw h]at r;cases r
  have B:l[k.toNat]=a:=by rw[bh f]at r;exact cQ r
  generalize k.toNat=k at*;have e:∀b,ob u b->SH.A M hp b:=fun b L=>.inr ⟨i,by rw[s];exact L⟩;obtain⟨xs,O,q3⟩:=h.bI i s;rcases O.2 with⟨rfl,hn⟩|⟨g',cap,cur,rfl,e1,e2,e3,e4,e5,e6⟩
  · omega
  have I:b=g':=L;subst I;have F:(k+1)*R.sz<=l.length*R.sz:=bd _ f;have a0:l.length*R.sz<=cap*R.sz:=bd _ e3;rw[cj]at F;have C:k*R.sz+off<cur.size:=by omega
  have m:=bL.wV w b<|.cells (cur.setIfInBounds (k*R.sz+off) v) E (0,0);refine A9 (Si hT c e2 C hy h1) (kk _ (h.step i m (fun x c _=>by rw[s];exact c) (fun x c _=>by rw[s];exact c) ⟨xs.set (k*R.sz+off) v,⟨?_,.inr ⟨b,cap,cur.setIfInBounds (k*R.sz+off) v,?_,e1,?_,?_,e4,?_,?_⟩⟩,?_⟩) (m.weaken (fun x c _=>c)))
  · rw[cp,cp];exact O.1
  · rw[cp]
  · rw[vM (iN e2)]
  · rw[cp];exact e3
  · simpa using e5
  · rw[cp,jx,mx,e6]
  · intro g t;have N:g<l.length:=by rwa[cp]at t
    have p:=fun cs a(h:R.rd w (SH.A M hp) cs a)=>R.go (A':=fun x=>(M x\/(SH.av hp i (.own R E (.slice (aj ⟨b,0,aw⟩) l.length cap) (l.set k a'))) x)\/ob (.slice (aj ⟨b,0,aw⟩) l.length cap) x) h m (fun x c _=>e x c) (fun x c _=>by
      rcases c with(c|c|c)|c
      · exact .inl c
      · exact .inr<|lu c
      · exact e x c
      · exact e x c)
    have S:=fun j(X:j<l.length)=>R.go (A':=SH.A M hp) (q3 j X) (bL.refl BE w) (fun _ h=>h.elim) fun x c _=>.inl c;by_cases q:g=k
    · subst q;rw[lR,Qq rfl];exact p _ _<|hset _<|B▸S g f
    · rw[mz (Ne.symm q),NM]
      · exact p _ _<|S g N
      · rcases cD k g with h5|h5
        · left;have:(k+1)*R.sz<=g*R.sz:=bd _ h5;rw[cj]at this;omega
        · right;have:(g+1)*R.sz<=k*R.sz:=bd _ V;rw[cj]at this;omega
end
open Go.RowKit
section
variable{w0 w:ao}{M K:BS}{hp:Nat->Chunk}{α:Type}{R:lq α}
theorem SH.gB(h:SH w0 M K w hp)(i:Nat):SH w0 M K w (bV hp i .no):=h.step i (bL.refl BE w) (fun _ h=>h.elim) (fun _ h=>h.elim) U
variable{P:ca}{T T2 ty:aT}{ρ:bo->al}{d:Option Nat}{pos:String}{af:Array hF}{g:Option (Nat×Bool)}{x y:bo}{v:al}{A:BS}{o:Option α}
def PtrTo(P:ca)(T:aT):Prop:=∃E,P.underlying T=aj (.pointer E)
theorem PtrTo.p(a:PtrTo P T):P.underlying T=aj (.pointer (P.pointee T)):=by
 obtain⟨E,a⟩:=a;simp[Program.pointee,a]
end
open Go.RowKit
def Chunk.Sr:Chunk->Prop
 | .sr .. =>False
 | .pt .. =>False
 | .two a b=>a.Sr/\b.Sr
 |_=>True
theorem Chunk.re{c:Chunk}{w:ao}{M O j i:BS}(e:c.Sr)(h:c.holds w M O)(d:∀b,j b\/i b->b<w.heap.size->M b\/O b):c.holds w j i:=by
 induction c with
 |no=>trivial
 |rd R v l=>exact ed.sub h d d
 |sr R v l=>exact e.elim
 |pt b o cs=>exact e.elim
 |blk b cs=>exact h
 |own R E v l=>exact bZ.go h (bL.refl BE w) (fun _ h=>h.elim) (fun _ h=>h.elim) (fun b g f=>.inl (d b g f))
 |rp R v x=>exact R.go h (bL.refl BE w) (fun _ h=>h.elim) d
 |two a b iha ihb=>exact⟨iha e.1 h.1,ihb e.2 h.2.1,h.2.2⟩
 |eF S=>exact S.go h (bL.refl BE w) (fun _ h=>h.elim) (fun _ h=>h.elim) (fun b g f=>.inl (d b g f))
 |mp b jC=>exact h
section
variable{w0 w w':ao}{M K:BS}{hp:Nat->Chunk}
theorem SH.pair(h:SH w0 M K w hp)(i j:Nat)(l:i≠j):SH w0 M K w (bV (bV hp j .no) i (.two (hp i) (hp j))):=by
  have c:∀x b,(bV (bV hp j .no) i (.two (hp i)<|hp j) x).own' b->(x=i/\((hp i).own' b\/(hp j).own' b))\/(x≠i/\x≠j/\(hp x).own' b):=by
    intro x b a;by_cases e:x=i
    · subst e;rw[bY]at a;exact .inl ⟨Z,a⟩
    · rw[dZ e]at a;by_cases f:x=j
      · subst f;rw[bY]at a;exact a.elim
      · rw[dZ f]at a;exact .inr ⟨e,f,a⟩
  have d:∀b,iO (bV (bV hp j .no) i<|.two (hp i)<|hp j) b->iO hp b:=by
    rintro b⟨x,k⟩;rcases c x b k with⟨_,h1|h1⟩|⟨_,_,h1⟩
    · exact⟨i,h1⟩
    · exact⟨j,h1⟩
    · exact⟨x,h1⟩
  refine⟨h.keep,h.ltM,fun x b a=>?_,fun x=>?_,fun x y g b k m=>?_,fun x b a=>?_⟩
  · rcases c x b a with⟨_,h1|h1⟩|⟨_,_,h1⟩
    · exact h.apM i b h1
    · exact h.apM j b h1
    · exact h.apM x b h1
  · by_cases e:x=i
    · subst e;rw[bY];exact⟨Chunk.sub (h.ok x) fun b a _=>d b a,Chunk.sub (h.ok j) fun b a _=>d b a,fun b a=>h.apart x j l b a⟩
    · rw[dZ e];by_cases f:x=j
      · subst f;rw[bY];trivial
      · rw[dZ f];exact Chunk.sub (h.ok x) (fun b a _=>d b a)
  · rcases c x b k with⟨e1,h1⟩|⟨e1,e1',h1⟩<;>rcases c y b m with⟨f,h2⟩|⟨f,e2',h2⟩
    · exact g<|e1.trans f.symm
    · rcases h1 with h1|h1
      · exact h.apart i y (fun e=>f e.symm) b h1 h2
      · exact h.apart j y (fun e=>e2' e.symm) b h1 h2
    · rcases h2 with h2|h2
      · exact h.apart x i e1 b h1 h2
      · exact h.apart x j e1' b h1 h2
    · exact h.apart x y g b h1 h2
  · rcases c x b a with⟨_,h1|h1⟩|⟨_,_,h1⟩
    · exact h.old i b h1
    · exact h.old j b h1
    · exact h.old x b h1
theorem SH.unpair{a c:Chunk}(h:SH w0 M K w hp)(i j:Nat)(r:i≠j)(q:hp i=.two a c)(t:hp j=.no):SH w0 M K w (bV (bV hp i a) j c):=by
  have k:∀x b,(bV (bV hp i a) j c x).own' b->(x=i/\a.own' b)\/(x=j/\c.own' b)\/(x≠i/\x≠j/\(hp x).own' b):=by
    intro x b d;by_cases e:x=j
    · subst e;rw[bY]at d;exact .inr (.inl ⟨Z,d⟩)
    · rw[dZ e]at d;by_cases f:x=i
      · subst f;rw[bY]at d;exact .inl ⟨Z,d⟩
      · rw[dZ f]at d;exact .inr (.inr ⟨f,e,d⟩)
  have o:∀b,a.own' b->(hp i).own' b:=fun b d=>by rw[q];exact .inl d
  have n:∀b,c.own' b->(hp i).own' b:=fun b d=>by rw[q];exact .inr d
  have g:∀b,iO (bV (bV hp i a) j c) b->iO hp b:=by
    rintro b⟨x,p⟩;rcases k x b p with⟨_,h1⟩|⟨_,h1⟩|⟨_,_,h1⟩
    · exact⟨i,o b h1⟩
    · exact⟨i,n b h1⟩
    · exact⟨x,h1⟩
  have l:=h.ok i;rw[q]at l;refine⟨h.keep,h.ltM,fun x b d=>?_,fun x=>?_,fun x y m b p s=>?_,fun x b d=>?_⟩
  · rcases k x b d with⟨_,h1⟩|⟨_,h1⟩|⟨_,_,h1⟩
    · exact h.apM i b<|o b h1
    · exact h.apM i b<|n b h1
    · exact h.apM x b h1
  · by_cases e:x=j
    · subst e;rw[bY];exact Chunk.sub l.2.1 (fun b d _=>g b d)
    · rw[dZ e];by_cases f:x=i
      · subst f;rw[bY];exact Chunk.sub l.1 (fun b d _=>g b d)
      · rw[dZ f];exact Chunk.sub (h.ok x) (fun b d _=>g b d)
  · rcases k x b p with⟨e1,h1⟩|⟨e1,h1⟩|⟨e1,e1',h1⟩<;>rcases k y b s with⟨f,h2⟩|⟨f,h2⟩|⟨f,e2',h2⟩
    · exact m<|e1.trans f.symm
    · exact l.2.2 b h1 h2
    · exact h.apart i y (fun e=>f e.symm) b (o b h1) h2
    · exact l.2.2 b h2 h1
    · exact m<|e1.trans f.symm
    · exact h.apart i y (fun e=>f e.symm) b (n b h1) h2
    · exact h.apart x i e1 b h1<|o b h2
    · exact h.apart x i e1 b h1<|n b h2
    · exact h.apart x y m b h1 h2
  · rcases k x b d with⟨_,h1⟩|⟨_,h1⟩|⟨_,_,h1⟩
    · exact h.old i b<|o b h1
    · exact h.old i b<|n b h1
    · exact h.old x b h1
theorem SH.lendC(h:SH w0 M K w hp)(i:Nat)(d:(hp i).Sr):(hp i).holds w (fun b=>M b\/rest hp i b) (hp i).own'/\(∀b,(hp i).own' b->¬(M b\/rest hp i b))/\(∀b,(M b\/rest hp i b)->b<w.heap.size):=by
  refine⟨Chunk.re d (h.ok i) fun b a _=>?_,fun b a c=>?_,fun b a=>?_⟩
  · rcases a with(a|a)|a
    · exact .inl a
    · exact .inr<|lu a
    · exact .inr ⟨i,a⟩
  · rcases c with c|⟨j,hj,c⟩
    · exact h.apM i b a c
    · exact h.apart j i hj b c a
  · rcases a with a|⟨j,_,a⟩
    · exact cq (h.ltM b a) h.keep.size
    · exact Chunk.lt (h.ok j) b a
theorem SH.givenC{C:Chunk}(h:SH w0 M K w hp)(i:Nat)(e:C.Sr)(c:C.holds w' (fun b=>M b\/rest hp i b) C.own')(d:bL (hp i).own' w w')(hn:∀b,C.own' b->b<w.heap.size->(hp i).own' b):SH w0 M K w' (bV hp i C):=
  h.step i d (fun _ a _=>a) hn (Chunk.re e c (fun b a _=>by
    rcases a with a|a|a
    · exact .inl<|.inl a
    · exact .inl<|.inr a
    · exact .inr a))
theorem SH.yL{C:Chunk}(l:∀b,M b->b<w.heap.size)(m:C.holds w M C.own')(g:∀b,C.own' b->¬M b):SH w M C.own' w (bV hno 1 C):=by
  have a:∀b,iO (bV hno 1 C) b->C.own' b:=by
    rintro b⟨j,f⟩;by_cases e:j=1
    · subst e;rw[bY]at f;exact f
    · rw[dZ e]at f;exact f.elim
  refine⟨bL.refl _ _,l,fun i b c=>g b<|a b ⟨i,c⟩,fun i=>?_,fun i j k b c d=>?_,fun i b c _=>a b ⟨i,c⟩⟩
  · by_cases e:i=1
    · subst e;rw[bY];exact Chunk.sub m (fun b c _=>a b c)
    · rw[dZ e];trivial
  · by_cases e:i=1
    · have n:j≠1:=fun h=>k<|e.trans h.symm;rw[dZ n]at d;exact d.elim
    · rw[dZ e]at c;exact c.elim
theorem SH.outC{C:Chunk}(h:SH w0 M K w hp)(i:Nat)(c:hp i=C)(d:C.Sr):C.holds w M C.own'/\bL K w0 w/\(∀b,C.own' b->b<w0.heap.size->K b):=by
 subst c;exact⟨Chunk.re d (h.ok i) fun b a _=>a.imp id fun a=>⟨i,a⟩,h.keep,h.old i⟩
end
structure Val where
 kind:Int
 n:Int
deriving DecidableEq
def bG:lq Val where
 sz:=2
 rd w A cs x:=cs=[.int .i64 x.kind,.int .i64 x.n]
 len:=by rintro w A cs x rfl;rfl
 one:=by rintro w A cs x rfl u hu;simp only[bn,df,or_false]at hu;rcases hu with rfl|rfl<;>first|rfl
 pos:=by decide
 go:=fun h _ _ _=>h
structure Tok where
 kind:Int
 n:Int
deriving DecidableEq
def qX:lq Tok where
 sz:=2
 rd w A cs x:=cs=[.int .i64 x.kind,.int .i64 x.n]
 len:=by rintro w A cs x rfl;rfl
 one:=by rintro w A cs x rfl u hu;simp only[bn,df,or_false]at hu;rcases hu with rfl|rfl<;>first|rfl
 pos:=by decide
 go:=fun h _ _ _=>h
structure fJ where
 from_:Int
 jy:Int
 co:Int
 aJ:Int
 taken:Bool
 image:List Int
deriving DecidableEq
def fO:lq fJ where
 sz:=6
 rd w A cs x:=∃pX,cs=[.int .i64 x.from_,.int .i64 x.jy,.int .i64 x.co,.int .i64 x.aJ,.bool x.taken,pX]/\dm cZ w A pX x.image
 len:=by rintro w A cs x ⟨pX,rfl,h0⟩;rfl
 one:=by rintro w A cs x ⟨pX,rfl,h0⟩ u hu;simp only[bn,df,or_false]at hu;rcases hu with rfl|rfl|rfl|rfl|rfl|rfl<;>first|rfl|exact h0.one
 pos:=by decide
 go:=by rintro w A cs x w2 A2 K ⟨pX,rfl,h0⟩ hk hK hA;exact⟨_,Z,h0.go hk hK hA⟩
theorem HV{w:ao}{A:BS}{cs:List al}{x:fJ}(h:fO.rd w A cs x):∃a,cs=[.int .i64 x.from_,.int .i64 x.jy,.int .i64 x.co,.int .i64 x.aJ,.bool x.taken,a]/\dm cZ w A a x.image:=h
structure Co where
 kv:Int
 aJ:Int
 image:List Int
 offered:Int
deriving DecidableEq
def G8:lq Co where
 sz:=4
 rd w A cs x:=∃pX,cs=[.int .i64 x.kv,.int .i64 x.aJ,pX,.int .i64 x.offered]/\dm cZ w A pX x.image
 len:=by rintro w A cs x ⟨pX,rfl,h0⟩;rfl
 one:=by rintro w A cs x ⟨pX,rfl,h0⟩ u hu;simp only[bn,df,or_false]at hu;rcases hu with rfl|rfl|rfl|rfl<;>first|rfl|exact h0.one
 pos:=by decide
 go:=by rintro w A cs x w2 A2 K ⟨pX,rfl,h0⟩ hk hK hA;exact⟨_,Z,h0.go hk hK hA⟩
theorem kK{w:ao}{A:BS}{cs:List al}{x:Co}(h:G8.rd w A cs x):∃a,cs=[.int .i64 x.kv,.int .i64 x.aJ,a,.int .i64 x.offered]/\dm cZ w A a x.image:=h
structure Rec where
 kind:Int
 co:Int
 aJ:Int
 place:Int
 says:List Int
 image:List Int
deriving DecidableEq
def Su:lq Rec where
 sz:=6
 rd w A cs x:=∃WQ,∃pX,cs=[.int .i64 x.kind,.int .i64 x.co,.int .i64 x.aJ,.int .i64 x.place,WQ,pX]/\dm cZ w A WQ x.says/\dm cZ w A pX x.image
 len:=by rintro w A cs x ⟨WQ,pX,rfl,h0,h1⟩;rfl
 one:=by rintro w A cs x ⟨WQ,pX,rfl,h0,h1⟩ u hu;simp only[bn,df,or_false]at hu;rcases hu with rfl|rfl|rfl|rfl|rfl|rfl<;>first|rfl|exact h0.one|exact h1.one
 pos:=by decide
 go:=by rintro w A cs x w2 A2 K ⟨WQ,pX,rfl,h0,h1⟩ hk hK hA;exact⟨_,_,Z,h0.go hk hK hA,h1.go hk hK hA⟩
theorem Pj{w:ao}{A:BS}{cs:List al}{x:Rec}(h:Su.rd w A cs x):∃b,∃a,cs=[.int .i64 x.kind,.int .i64 x.co,.int .i64 x.aJ,.int .i64 x.place,b,a]/\dm cZ w A b x.says/\dm cZ w A a x.image:=h
theorem ed.mapR{α:Type}{R R':lq α}{w:ao}{B A:BS}{v:al}{l:List α}(n:R.sz=R'.sz)(h:∀cs x,x∈l->R.rd w A cs x->R'.rd w A cs x)(j:ed R w B A v l):ed R' w B A v l:=by
 obtain⟨a,cap,rfl,m,g,q,d⟩:=j;refine⟨a,cap,Z,m,g,q,fun i c=>?_⟩;obtain⟨b,o,cells,E,e,p,f,r,k⟩:=d i c;refine⟨b,o,cells,E,e,p,f,r,?_⟩;rw[<-n];exact h _ _ (List.getElem_mem c) k
structure dh where
 kind:Int
 n:Int
 e:List Tok
 f:List Tok
 a:List dh
 b:List dh
def vQ:Nat->{R:lq dh // R.sz=6}
 |0=>⟨{sz:=6,rd:=fun _ _ _ _=>False,len:=fun h=>h.elim,one:=fun h=>h.elim,pos:=by decide,go:=fun h=>h.elim},rfl⟩
 |d+1=>⟨{
  sz:=6
  rd:=fun w A cs x=>∃i j g c,cs=[.int .i64 x.kind,.int .i64 x.n,i,j,g,c]/\dm qX w A i x.e/\dm qX w A j x.f/\dm (vQ d).1 w A g x.a/\dm (vQ d).1 w A c x.b
  len:=by rintro w A cs x ⟨i,j,g,c,rfl,_⟩;rfl
  one:=by rintro w A cs x ⟨i,j,g,c,rfl,q,p,r,o⟩ u s;simp only[bn,df,or_false]at s;rcases s with rfl|rfl|rfl|rfl|rfl|rfl<;>first|rfl|exact q.one|exact p.one|exact r.one|exact o.one
  pos:=by decide
  go:=by rintro w A cs x v t K ⟨i,j,g,c,rfl,q,p,r,o⟩ k l m;exact⟨_,_,_,_,Z,q.go k l m,p.go k l m,r.go k l m,o.go k l m⟩},Z⟩
theorem NQ:∀(d:Nat) {w:ao} {A:BS} {cs:List al} {x:dh},(vQ d).1.rd w A cs x->(vQ (d+1)).1.rd w A cs x
 |0,_,_,_,_,h=>h.elim
 |d+1,_,_,_,_,h=>by
  obtain⟨i,j,f,b,rfl,e,c,g,a⟩:=h;exact⟨i,j,f,b,Z,e,c,g.mapR ((vQ d).2.trans (vQ<|d+1).2.symm) fun _ _ _ h=>NQ d h,a.mapR ((vQ d).2.trans (vQ<|d+1).2.symm) fun _ _ _ h=>NQ d h⟩
theorem rStmtN_le{d a:Nat}(b:d<=a){w:ao}{A:BS}{cs:List al}{x:dh}(h:(vQ d).1.rd w A cs x):(vQ a).1.rd w A cs x:=by
 induction b with
 |refl=>exact h
 |step _ ih=>exact NQ _ ih
def iT:lq dh where
 sz:=6
 rd w A cs x:=∃d,(vQ d).1.rd w A cs x
 len:=by rintro w A cs x ⟨d,h⟩;exact((vQ d).1.len h).trans (vQ d).2
 one:=by rintro w A cs x ⟨d,h⟩;exact(vQ d).1.one h
 pos:=by decide
 go:=by rintro w A cs x w2 A2 K ⟨d,h⟩ hk hK hA;exact⟨d,(vQ d).1.go h hk hK hA⟩
theorem max_of{P:Nat->Nat->Prop}(b:∀d a i,d<=a->P d i->P a i):∀n,(∀i,i<n->∃d,P d i)->∃d,∀i,i<n->P d i
  |0,_=>⟨0,fun i f=>absurd f (eN _)⟩
  |n+1,h=>by
    obtain⟨d,g⟩:=max_of b n fun i f=>h i V;obtain⟨a,c⟩:=h n V;refine⟨max d a,fun i f=>?_⟩;by_cases e:i=n
    · subst e;exact b _ _ _ (sk _ _) c
    · exact b _ _ _ (sS _ _)<|g i V
theorem XZ{w:ao}{A:BS}{v:al}{l:List dh}(h:dm iT w A v l):∃d,∀e,d<=e->dm (vQ e).1 w A v l:=by
 obtain⟨a,cap,rfl,s,r,t,q⟩:=h;have u:=max_of (P:=fun d i=>∀h:i<l.length,∃b o cells E c,a=aj ⟨b,o,aw⟩/\¬A b/\w.heap[b]? =aj (.cells cells E c)/\(vQ d).1.rd w A ((cells.toList.drop<|o+i*6).take 6) l[i])
  (fun d e i p hp h=>let ⟨b,o,cells,E,c,j,f,k,g⟩:=hp h;⟨b,o,cells,E,c,j,f,k,rStmtN_le p g⟩) l.length
  (fun i m=>by obtain⟨b,o,cells,E,c,j,f,k,d,g⟩:=q i m;exact⟨d,fun _=>⟨b,o,cells,E,c,j,f,k,g⟩⟩)
 obtain⟨d,p⟩:=u;refine⟨d,fun e n=>⟨a,cap,Z,s,r,t,fun i m=>?_⟩⟩;obtain⟨b,o,cells,E,c,j,f,k,g⟩:=p i m m;exact⟨b,o,cells,E,c,j,f,k,by rw[(vQ e).2];exact rStmtN_le n g⟩
theorem Md{w:ao}{A:BS}{cs:List al}{x:dh}(h:iT.rd w A cs x):∃i j g c,cs=[.int .i64 x.kind,.int .i64 x.n,i,j,g,c]/\dm qX w A i x.e/\dm qX w A j x.f/\dm iT w A g x.a/\dm iT w A c x.b:=by
 obtain⟨d,h⟩:=h;cases d with
 |zero=>exact h.elim
 |succ d=>
  obtain⟨i,j,g,c,rfl,m,l,o,k⟩:=h;exact⟨i,j,g,c,Z,m,l,o.mapR (vQ d).2 fun _ _ _ h=>⟨d,h⟩,k.mapR (vQ d).2 fun _ _ _ h=>⟨d,h⟩⟩
theorem rStmt_mk{w:ao}{A:BS}{cs:List al}{x:dh}(h:∃i j g c,cs=[.int .i64 x.kind,.int .i64 x.n,i,j,g,c]/\dm qX w A i x.e/\dm qX w A j x.f/\dm iT w A g x.a/\dm iT w A c x.b):iT.rd w A cs x:=by
 obtain⟨i,j,g,c,rfl,q,p,r,l⟩:=h;obtain⟨d,o⟩:=XZ r;obtain⟨m,k⟩:=XZ l;exact⟨max d m+1,i,j,g,c,Z,q,p,o _<|sS _ _,k _<|sk _ _⟩
structure jc where
 params:Int
 locals:Int
 body:List dh
def mK:lq jc where
 sz:=3
 rd w A cs x:=∃WS,cs=[.int .i64 x.params,.int .i64 x.locals,WS]/\dm iT w A WS x.body
 len:=by rintro w A cs x ⟨WS,rfl,h0⟩;rfl
 one:=by rintro w A cs x ⟨WS,rfl,h0⟩ u hu;simp only[bn,df,or_false]at hu;rcases hu with rfl|rfl|rfl<;>first|rfl|exact h0.one
 pos:=by decide
 go:=by rintro w A cs x w2 A2 K ⟨WS,rfl,h0⟩ hk hK hA;exact⟨_,Z,h0.go hk hK hA⟩
theorem BJ{w:ao}{A:BS}{cs:List al}{x:jc}(h:mK.rd w A cs x):∃a,cs=[.int .i64 x.params,.int .i64 x.locals,a]/\dm iT w A a x.body:=h
section
variable{α β σ ρ:Type}
theorem kL{l:List α}{i:Nat}:idx l (i:Int)=l[i]? :=by simp[idx]
theorem xg{l:List α}{i:Nat}(h:i<l.length):idx l (i:Int)=aj l[i]:=by rw[kL,bh h]
theorem jN{p:Prop} [Decidable p]{x:Option β}(h:p):iy p x=x:=if_pos h
theorem qY{b:Nat}{a:List α}(h:a.length*b<=140737488355328)(c:a.length<=9223372036854775807):clone b a=aj a:=by
 unfold clone;exact jN<|Room.mk (by simpa using h) (by simpa using c)
theorem Sv{l:List α}{a b:Nat}(h:a<=b)(c:b<=l.length):sub? l (a:Int) (b:Int)=aj ((l.take b).drop a):=by
 unfold sub? cut;rw[if_pos ⟨by omega,by omega,by omega⟩];simp
theorem del_s{l:List α}{a b:Nat}(h:a<b)(c:b<=l.length):del1 l (a:Int) (b:Int)=aj (l.take a++l.drop b):=by
 unfold del1;rw[if_pos ⟨by omega,by omega,by omega⟩];simp
theorem one_at{l:List α}{n:Nat}(h:n<l.length):(l.take (n+1)).drop n=[l[n]]:=by
 rw[en,cX h,show n+1-n=1 by omega];rfl
def all2(p:α->β->Bool):List α->List β->Bool
 |[],[]=>ba
 |x::xs,y::ys=>p x y&&all2 p xs ys
 |_,_=>aq
theorem Me [DecidableEq α]{p:α->α->Bool}(hp:∀x y,p x y=ab (x=y)):∀(a b:List α),all2 p a b=ab (a=b)
 |[],[]=>by simp[all2]
 |[],_::_=>by simp[all2]
 |_::_,[]=>by simp[all2]
 |x::xs,y::ys=>by simp[all2,hp,Me hp xs ys]
theorem Uz{body:Int->Unit->(Unit->Option Bool)->Option Bool}{c:Unit->Option Bool}(p:α->β->Bool)(a:List α)(b:List β)(k:a.length=b.length)(j:c ()=aj ba)
  (g:∀(i:Nat) x y nx,a[i]? =aj x->b[i]? =aj y->body (i:Int) () nx=bif p x y then nx ()else aj aq):upto body c 0 a.length ()=aj (all2 p a b):=by
 have d:∀(m i:Nat),i+m=a.length->upto body c (i:Int) m ()=aj (all2 p (a.drop i)<|b.drop i):=by
  intro m;induction m with
  |zero=>
   intro i h;rw[cC V,cC V];exact j
  |succ m ih=>
   intro i h;have f:i<a.length:=by omega
   have e:i<b.length:=by omega
   rw[cX f,cX e];show body (i:Int) () (upto body c ((i:Int)+1) m)=_;rw[g i a[i] b[i] _ (bh f) (bh e)];cases hp:p a[i] b[i]with
   |true=>simp only[cond_true,all2,hp,mL];exact ih (i+1) V
   |false=>simp[all2,hp]
 simpa using d a.length 0 V
theorem QK{body:Int->α->Unit->(Unit->Option Bool)->Option Bool}{c:Unit->Option Bool}(p:α->β->Bool)(a:List α)(b:List β)(j:a.length=b.length)(g:c ()=aj ba)
  (f:∀(i:Nat) x y nx,b[i]? =aj y->body (i:Int) x () nx=bif p x y then nx ()else aj aq):gW body c 0 a ()=aj (all2 p a b):=by
 have d:∀(l:List α) (i:Nat),i+l.length=b.length->gW body c (i:Int) l ()=aj (all2 p l<|b.drop i):=by
  intro l;induction l with
  |nil=>
   intro i h;rw[cC (by simp at h;omega)];exact g
  |cons x l ih=>
   intro i h;simp only[bq]at h;have e:i<b.length:=by omega
   rw[cX e];show body (i:Int) x () (gW body c ((i:Int)+1) l)=_;rw[f i x b[i] _ (bh e)];cases hp:p x b[i]with
   |true=>simp only[cond_true,all2,hp,mL];exact ih (i+1) V
   |false=>simp[all2,hp]
 simpa using d a 0 V
theorem upto_eachI{body:Int->σ->(σ->ρ)->ρ}{g:Int->α->σ->(σ->ρ)->ρ}{k:σ->ρ}(l:List α)(c:∀(i:Nat) x s nx,l[i]? =aj x->body (i:Int) s nx=g (i:Int) x s nx)(s:σ):upto body k 0 l.length s=gW g k 0 l s:=by
 have a:∀(m i:Nat),i+m=l.length->∀s,upto body k (i:Int) m s=gW g k (i:Int) (l.drop i) s:=by
  intro m;induction m with
  |zero=>intro i h s;rw[cC V];rfl
  |succ m ih=>
   intro i h s;have b:i<l.length:=by omega
   rw[cX b];show body (i:Int) s (upto body k ((i:Int)+1) m)=g (i:Int) l[i] s (gW g k ((i:Int)+1)<|l.drop<|i+1);rw[c i l[i] s _ (bh b)];congr 1;funext s';exact ih (i+1) V s'
 simpa using a l.length 0 V s
theorem UA{body:Int->Unit->(Unit->ρ)->ρ}{a:Unit->ρ}(p:α->Bool)(F:Int->ρ)(l:List α)(d:∀(i:Nat) x nx,l[i]? =aj x->body (i:Int) () nx=bif p x then F i else nx ()):
  upto body a 0 l.length ()=match l.findIdx? p with|some n=>F (n:Int)|none=>a ():=by
 have b:∀(m i:Nat),i+m=l.length->upto body a (i:Int) m ()=match (l.drop i).findIdx? p with|some n=>F ((i+n:Nat):Int)|none=>a ():=by
  intro m;induction m with
  |zero=>intro i h;rw[cC V];rfl
  |succ m ih=>
   intro i h;have c:i<l.length:=by omega
   rw[cX c,List.findIdx?_cons];show body (i:Int) () (upto body a ((i:Int)+1) m)=_;rw[d i l[i] _ (bh c)];cases hp:p l[i]with
   |true=>rfl
   |false=>
    simp only[cond_false,cM,if_false];have:=ih (i+1) V;rw[show((i+1:Nat):Int)=(i:Int)+1 from rfl]at this;rw[this];cases (l.drop (i+1)).findIdx? p with
    |none=>rfl
    |some n=>simp only[db];congr 1;omega
 have:=b l.length 0 V;simp only[ke,fY]at this;exact this
theorem del_s1{l:List α}{a:Nat}(h:a<l.length):del1 l (a:Int) ((a:Int)+1)=aj (l.take a++l.drop (a+1)):=by
 have:=del_s (l:=l) (a:=a) (b:=a+1) V V;exact this
theorem dT{p:Prop} [Decidable p](h:p):decide p=true:=decide_eq_true h
theorem dF{p:Prop} [Decidable p](h:¬p):decide p=false:=decide_eq_false h
theorem gI{x:Int}{y:Option β}(a: -9223372036854775808<=x:=by omega)(b:x<=9223372036854775807:=by omega):iy (kr x) y=y:=jN (kr.mk a b)
end
open Go.RowKit
def iK:lq UInt8 where
 sz:=1
 rd _ _ cs x:=cs=[.int .u8 (x.toNat:Int)]
 len:=by rintro w A cs x rfl;rfl
 one:=by rintro w A cs x rfl u hu;simp at hu;subst hu;rfl
 pos:=by decide
 go:=fun h _ _ _=>h
def IsErr(v:al)(b:Bool):Prop:=(b=aq/\v=.nilIface)\/(b=ba/\∃t p,v=.iface t p)
structure IfaceT(P:ca)(T:aT):Prop where
 desc:P.underlying T=aj (.interface (P.methodsAt T))
def Qs{α:Type}(a:Nat)(k:Int):Option (List α):=iy (0<=k/\k*a<=140737488355328) (aj [])
section
variable{P:ca}{ops:Array ei}{Q:fi->Act->ao->Prop}{n:Nat}{env:Nat->al}{w w' w0:ao}{M K:BS}{hp:Nat->Chunk}{rest:List ei}
 {d:Option Nat} {op:Op} {ty:aT} {pos:String} {af:Array hF} {v:al} {g:Option (Nat×Bool)} {T:aT} {ρ:bo->al} {x y:bo}
theorem UB{a b:Str}{T2:aT}(e:ρ x=bE a)(c:ρ y=bE b):(bl ρ ⟨d,.binOp .eql T x y T2,ty,pos,af,g⟩).run P w=.ok (.value (.bool (ab (a=b)))) w:=by
 simp[bl,kp,e,c,bE,Op.stringOp,gk];rw[ez];simp
theorem QL{a b:Str}{T2:aT}(e:ρ x=bE a)(c:ρ y=bE b):(bl ρ ⟨d,.binOp .neq T x y T2,ty,pos,af,g⟩).run P w=.ok (.value (.bool (ab (a≠b)))) w:=by
 simp[bl,kp,e,c,bE,Op.stringOp,gk];rw[ez];simp
theorem uk{a b:Str}{T2:aT}(i:ρ x=bE a)(f:ρ y=bE b)(h:a.length+b.length<=9223372036854775807):(bl ρ ⟨d,.binOp .add T x y T2,ty,pos,af,g⟩).run P w=.ok (.value (bE (a++b))) w:=by
 have c:=run_string_add_sum (P:=P) (w:=w) ⟨a.toArray⟩ ⟨b.toArray⟩ (by simpa[kW]using h);have e:(⟨a.toArray⟩++⟨b.toArray⟩:ByteArray)=⟨(a++b).toArray⟩:=by
  apply qh;simp
 rw[e]at c;simp[bl,kp,i,f,bE,gk,c]
theorem r_neqnilI{b:Bool}{T2:aT}(c:IfaceT P T)(e:ρ x=v)(f:IsErr v b)(a:ρ (.const .nilIface)=.nilIface):(bl ρ ⟨d,.binOp .neq T x (.const .nilIface) T2,ty,pos,af,g⟩).run P w=.ok (.value (.bool b)) w:=by
  rcases f with⟨rfl,rfl⟩|⟨rfl,t,p,rfl⟩
  · simp[bl,kp,e,a,gk,run_equal_nil_nil w T c.desc]
  · simp[bl,kp,e,a,gk,tb w T t p c.desc]
theorem r_eqlnilI{b:Bool}{T2:aT}(c:IfaceT P T)(e:ρ x=v)(f:IsErr v b)(a:ρ (.const .nilIface)=.nilIface):(bl ρ ⟨d,.binOp .eql T x (.const .nilIface) T2,ty,pos,af,g⟩).run P w=.ok (.value (.bool !b)) w:=by
  rcases f with⟨rfl,rfl⟩|⟨rfl,t,p,rfl⟩
  · simp[bl,kp,e,a,gk,run_equal_nil_nil w T c.desc]
  · simp[bl,kp,e,a,gk,tb w T t p c.desc]
theorem w_makeSl{α:Type}{R:lq α}{E:aT}{c:Nat}{k:Int}{z:al}{a:α}(h:SH w0 M K w hp)(i:Nat)(s:kg P T E 1 c)(hz:One P E z)(r:R.sz=1)(p:0<c)(hx:ev n env x=.int .i64 k)(N:ev n env y=.int .i64 k)
    (L:0<=k/\k*c<=140737488355328) (ha:∀w A,R.rd w A [z] a)
    (X:∀w' u,SH w0 M K w' (bV hp i (.own R E u (cc k.toNat a)))->WL P ops Q rest n (gq env d u) w'):
    WL P ops Q (⟨d,.makeSlice T x y,ty,pos,af,aw⟩::rest) n env w:=by
  obtain⟨G,h1⟩:=L;obtain⟨m,rfl⟩:=bs G;obtain⟨j,z',B,I,g,l,O⟩:=s.info;have e:=hz.info;rw[B]at e;simp only[db,eJ,ic]at e;have C:m<=m*c:=ld _ p;have a0:m*c<=140737488355328:=by
    have:((m*c:Nat):Int)<=140737488355328:=by rw[sR];exact h1
    omega
  obtain⟨w',hr,ho,S⟩:=run_make_full (P:=P) w 0 T E j z 1 s.desc B e.1 g .i64 .i64 m (by rw[l,mY];omega) (by unfold ks;omega) (fx _);have o:Grow w w':=(Ba (v:=.slice aw 0 0) S).weaken fun _ h _=>h.elim;have f:(bl (ev n env) ⟨d,.makeSlice T x y,ty,pos,af,aw⟩).run P w=.ok (.value<|.slice (aj ⟨w.heap.size,0,aw⟩) m m) w':=by
    simp only[bl,cv,da,bp,hx,N,hr]
  refine J f<|X w' _<|h.ui i o ⟨(madeCells z.cells<|m*1).toList,?_,?_⟩ ?_
  · rw[r,jq];exact ho
  · intro q t;simp only[jq]at t;have F:q<m:=t;rw[r,hz.cell,toList_madeCells_one];have:(ml (q*1)<|cc (m*1) z).take 1=[z]:=by
      rw[List.drop_replicate,List.take_replicate,show min 1 (m*1-q*1)=1 by omega];rfl
    rw[this];simp only[List.getElem_replicate];exact ha _ _
  · intro b p;have:b=w.heap.size:=p;omega
theorem run_appS{E u:aT}{A:BS}{l s:Str}(r:kg P T E 1 1)(hz:One P E (.int .u8 0))(B:P.underlying u=aj .string)(hx:ρ x=v)(X:bZ iK E w A v l)(R:ρ y=bE s)
    (z:(l.length+s.length)*1<=140737488355328) (hm:l.length+s.length<=9223372036854775807):
    ∃h w',(bl ρ ⟨d,.call {callee:=.builtin .append,args:= #[x,y],argTypes:= #[T,u]},ty,pos,af,g⟩).run P w=.ok (.value h) w'/\bZ iK E w' A h (l++s)/\bL (ob v) w w'/\(∀b,ob h b->b<w.heap.size->ob v b):=by
  obtain⟨xs,ho,hr⟩:=X;obtain⟨i,z',t,N,f,m,S⟩:=r.info;have c:=hz.info;rw[t]at c;simp only[db,eJ,ic]at c;have e:(nB s.toArray).size=s.length:=by simp[kW]
  obtain⟨h,w',k,O,h3,M⟩:=Lib.run_append_own_string (P:=P) w 0 T u ty E i r.desc B t c.1 f m v l.length xs ho ⟨s.toArray⟩ (by rw[e];unfold ks;omega) (by rw[e];omega) (fx _);have Q:=Ba h3;have p:xs.length=l.length:=by simpa[iK]using ho.1
  have o:(bl ρ ⟨d,.call {callee:=.builtin .append,args:= #[x,y],argTypes:= #[T,u]},ty,pos,af,g⟩).run P w=.ok (.value h) w':=by
    simp only[bl,gZ,js,iS,cv,da,bp,fL,ck,et,hx,R];rw[show(gC #[T,u] ty #[v,bE s]).run P w=_ from k];rfl
  have G:ph ⟨s.toArray⟩=s.map fun b=>dp .u8 (b.toNat:Int):=by simp[ph]
  refine⟨h,w',o,⟨xs++ph ⟨s.toArray⟩,?_,?_⟩,Q,?_⟩
  · rw[bc,<-e];exact O
  · intro q hq;show hX 1 (ml (q*1) _)=_;rw[mm,G];by_cases n:q<l.length
    · have:=hr q n;have L:hX 1 (ml (q*1) xs)=[.int .u8 (l[q].toNat:Int)]:=this;rw[mm]at L;rw[fS V,cH (by rw[cL];omega),L,eR n]
    · rw[bc]at hq;rw[fj V,ix,cC V,cF,p,cX (by simp;omega)];simp
  · intro b z hl;rcases ho.2 with⟨rfl,hn⟩|⟨gg,cap,cur,rfl,_,hgg,hc,hcm,hcs',htake⟩
    · by_cases C:s.length=0
      · have I:s=[]:=cl C;subst I;have:h=.slice aw 0 0:=M.2 ⟨Z,e⟩;subst this;exact z
      · have a:=run_append_nil_string (P:=P) w T u ty E i (.int .u8 0) r.desc B t c.1 ⟨s.toArray⟩ V V (by rw[m];omega);rw[a]at k;cases k;simp[ob]at z;omega
    · by_cases F:l.length+s.length<=cap
      · have K:cur.size=cap:=by simpa[iK]using hcs'
        have a:=Lib.run_append_room_string (P:=P) w T u ty E i r.desc B t f gg l.length cap cur hgg ⟨s.toArray⟩ V V;rw[a]at k;cases k;exact z
      · have holds:∀j u,xs[j]? =aj u->w.cell? ((⟨gg,0,aw⟩:kq).add j)=aj u:=ho.cells (g:=gg) Z;have a:=Lib.run_append_grow_string (P:=P) w T u ty E i (.int .u8 0) r.desc B t c.1 ⟨gg,0,aw⟩ l.length cap xs (by rw[f];simpa using p) holds ⟨s.toArray⟩ V V (by rw[m];exact growslice_fits V V);rw[a]at k;cases k;simp[ob]at z;omega
theorem r_b2s{E e:aT}{B A:BS}{l:Str}(n:P.underlying T=aj (.slice E))(k:P.underlying E=aj (.int .u8))(h:P.underlying e=aj .string)(u:ρ x=v)(t:ed iK w B A v l):
    (bl ρ ⟨d,.convert T e x,ty,pos,af,g⟩).run P w=.ok (.value (bE l)) w:=by
  obtain⟨a,cap,rfl,M,I,O,p⟩:=t;have i:(convert T e<|.slice a l.length cap).run P w=.ok (bE l) w:=by
    cases l with
    |nil=>
      cases a with
      |none=>
        rw[run_convert_bytes_string w T e E aw _ _ n k h];simp[Conv.bytesToString,bE];rfl
      |some a=>
        exact qT w T e E a cap [] n k h fun j m=>absurd m<|eN _
    |cons c r=>
      obtain⟨b,o,cells,L,G,rfl,_,_,_⟩:=p 0 zq3;refine qT w T e E ⟨b,o,aw⟩ cap (c::r) n k h fun j m=>?_;obtain⟨b',K,f,N,F,y,_,s,z⟩:=p j m;cases y;have q:hX 1 (ml (o+j*1) f.toList)=[.int .u8 ((c::r)[j].toNat:Int)]:=z;rw[mm]at q;have C:f.toList[o+j]? =aj (.int .u8 ((c::r)[j].toNat:Int)):=by
        have:=congrArg (·[0]?) q;simpa[cg,cw]using this
      rw[addr_add];simpa[eW,s]using C
  simp only[bl,cv,da,u,i,bp]
theorem str_ex(s:Str)(a b:Nat):(nB s.toArray).extract a b=⟨((s.take b).drop a).toArray⟩:=by
 apply qh;simp[ByteArray.data_extract,en]
theorem vR(s:Str):(nB s.toArray).size=s.length:=by simp[kW]
def subs?(s:Str)(a b:Int):Option Str:=iy (0<=a/\a<=b/\b<=s.length) (aj (cut s a b))
theorem r_sls{s:Str}{k j:Option bo}{a b:Int}(f:P.underlying T=aj .string)(r:ρ x=bE s)(m:Qo (k.map ρ) a 0)(l:Qo (j.map ρ) b s.length)(n:0<=a)(i:a<=b)(t:b<=s.length):
    (bl ρ ⟨d,.slice T x k j aw,ty,pos,af,g⟩).run P w=.ok (.value (bE (cut s a b))) w:=by
  obtain⟨a,rfl⟩:=bs n;obtain⟨b,rfl⟩:=bs<|Int.le_trans n i;have o:a<=b:=by omega
  have p:b<=s.length:=by omega
  have q:cut s (a:Int) (b:Int)=(s.take b).drop a:=by simp[cut]
  have h:(jh T (bE s) (k.map ρ) (j.map ρ) aw).run P w=.ok (bE ((s.take b).drop a)) w:=by
    unfold bE;rcases m with⟨e1,e2⟩|e1<;>rcases l with⟨e3,e4⟩|e3
    · have e:a=0:=by omega
      have c:b=s.length:=by omega
      subst e c;rw[e1,e3,run_slice_string_all w T _ f,str_ex,vR]
    · have e:a=0:=by omega
      subst e;rw[e1,e3,run_slice_string_to_if w T _ _ _ f,if_pos ⟨by omega,by rw[vR];omega⟩,str_ex];simp
    · have c:b=s.length:=by omega
      subst c;rw[e1,e3,run_slice_string_from_if w T _ _ _ f,if_pos ⟨by omega,by rw[vR];omega⟩,str_ex,vR];simp
    · rw[e1,e3,run_slice_string w T _ _ _ _ _ f V V (by rw[vR];omega),str_ex];simp
  rw[q];simp only[bl,cv,da,r,Option.map_none,run_sliceAt_string w T _ _ _ _ f,h,bp]
theorem r_slsE{s r:Str}{i h:Option bo}{a b:Int}(j:r=cut s a b)(l:P.underlying T=aj .string)(n:ρ x=bE s)(f:Qo (i.map ρ) a 0)(e:Qo (h.map ρ) b s.length)(k:0<=a)(c:a<=b)(m:b<=s.length):
  (bl ρ ⟨d,.slice T x i h aw,ty,pos,af,g⟩).run P w=.ok (.value (bE r)) w:=by
 subst j;exact r_sls l n f e k c m
theorem o_subs{s r:Str}{a b:Int}(h:subs? s a b=aj r):0<=a/\a<=b/\b<=s.length/\r=cut s a b:=by
 obtain⟨c,d⟩:=bD h;exact⟨c.1,c.2.1,c.2.2,(cQ d).symm⟩
theorem X0{α:Type}{R:lq α}{E c:aT}{l a:Nat}{A:BS}{k:Nat}(m:kg P T E l a)(v:R.sz=l)(B:P.underlying c=aj (.int .i64))(t:ev n env x=.slice aw 0 0)(s:ev n env y=.int .i64 (k:Nat))(r:0<k)(F:0<a)
    (p:k*a<=140737488355328)
    (h:∀w' gg cap,Grow w w'->w.heap.size<=gg->gg<w'.heap.size->k<=cap->bZ R E w' A (.slice (aj ⟨gg,0,aw⟩) 0 cap) ([]:List α)->WL P ops Q rest n (gq env d (.slice (aj ⟨gg,0,aw⟩) k cap)) w'):
    WL P ops Q (⟨d,.call {callee:=.builtin .append,args:= #[x,y],argTypes:= #[T,c]},ty,pos,af,aw⟩::rest) n env w:=by
  obtain⟨i,z,C,hz,q,g,f⟩:=m.info;have j:=R.pos;have o:k<=k*a:=ld _ F;have u:=Lib.run_append_nil_zeros (P:=P) w T c ty E i z .i64 .i64 m.desc B C hz k r V V (by rw[g];omega);have b:(bl (ev n env) ⟨d,.call {callee:=.builtin .append,args:= #[x,y],argTypes:= #[T,c]},ty,pos,af,aw⟩).run P w=.ok (.value<|.slice (aj ⟨w.heap.size,0,aw⟩) k<|gS w k 0 E) (w.drew.alloc<|.cells (cy z.cells k++cy z.cells (gS w k 0 E-k)) E):=by
    simp only[bl,gZ,js,iS,cv,da,bp,fL,ck,et,t,s,u]
  have hge:=grownCap_ge w k 0 E;have e:gS w k 0 E<=maxLen:=s9 w k 0 E (by unfold ks;omega);refine J b<|h _ _ _ ((Grow.drew w).trans<|Grow.alloc _ _) (bt _) ?_ hge ⟨[],⟨by simp,.inr ⟨w.heap.size,_,_,Z,fx _,heap_alloc_new w.drew _,fx _,e,?_,by simp⟩⟩,fun i h=>absurd h<|eN _⟩
  · show w.heap.size<(w.drew.alloc _).heap.size;rw[alloc_size];exact sf _
  · rw[Array.size_append,kt,kt,f,v,<-cj];congr 1;omega
end
open Go.RowKit
structure qD(P:ca)(g:Nat)(w:ao):Prop where
 pow:oa P w "internal/strconv.uint64pow10" .u64 Lib.pow10Tab
 syn:∃t p,w.var? P "strconv.ErrSyntax" =aj #[.iface t p]
 ran:∃t p,w.var? P "strconv.ErrRange" =aj #[.iface t p]
 max:∃m,w.cell? ⟨g,0,aw⟩=aj (.int .i64 m)
 many:P.globals.size<=w.heap.size
 gmax:g<P.globals.size
 asc:∀q,P.globalNamed "strings.asciiSpace" =aj q->oa P w "strings.asciiSpace" .u8 Lib.asciiSpaceTab
theorem X3{P:ca}{s:String}{i:Nat}(h:P.globalNamed s=aj i):i<P.globals.size:=by
  unfold Program.globalNamed at h;split at h
  · rename_i g a;cases h;have:i∈(List.range P.globals.size).filter fun g=>(P.globals[g]?).any (·.name==s):=by rw[a];simp
    exact List.mem_range.1 (List.mem_filter.1 this).1
  · cases h
theorem bL.var{P:ca}{K:BS}{w w':ao}{s:String}{cs:Array al}(a:bL K w w')(d:∀b,K b->P.globals.size<=b)(h:w.var? P s=aj cs):w'.var? P s=aj cs:=by
 unfold World.var? at h⊢;cases hg:P.globalNamed s with
 |none=>simp[hg]at h
 |some g=>
  have e:=X3 hg;simp only[hg,cJ]at h⊢;cases hb:w.heap[g]? with
  |none=>simp[hb]at h
  |some o=>rw[a.blk hb (fun c=>absurd (d _ c) V)];rw[hb]at h;exact h
theorem qD.Sw{P:ca}{g:Nat}{K:BS}{w w':ao}(h:qD P g w)(a:bL K w w')(c:∀b,K b->P.globals.size<=b):qD P g w':=by
 obtain⟨j,⟨l,t,i⟩,⟨f,k,p⟩,⟨m,d⟩,s,r,n⟩:=h;refine⟨a.var c j,⟨l,t,a.var c i⟩,⟨f,k,a.var c p⟩,⟨m,?_⟩,dw s a.size,r,fun q e=>a.var c<|n q e⟩;unfold eW at d⊢;cases hb:w.heap[g]? with
 |none=>simp[hb]at d
 |some o=>rw[a.blk hb (fun e=>absurd (c _ e) V)];rw[hb]at d;exact d
theorem qD.go{P:ca}{g:Nat}{w w':ao}(h:qD P g w)(a:Grow w w'):qD P g w':=h.Sw a (fun _ h=>h.elim)
theorem SH.Au{P:ca}{g:Nat}{w0 w:ao}{M K:BS}{hp:Nat->Chunk}{C:Chunk}(h:SH w0 M K w hp)(c:qD P g w0)(a:∀b,K b->P.globals.size<=b)(i:Nat)(d:hp i=C):∀b,C.own' b->P.globals.size<=b:=by
  subst d;intro b e;rcases cD b w0.heap.size with hl|hl
  · exact a b<|h.old i b e hl
  · exact dw c.many hl
theorem Grow.drewN(w:ao)(k:Nat):Grow w (w.drewN k):=⟨rfl,rfl,rfl,bt _,fun _ _ _=>rfl⟩
theorem Grow.Qs{w:ao}{os:Array Obj}:Grow w (Sort.grow w os):=⟨rfl,rfl,rfl,by simp[Sort.grow],fun b _ a=>by simp[Sort.grow,Array.getElem?_append_left a]⟩
def NR(n:Int):Option Str:=iy (kr n) (aj (dr n))
def Ju(s:Str):Option (Int×Bool):=iy (s.length<=281474976710656) (aj (match ey s with| .ok v=>(v,aq)| .range=>(pL s,ba)|_=>(0,ba)))
def parseS(s:Str):Option (Int×Bool):=iy (s.length<=281474976710656) (aj (match Lib.parseIntB 64 s with| .ok v=>(v,aq)| .range=>(Lib.intSat 64 s,ba)|_=>(0,ba)))
def X4(l:List Str)(a:Str):Option Str:=iy (l.length<=140737488355328/\(oe l a).length<=140737488355328) (aj (oe l a))
def QM(s a:Str):Option (List Str):=iy (s.length<4294967281/\1<=a.length) (aj (sl s a))
def cutS(s a:Str):Option (Str×Str×Bool):=iy (s.length<4294967281) (aj (mN s a))
section
variable{P:ca}{g:Nat}{w0:ao}{f:fW}{M:BS}
theorem itoa_w(c:∀n,-9223372036854775808<=n->n<=9223372036854775807->∀w,oa P w "internal/strconv.uint64pow10" .u64 Lib.pow10Tab->bC P f #[.int .i64 n] w fun e w'=>e=.returned (.string ⟨(dr n).toArray⟩)/\∃k os,w'=Sort.grow (w.drewN k) os)
  (d:qD P g w0) {a:Int} {r:Str} (b:NR a=aj r):bC P f #[.int .i64 a] w0 (fun e w'=>Grow w0 w'/\e=.returned (bE r)):=by
 obtain⟨h,b⟩:=bD b;cases b;refine(c a h.1 h.2 w0 d.pow).mono ?_;rintro e w'⟨rfl,k,os,rfl⟩;exact⟨(Grow.drewN w0 k).trans Grow.Qs,Z⟩
theorem bw_grow(w:ao)(t:aT)(s:ByteArray):Grow w (tc w t s):=⟨rfl,rfl,rfl,by rw[Lib.bytesWorld_size];omega,fun b _ a=>Lib.bytesWorld_at_old w t _ b a⟩
theorem atoi_w{x a c:aT}{nm:ByteArray}(n:∀s:ByteArray,s.size<=9223372036854775806->∀v,ey s.data.toList=.ok v->∀w,bC P f #[.string s] w fun e w'=>e=.returned (.tuple #[.int .i64 v,.nilIface])/\(w'=w\/∃t,w'=tc w x t))
    (m:∀s:ByteArray,s.size<=281474976710656->∀e,ey s.data.toList=e->(∀v,e≠ .ok v)->e≠ .range->∀d p w,w.var? P "strconv.ErrSyntax" =aj #[.iface d p]->bC P f #[.string s] w fun e w'=>∃N,e=.returned (.tuple #[.int .i64 0,.iface a (.pointer (aj ⟨N,0,aw⟩))])/\w.heap.size<=N/\w'.heap[N]? =aj (.cells #[.string nm,.string s,.iface d p] c (0,0))/\Below w.heap.size w w')
    (q:∀s:ByteArray,s.size<=281474976710656->ey s.data.toList=.range->∀d p w,w.var? P "strconv.ErrRange" =aj #[.iface d p]->bC P f #[.string s] w fun e w'=>∃N,e=.returned (.tuple #[.int .i64 (pL s.data.toList),.iface a (.pointer (aj ⟨N,0,aw⟩))])/\w.heap.size<=N/\w'.heap[N]? =aj (.cells #[.string nm,.string s,.iface d p] c (0,0))/\Below w.heap.size w w')
    (k:qD P g w0) {s:Str} {r:Int×Bool} (b:Ju s=aj r):bC P f #[bE s] w0 (fun e w'=>Grow w0 w'/\∃u,e=.returned (.tuple #[.int .i64 r.1,u])/\IsErr u r.2):=by
  obtain⟨h,b⟩:=bD b;have l:=vR s;cases hq:ey s with
  |ok v=>
    rw[hq]at b;cases b;refine(n ⟨s.toArray⟩ V v (by simpa using hq) w0).mono ?_;rintro e w'⟨rfl,o⟩;refine⟨?_,_,Z,.inl ⟨Z,Z⟩⟩;rcases o with rfl|⟨t,rfl⟩
    · exact bL.refl _ _
    · exact bw_grow _ _ _
  |range=>
    rw[hq]at b;cases b;obtain⟨t,p,i⟩:=k.ran;refine(q ⟨s.toArray⟩ V (by simpa using hq) t p w0 i).mono ?_;rintro e w'⟨N,rfl,_,_,j⟩;refine⟨Grow.of_below j,.iface a<|.pointer<|some ⟨N,0,aw⟩,by simp,.inr ⟨Z,_,_,Z⟩⟩
  |_=>
    rw[hq]at b;cases b;obtain⟨t,p,i⟩:=k.syn;refine(m ⟨s.toArray⟩ V _ (by simpa using hq) (fun v=>by simp) zq3 t p w0 i).mono ?_;rintro e w'⟨N,rfl,_,_,j⟩;exact⟨Grow.of_below j,_,Z,.inr ⟨Z,_,_,Z⟩⟩
theorem rdStr_at{A B:BS}{a:Option kq}{n c:Nat}{l:List Str}(v:ed uF w0 B A (.slice a n c) l)(r:0<l.length):∃g o,a=aj ⟨g,o,aw⟩/\g<w0.heap.size/\∀j x,l[j]? =aj x->w0.cell? ⟨g,o+j,aw⟩=aj (bE x):=by
  obtain⟨a',cap,e,z,y,G,i⟩:=v;cases e;obtain⟨b,o,cells,E,w,rfl,_,t,_⟩:=i 0 r;refine⟨b,o,Z,iN t,fun j x q=>?_⟩;obtain⟨f,h⟩:=List.getElem?_eq_some_iff.1 q;obtain⟨b',F,d,C,u,e,_,m,s⟩:=i j f;cases e;have k:hX 1 (ml (o+j*1) d.toList)=[bE l[j]]:=s;rw[mm]at k;have p:d.toList[o+j]? =aj (bE l[j]):=by
    have:=congrArg (·[0]?) k;simpa[cg,cw]using this
  rw[<-h];simpa[eW,m]using p
theorem join_w(p:∀(a:Option kq) (c:Nat) (b:ByteArray) (w:ao),bC P f #[.slice a 0 c,.string b] w fun e w'=>e=.returned (.string ⟨#[]⟩)/\w'=w)
    (t:∀(g o c:Nat) (xs:List ByteArray) (b:ByteArray) (w:ao),(∀(j:Nat) x,xs[j]? =aj x->w.cell? ⟨g,o+j,aw⟩=aj (.string x))->g<w.heap.size->xs.length<=140737488355328->xs.length<=c->(oe (xs.map (·.data.toList)) b.data.toList).length<=140737488355328->
      bC P f #[.slice (aj ⟨g,o,aw⟩) xs.length c,.string b] w fun e w'=>e=.returned (.string ⟨(oe (xs.map (·.data.toList)) b.data.toList).toArray⟩)/\Below w.heap.size w w')
    {v:al} {A B:BS} {l:List Str} {b r:Str} (n:ed uF w0 B A v l) (i:X4 l b=aj r):bC P f #[v,bE b] w0 (fun e w'=>Grow w0 w'/\e=.returned (bE r)):=by
  obtain⟨h,i⟩:=bD i;cases i;have k:=n;obtain⟨a,cap,rfl,k1,k2,C,E⟩:=n;cases l with
  |nil=>
    refine(p a cap _ w0).mono ?_;rintro e w'⟨rfl,rfl⟩;exact⟨bL.refl _ _,Z⟩
  |cons x l=>
    obtain⟨g,o,rfl,z,q⟩:=rdStr_at k zq3;have m:((x::l).map fun s=>(⟨s.toArray⟩:ByteArray)).map (·.data.toList)=x::l:=by simp[Function.comp_def]
    have:=t g o cap ((x::l).map fun s=>⟨s.toArray⟩) ⟨b.toArray⟩ w0 (fun j y d=>by
      rw[ej]at d;cases hq:(x::l)[j]? with
      |none=>rw[hq]at d;cases d
      |some s=>rw[hq]at d;cases d;exact q j s hq) z (by simpa using h.1) (by simpa using k1) (by rw[m];simpa using h.2)
    rw[m,cG]at this;refine this.mono ?_;rintro e w'⟨rfl,u⟩;exact⟨Grow.of_below u,by simp[bE]⟩
theorem strs_rd{E:aT}{l:List ByteArray}{A:BS}{cells:Array al}{cap:Nat}(w:ao)(k:∀b,A b->b<w.heap.size)(d:l.length<=cap)(g:cap<=ks)(a:∀j (h:j<l.length),cells[j]? =aj (.string l[j])):dm uF (w.alloc (.cells cells E)) A (.slice (aj ⟨w.heap.size,0,aw⟩) l.length cap) (l.map (·.data.toList)):=by
  refine⟨aj ⟨w.heap.size,0,aw⟩,cap,by simp,by simpa using d,g,(fun h=>by cases h),fun j i=>⟨w.heap.size,0,cells,E,(0,0),Z,?_,Pf w _,?_⟩⟩
  · intro m;exact Nat.lt_irrefl _ (k _ m)
  · have f:j<l.length:=by simpa using i
    show hX 1 (ml (0+j*1) cells.toList)=_;have e:=a j f;have c:j<cells.toList.length:=by
      rw[ct];rcases cD j cells.size with q|q
      · exact q
      · rw[kV q]at e;cases e
    rw[fY,mm,cX c];have:cells.toList[j]=.string l[j]:=by
      have:=e;rw[<-ij,bh c]at this;exact cQ this
    rw[this];simp[bE]
theorem split_w{E:aT}(o:∀(s a:ByteArray) (m:Int) (w:ao),s.size<4294967281->w.cell? ⟨g,0,aw⟩=aj (.int .i64 m)->1<=a.size->
  bC P f #[.string s,.string a] w fun e w'=>e=.returned (.slice (aj ⟨w.heap.size,0,aw⟩) (gf s a+1) (gf s a+1))/\w'=w.alloc (.cells ((qU a 0 (gf s a) s).map lj).toArray E))
  (p:∀b,M b->b<w0.heap.size) (t:qD P g w0) {s a:Str} {r:List Str} (c:QM s a=aj r):bC P f #[bE s,bE a] w0 (fun e w'=>Grow w0 w'/\∃u,e=.returned u/\dm uF w' M u r):=by
 obtain⟨h,c⟩:=bD c;cases c;obtain⟨m,q⟩:=t.max;refine(o ⟨s.toArray⟩ ⟨a.toArray⟩ m w0 (by rw[vR];exact h.1) q (by rw[vR];exact h.2)).mono ?_;rintro e w'⟨rfl,rfl⟩;refine⟨Grow.alloc _ _,_,Z,?_⟩;have d:=Lib.splitB_all ⟨a.toArray⟩ (by rw[vR];exact h.2) 0 _ ⟨s.toArray⟩ Z;have k:=Lib.splitB_data ⟨a.toArray⟩ 0 (gf ⟨s.toArray⟩ ⟨a.toArray⟩) ⟨s.toArray⟩;have v:gf ⟨s.toArray⟩ ⟨a.toArray⟩=Lib.count s a:=by simp[gf]
 have i:=Lib.countB_le ⟨a.toArray⟩ (by rw[vR];exact h.2) _ ⟨s.toArray⟩ (bt _);rw[vR]at i;have:=strs_rd (E:=E) (l:=qU ⟨a.toArray⟩ 0 (gf ⟨s.toArray⟩ ⟨a.toArray⟩) ⟨s.toArray⟩) (cap:=gf ⟨s.toArray⟩ ⟨a.toArray⟩+1) (cells:=((qU ⟨a.toArray⟩ 0 (gf ⟨s.toArray⟩ ⟨a.toArray⟩) ⟨s.toArray⟩).map lj).toArray) w0 p (by rw[d];exact bt _) (by unfold ks;omega) (fun j n=>by simp[n]);rw[d,k]at this;simpa[sl,v]using this
theorem cut_w(d:∀(s a:ByteArray) (m:Int) (w:ao),s.size<4294967281->w.cell? ⟨g,0,aw⟩=aj (.int .i64 m)->bC P f #[.string s,.string a] w fun e w'=>e=.returned (.tuple #[.string ⟨(mN s.data.toList a.data.toList).1.toArray⟩,.string ⟨(mN s.data.toList a.data.toList).2.1.toArray⟩,.bool (mN s.data.toList a.data.toList).2.2])/\∃n,w'=w.drewN n)
  (i:qD P g w0) {s a:Str} {r:Str×Str×Bool} (b:cutS s a=aj r):bC P f #[bE s,bE a] w0 (fun e w'=>Grow w0 w'/\e=.returned (.tuple #[bE r.1,bE r.2.1,.bool r.2.2])):=by
 obtain⟨h,b⟩:=bD b;cases b;obtain⟨m,c⟩:=i.max;refine(d ⟨s.toArray⟩ ⟨a.toArray⟩ m w0 (by rw[vR];exact h) c).mono ?_;rintro e w'⟨rfl,n,rfl⟩;exact⟨Grow.drewN _ _,by simp[bE]⟩
end
open Go.RowKit
section
variable{P:ca}{ops:Array ei}{Q:fi->Act->ao->Prop}{n:Nat}{env:Nat->al}{w w' w0:ao}{M K:BS}{hp:Nat->Chunk}{rest:List ei}
 {d:Option Nat} {op:Op} {ty:aT} {pos:String} {af:Array hF} {v:al} {g:Option (Nat×Bool)} {T:aT} {ρ:bo->al} {x y:bo} {i fuel:Nat} {listed:Array Bool}
theorem SH.lV{c:Chunk}(h:SH w0 M K w hp)(i:Nat)(d:hp i=c)(e:bL c.own' w w'):SH w0 M K w' (bV hp i .no):=
 h.step i e (fun b a _=>by rw[d];exact a) (fun b a=>a.elim) U
theorem SH.Cx{c e:Chunk}(h:SH w0 M K w hp)(i j:Nat)(a:i≠j)(f:hp i=c)(d:hp j=e)(g:bL (fun b=>c.own' b\/e.own' b) w w'):SH w0 M K w' (bV (bV (bV hp j .no) i (.two (hp i) (hp j))) i .no):=by
 refine(h.pair i j a).lV i (c:=.two (hp i)<|hp j) (bY _ _ _) ?_;rw[f,d];exact g
theorem lN{zs:List al}(h:SH w0 M K w hp)(i:Nat)(a:wU P T zs)(k:∀w' b,SH w0 M K w' (bV hp i (.blk b zs))->Grow w w'->w.heap.size<=b->WL P ops Q rest n (gq env d (.pointer (aj ⟨b,0,aw⟩))) w'):WL P ops Q (⟨d,.alloc T,ty,pos,af,aw⟩::rest) n env w:=
 J (r_allocN a) (k _ _ (h.newB i zs T) (Grow.alloc _ _) (bt _))
theorem fw{z:al}{b o:Nat}{cs:List al}(h:SH w0 M K w hp)(i:Nat)(a:List al)(e:hp i=.blk b cs)(p:One P T z)(m:ev n env x=.pointer (aj ⟨b,o,aw⟩))(j:ev n env y=v)(ho:cs.set o v=a)(c:mX o cs.length=ba)(l:v.oneCell'=ba)
  (k:∀w',SH w0 M K w' (bV hp i (.blk b a))->bL (fun x=>x=b) w w'->WL P ops Q rest n (gq env d fR) w'):
  WL P ops Q (⟨d,.store T x y,ty,pos,af,aw⟩::rest) n env w:=by
 obtain⟨E,q⟩:=h.Ak i e;have:=h.putB i e a E;subst ho;have f:=Si (d:=d) (ty:=ty) (pos:=pos) (af:=af) (g:=aw) p m q (by rw[lx]at c;simpa using c) j l;refine A9 f<|k _ ?_<|bL.wV _ _ _;simpa using this
theorem lQ{zs vs:List al}{b o:Nat}{cs:List al}(h:SH w0 M K w hp)(i:Nat)(a:List al)(e:hp i=.blk b cs)(l:wU P T zs)(j:ev n env x=.pointer (aj ⟨b,o,aw⟩))(f:ev n env y=.agg vs.toArray)(m:vs.length=zs.length)(ho:LZ cs o vs=a)(p:la (o+vs.length) cs.length=ba)(g:∀v∈vs,v.oneCell'=ba)
  (k:∀w',SH w0 M K w' (bV hp i (.blk b a))->bL (fun x=>x=b) w w'->WL P ops Q rest n (gq env d fR) w'):
  WL P ops Q (⟨d,.store T x y,ty,pos,af,aw⟩::rest) n env w:=by
 obtain⟨E,c⟩:=h.Ak i e;subst ho;exact A9 (Sj l j c f m (gw p) g)<|k _ (h.putB i e _ E)<|bL.wV _ _ _
theorem ma{α:Type}{R:lq α}{E:aT}{p c:Nat}{u:al}{l m:List α}(h:SH w0 M K w hp)(i:Nat)(f:hp i=.own R E v l)(G:ed R w BE (SH.A M hp) u m)(C:kg P T E p c)(z:R.sz=p)(s:ev n env x=v)(B:ev n env y=u)
    (a:(l.length+m.length)*c<=140737488355328) (t:l.length+m.length<=9223372036854775807)
    (k:∀w' e,SH w0 M K w' (bV hp i (.own R E e (l++m)))->bL (ob v) w w'->(∀b,ob e b->b<w.heap.size->ob v b)->WL P ops Q rest n (gq env d e) w'):
    WL P ops Q (⟨d,.call {callee:=.builtin .append,args:= #[x,y],argTypes:= #[T,T]},ty,pos,af,aw⟩::rest) n env w:=by
  obtain⟨e,w',r,q,o,j⟩:=run_app (d:=d) (ty:=ty) (pos:=pos) (af:=af) (g:=aw) C z s (h.bI i f) B G (fun b a=>.inr ⟨i,by rw[f];exact a⟩) a t;refine J r (k w' e (h.step i o (fun b a _=>by rw[f];exact a) (fun b a F=>by rw[f];exact j b a F) ?_) o j);refine bZ.go q (bL.refl BE w') (fun _ h=>h.elim) (fun _ h=>h.elim) fun b a _=>?_;rcases a with a|a|a
  · exact .inl<|.inl a
  · exact .inl<|.inr<|lu a
  · exact .inr a
theorem XF{E u:aT}{l s:Str}(h:SH w0 M K w hp)(i:Nat)(f:hp i=.own iK E v l)(t:kg P T E 1 1)(hz:One P E (.int .u8 0))(o:P.underlying u=aj .string)(q:ev n env x=v)(m:ev n env y=bE s)
  (z:(l.length+s.length)*1<=140737488355328) (r:l.length+s.length<=9223372036854775807)
  (k:∀w' a,SH w0 M K w' (bV hp i (.own iK E a (l++s)))->bL (ob v) w w'->(∀b,ob a b->b<w.heap.size->ob v b)->WL P ops Q rest n (gq env d a) w'):
  WL P ops Q (⟨d,.call {callee:=.builtin .append,args:= #[x,y],argTypes:= #[T,u]},ty,pos,af,aw⟩::rest) n env w:=by
 obtain⟨a,w',p,j,e,c⟩:=run_appS (d:=d) (ty:=ty) (pos:=pos) (af:=af) (g:=aw) t hz o q (h.giveO i f) m z r;exact J p<|k w' a (h.given i f j e c) e c
theorem fP{f:sd}{R:me->ao->Prop}{u a:Tmp}{T:aT}{v2:al}{zs vs:List al}{b:Nat}(k:f.results= #[.cell a T,.tmp u])(l:ev n env (.tmp a)=.pointer (aj ⟨b,0,aw⟩))(j:ev n env (.tmp u)=v2)
  (g:SH w0 M K w hp) (i:Nat) (p:hp i=.blk b vs) (m:wU P T zs) (o:vs.length=zs.length) (h:R (.returned (.tuple #[.agg vs.toArray,v2])) w):jj P f R .ret (act n env) w:=by
 refine⟨Z,_,?_,h⟩;have c:=congrFun (gP n env)<|.tmp u;have d:=congrFun (gP n env)<|.tmp a;rw[j]at c;rw[l]at d;simp only[hQ]at c d;rw[cY]at c d;have e:=Cw (P:=P) g p m o Z;unfold results;rw[k];simp[c,d,asAddr,e]
theorem Sy{g:sd}{R:me->ao->Prop}{t u a:Tmp}{T:aT}{v2 v3:al}{zs vs:List al}{b:Nat}(m:g.results= #[.cell a T,.tmp t,.tmp u])(o:ev n env (.tmp a)=.pointer (aj ⟨b,0,aw⟩))(l:ev n env (.tmp t)=v2)(k:ev n env (.tmp u)=v3)
  (j:SH w0 M K w hp) (i:Nat) (r:hp i=.blk b vs) (p:wU P T zs) (q:vs.length=zs.length) (h:R (.returned (.tuple #[.agg vs.toArray,v2,v3])) w):jj P g R .ret (act n env) w:=by
 refine⟨Z,_,?_,h⟩;have d:=congrFun (gP n env)<|.tmp t;have c:=congrFun (gP n env)<|.tmp u;have e:=congrFun (gP n env)<|.tmp a;rw[l]at d;rw[k]at c;rw[o]at e;simp only[hQ]at d c e;rw[cY]at d c e;have f:=Cw (P:=P) j r p q Z;unfold results;rw[m];simp[d,c,e,asAddr,f]
theorem fin3{e:sd}{R:me->ao->Prop}{t u a:Tmp}{v1 v2 v3:al}(f:e.results= #[.tmp t,.tmp u,.tmp a])(j:ev n env (.tmp t)=v1)(i:ev n env (.tmp u)=v2)(g:ev n env (.tmp a)=v3)(h:R (.returned (.tuple #[v1,v2,v3])) w):jj P e R .ret (act n env) w:=by
 refine⟨Z,_,?_,h⟩;have b:=congrFun (gP n env)<|.tmp t;have d:=congrFun (gP n env)<|.tmp u;have c:=congrFun (gP n env)<|.tmp a;rw[j]at b;rw[i]at d;rw[g]at c;simp only[hQ]at b d c;rw[cY]at b d c;unfold results;rw[f];simp[b,d,c]
theorem At.grow{b o:Nat}{cs:List al}(h:At w b o cs)(e:Grow w w'):At w' b o cs:=by
 obtain⟨cells,E,a,d,c⟩:=h;exact⟨cells,E,a,e.blk d,c⟩
theorem xX{ws w:ao}{v u:al}(hz:ws.heap.size<=w.heap.size)(d:∀b,ob v b->ws.heap.size<=b)(hn:∀b,ob u b->b<w.heap.size->ob v b):∀b,ob u b->ws.heap.size<=b:=
 fun b c=>sc fun a=>Nat.not_lt_of_le (d b (hn b c (cq a hz))) a
def EffOk(P:ca)(ops:Array ei)(Q1:Nat->fi->Act->ao->Prop)(n:Nat)(env:Nat->al)(w:ao)(i:Nat):Prop:=
 ∃d op ty pos af g,ops[i]? =aj ⟨d,op,ty,pos,af,g⟩/\cm ⟨d,op,ty,pos,af,g⟩ (ep ops (act n env).tmps)=ba/\WL P ops (Q1 i) [⟨d,op,ty,pos,af,aw⟩] n env w
theorem UC{Q1:Nat->fi->Act->ao->Prop}(i:Nat)(a:ops[i]? =aj ⟨d,op,ty,pos,af,g⟩)(b:cm ⟨d,op,ty,pos,af,g⟩ (ep ops (act n env).tmps)=ba)(h:WL P ops (Q1 i) [⟨d,op,ty,pos,af,aw⟩] n env w):EffOk P ops Q1 n env w i:=⟨_,_,_,_,_,_,a,b,h⟩
def EffAll(P:ca)(ops:Array ei)(Q1:Nat->fi->Act->ao->Prop)(n:Nat)(env:Nat->al)(w:ao):List Nat->Prop
 |[]=>True
 |i::r=>EffOk P ops Q1 n env w i/\EffAll P ops Q1 n env w r
theorem X5{Q1:Nat->fi->Act->ao->Prop}:∀{l:List Nat},EffAll P ops Q1 n env w l->∀k∈l,EffOk P ops Q1 n env w k
  |i::r,⟨h1,h2⟩,k,hk=>by
    rcases bn.1 hk with rfl|hk
    · exact h1
    · exact X5 h2 k hk
theorem whk_effs{L:BS}{ws:ao}(l:List Nat)(e:cR .any ops listed=l)(j:l≠[])
  (h:EffAll P ops (fun i=>Uy P ops L ws Q fuel (listed.setIfInBounds i ba)) n env w l):XE P ops L ws Q (fuel+1) listed n env w:=by
 refine⟨nf e j fun k c=>?_⟩;obtain⟨d,op,ty,pos,af,g,b,a,f⟩:=X5 h k c;exact Hz b a f
end
open Go.RowKit Go.ChangeShapes
theorem returns_laid{b:Type}{enc:aT×al->b}{a:Assume}{C:Checked}{os:Os}{f:fW}{p:sd}{s:ChangeSpec}{l:List PathCond}{d fresh k again:Bool}{X:ao->Array al->Prop}
  (L:∀(w w':ao) (args:Array al),w.heap=w'.heap->X w args->X w' args)
  (own:ownKnob C.prog.godebug=aw) (n:os.Started) (q:C.prog.inits.idxOf? f=aw) (B:C.prog.funcs[f]? =aj p)
  (o:∃(w:ao) (g:Tape) (i:Input),w.os=os/\(w.forCall g i).Shaped C.prog/\i.vars=[]/\Input.okWide C.prog (w.forCall g i) .any w.heap.size f i/\
   ((s.pre enc C.prog p l d (w.forCall g i).memory i.args/\X (w.forCall g i).memory i.args)/\sizedMet enc C.prog p (OpenSpec.ofChange s) d (w.forCall g i).memory i.args)/\a.holds C.prog (lone (Frame.enter C.prog f i.args .normal) [] (w.forCall g i)))
  (m:∀(c:ao) (u:Nat) (args:Array al) (A z:List (DataW b)) (h:List pe),
   (∀(j:Nat) t v,p.params[j]? =aj t->args[j]? =aj v->Value.okWide C.prog c .any u t v)->
   DataW.Whole enc C.prog p.params.toList s.vars d c args.toList A z h->
   l.all (PathCond.test C.prog ⟨p.params.toList,A,s.plain.varTypes C.prog,z⟩)=ba->X c args->c.ShapedOpen C.prog->
   bC C.prog f args c fun e K=>∃v,e=.returned v/\s.post enc C.prog p d fresh k again c args v K):
  ReturnsInHanded a C os f .any (fun w args=>(s.pre enc C.prog p l d w args/\X w args)/\sizedMet enc C.prog p (OpenSpec.ofChange s) d w args) (s.post enc C.prog p d fresh k again):=by
 refine returnsInHanded_of_calls own n q o ?_;intro w g i _ G _ I x _;obtain⟨_,_,_,E,r,_,_,_,_,y⟩:=I;have e:E=p:=cQ<|r.symm.trans B;subst e;obtain⟨⟨⟨A,z,h,O,P⟩,M⟩,_⟩:=x;have F:=DataW.Whole.of_heap (w':=w.forCall g i) (by rfl) O;refine(m (w.forCall g i) w.heap.size i.args A z h y F P (L _ _ _ (by rfl) M) G).mono fun e K⟨v,N,hp⟩=>?_;subst N;exact ChangeSpec.post_blind hp
def laidIn(w:ao)(g:Nat)(a:Array al):World:=
 {w with heap:=w.heap.modify g fun| .cells _ t fz=>.cells a t fz|o=>o}
def tabCells:DataW Unit->Array al
 | .agg l=>(l.map fun| .lit (.int k z)=>dp k z|_=>Value.nilIface).toArray
 |_=> #[]
structure iB where
 safe:List UInt8
 wait:List UInt8
deriving DecidableEq
theorem puint_app(a:Nat)(c:UInt8):∀(l:Str),fl a (l++[c])=match fl a l with| .ok m=>fl m [c]|e=>e:=by
  intro l;induction l generalizing a with
  |nil=>simp[fl]
  |cons b r ih=>
    simp only[ew,fl];split
    · split
      · rfl
      · split
        · rfl
        · rw[ih];rfl
    · rfl
theorem Pk{k:Nat}(h:k<10):(UInt8.ofNat (48+k)).toNat=48+k:=by
 have:(48+k)%256=48+k:=Nat.mod_eq_of_lt V;simpa[UInt8.toNat_ofNat']using this
theorem puint_dec:∀(u:Nat),u<18446744073709551616->fl 0 (hd u)=.ok u:=by
  intro u;induction u using lA with
  |ind u ih=>
    intro b;rw[hd];split
    · rename_i h;simp only[fl];rw[Pk h,if_pos V,if_neg V,if_neg V];congr 1;omega
    · rename_i h;have a:u%10<10:=mE _ zq1;rw[puint_app,ih (u / 10) V V];simp only[fl];rw[Pk a,if_pos V,if_neg V,if_neg V];congr 1;omega
theorem dec_head:∀(u:Nat),∃c r,hd u=c::r/\48<=c.toNat/\c.toNat<=57:=by
  intro u;induction u using lA with
  |ind u ih=>
    rw[hd];split
    · rename_i h;exact⟨_,[],Z,by rw[Pk h];omega,by rw[Pk h];omega⟩
    · rename_i h;obtain⟨c,r,d,b,a⟩:=ih (u / 10) V;exact⟨c,r++[UInt8.ofNat (48+u%10)],by rw[d];rfl,b,a⟩
theorem dec_chars:∀(u:Nat),∀c∈hd u,48<=c.toNat/\c.toNat<=57:=by
  intro u;induction u using lA with
  |ind u ih=>
    rw[hd];split
    · rename_i h;intro c a;simp only[eV]at a;subst a;rw[Pk h];omega
    · rename_i h;have b:u%10<10:=mE _ zq1;intro c a;rcases cV.1 a with a|a
      · exact ih (u / 10) V c a
      · simp only[eV]at a;subst a;rw[Pk b];omega
theorem itoa_chars(n:Int):∀c∈dr n,45<=c.toNat/\c.toNat<=57:=by
  intro c a;unfold dr at a;split at a
  · rcases bn.1 a with rfl|a
    · decide
    · have:=dec_chars _ c a;omega
  · have:=dec_chars _ c a;omega
theorem itoa_free{n:Int}{c:UInt8}(h:c.toNat<45):c∉dr n:=fun a=>by have:=itoa_chars n c a;omega
theorem mag_dec{u:Nat}(h:u<18446744073709551616):Lib.parseMag (hd u)=.ok u:=by
 obtain⟨c,r,a,_,_⟩:=dec_head u;unfold Lib.parseMag;rw[if_neg (by rw[a];simp),puint_dec u h]
theorem atoi_itoa{n:Int}(h:kr n):ey (dr n)=.ok n:=by
  obtain⟨f,d⟩:=h;unfold dr;split
  · rename_i hn;unfold ey;simp only;rw[if_pos (.inr zq1),mag_dec V];simp only;rw[if_neg zq3,if_neg V];simp;omega
  · rename_i hn;obtain⟨c,r,e,b,a⟩:=dec_head n.toNat;rw[e];unfold ey;simp only;rw[if_neg V,<-e,mag_dec V];simp only;rw[if_neg V,if_neg V,if_neg V];congr 1;omega
def numOf(w:Str):Option Int:=match ey w with| .ok v=>if dr v=w then aj v else aw|_=>aw
theorem numOf_itoa{n:Int}(h:kr n):numOf (dr n)=aj n:=by simp[numOf,atoi_itoa h]
theorem numOf_some{w:Str}{n:Int}(h:numOf w=aj n):w=dr n/\kr n:=by
  unfold numOf at h;cases e:ey w with
  |ok v=>
    rw[e]at h;simp only at h;split at h
    · rename_i a;cases h;have:=Lib.atoiAll_bounds e;exact⟨a.symm,this⟩
    · cases h
  |_=>rw[e]at h;cases h
theorem itoa_len{n:Int}(h:kr n):(dr n).length<=21:=Lib.itoa_length_le n h.1 h.2
def jH(c:UInt8):Str->List Str
 |[]=>[[]]
 |b::r=>if b=c then []::jH c r else match jH c r with|x::xs=>(b::x)::xs|[]=>[[b]]
theorem G9(c:UInt8):∀(s:Str),jH c s≠[]
  |[]=>by simp[jH]
  |b::r=>by
    unfold jH;split
    · simp
    · split<;>simp
theorem Jv{c:UInt8}:∀{x:Str},c∉x->jH c x=[x]
 |[],_=>rfl
 |b::r,h=>by
  have a:¬b=c:=fun e=>h (by rw[e];exact fa);rw[jH,if_neg a,Jv (x:=r) (fun e=>h (bk _ e))]
theorem Bt{c:UInt8}{r:Str}:∀{x:Str},c∉x->jH c (x++c::r)=x::jH c r
 |[],_=>by simp[jH]
 |b::x,h=>by
  have a:¬b=c:=fun e=>h (by rw[e];exact fa);rw[ew,jH,if_neg a,Bt (x:=x) (fun e=>h (bk _ e))]
theorem idx1(c:UInt8):∀(s:Str),(ka s [c]= -1/\c∉s)\/∃x r,s=x++c::r/\c∉x/\ka s [c]=x.length
  |[]=>by left;exact⟨by simp[ka],by simp⟩
  |b::l=>by
    by_cases h:b=c
    · subst h;right;exact⟨[],l,Z,by simp,by simp[ka,np]⟩
    · have a:¬c=b:=fun e=>h e.symm;have hp:np [c] (b::l)=false:=by simp[np,a]
      rcases idx1 c l with⟨h1,h2⟩|⟨x,r,h1,h2,h3⟩
      · left;refine⟨by rw[ka,hp,h1];simp,?_⟩;simp[h2,a]
      · right;refine⟨b::x,r,by rw[h1];rfl,by simp[h2,a],?_⟩;have:¬(ka l [c]== -1)=true:=by rw[h3];simp
        rw[ka,hp,if_neg zq3,if_neg this,h3];simp
theorem splitK_C(c:UInt8):∀(k:Nat) (s:Str),Lib.count s [c]=k->Lib.splitK [c] 0 k s=jH c s:=by
  intro k;induction k with
  |zero=>
    intro s a;rcases idx1 c s with⟨h1,h2⟩|⟨x,r,h1,h2,h3⟩
    · rw[Jv h2];rfl
    · rw[Lib.count_hit zq3 h3]at a;omega
  |succ k ih=>
    intro s a;rcases idx1 c s with⟨h1,h2⟩|⟨x,r,h1,h2,h3⟩
    · rw[Lib.count_miss h1]at a;omega
    · have b:¬(ka s [c]== -1)=true:=by rw[h3];simp
      rw[Lib.count_hit zq3 h3]at a;have d:s.drop (x.length+[c].length)=r:=by rw[h1];simp
      rw[Lib.splitK,if_neg b,h3];simp only[Int.toNat_natCast,Nat.add_zero];rw[d]at a⊢;rw[ih r V,h1,Bt h2,jU]
theorem split_C(c:UInt8)(s:Str):sl s [c]=jH c s:=splitK_C c _ s Z
def vS(c:UInt8)(l:List Str):Str:=oe l [c]
theorem BK(c:UInt8)(x:Str):vS c [x]=x:=Lib.join_one x [c]
theorem yM(c:UInt8)(x y:Str)(l:List Str):vS c (x::y::l)=x++c::vS c (y::l):=by
 unfold vS;rw[Lib.join_cons,Lib.join_cons];simp[Lib.joinTail]
theorem BL(c:UInt8):∀(s:Str),vS c (jH c s)=s
  |[]=>BK c []
  |b::r=>by
    have a:=BL c r;unfold jH;split
    · rename_i h;subst h;cases e:jH b r with
      |nil=>exact absurd e (G9 b r)
      |cons y l=>rw[yM,<-e,a];rfl
    · split
      · rename_i x xs e;rw[e]at a;cases xs with
        |nil=>rw[BK]at a⊢;rw[a]
        |cons y l=>rw[yM]at a⊢;rw[ew,a]
      · rename_i e;exact absurd e<|G9 c r
theorem WT(c:UInt8):∀(l:List Str),l≠[]->(∀x∈l,c∉x)->jH c (vS c l)=l
 |[],h,_=>absurd Z h
 |[x],_,h=>by rw[BK];exact Jv (h x zq3)
 |x::y::l,_,h=>by
  rw[yM,Bt (h x zq3),WT c (y::l) zq3 (fun z hz=>h z (bk _ hz))]
theorem Mf(c:UInt8):∀(s:Str),(jH c s).length<=s.length+1
  |[]=>by simp[jH]
  |b::r=>by
    have a:=Mf c r;unfold jH;split
    · simp;omega
    · split
      · rename_i x xs e;rw[e]at a;simp at a⊢;omega
      · simp
theorem El(c:UInt8):∀(s x:Str),x∈jH c s->x.length<=s.length/\c∉x
  |[],x,h=>by simp[jH]at h;subst h;simp
  |b::r,x,h=>by
    unfold jH at h;split at h
    · rcases bn.1 h with rfl|h
      · simp
      · have:=El c r x h;exact⟨by simp;omega,this.2⟩
    · rename_i d;split at h
      · rename_i y f e;rcases bn.1 h with rfl|h
        · have:=El c r y (by rw[e];exact fa);refine⟨by simp;exact this.1,?_⟩;intro a;rcases bn.1 a with a|a
          · exact d a.symm
          · exact this.2 a
        · have:=El c r x (by rw[e];exact bk _ h);exact⟨by simp;omega,this.2⟩
      · rename_i e;exact absurd e<|G9 c r
theorem UD(c:UInt8)(m:Nat):∀(l:List Str),(∀x∈l,x.length<=m)->(vS c l).length<=l.length*(m+1)
 |[],_=>by simp[vS,Lib.join_nil]
 |[x],h=>by rw[BK];have:=h x zq3;simp;omega
 |x::y::l,h=>by
  have b:=h x zq3;have a:=UD c m (y::l) fun z hz=>h z<|bk _ hz;rw[yM,bc,bq,bq,Nat.succ_mul];omega
def WU(c:UInt8)(s:Str):Option (List Int):=(jH c s).mapM numOf
theorem mapM_num_of{l:List Int}(h:∀x∈l,kr x):(l.map dr).mapM numOf=aj l:=by
 induction l with
 |nil=>rfl
 |cons x l ih=>
  rw[ck,mu,numOf_itoa (h x zq3),ih (fun y a=>h y (bk _ a))];rfl
theorem JY:∀{w:List Str} {l:List Int},w.mapM numOf=aj l->w=l.map dr/\∀x∈l,kr x
  |[],l,h=>by cases h;exact⟨Z,by simp⟩
  |x::w,l,h=>by
    rw[mu]at h;cases e:numOf x with
    |none=>rw[e]at h;cases h
    |some v=>
      rw[e]at h;cases e2:w.mapM numOf with
      |none=>rw[e2]at h;cases h
      |some m=>
        rw[e2]at h;cases h;obtain⟨f,d⟩:=JY e2;obtain⟨c,b⟩:=numOf_some e;refine⟨by rw[ck,<-f,<-c],?_⟩;intro y a;rcases bn.1 a with rfl|a
        · exact b
        · exact d y a
theorem nums_join{c:UInt8}(d:c.toNat<45){l:List Int}(a:l≠[])(h:∀x∈l,kr x):WU c (vS c (l.map dr))=aj l:=by
 unfold WU;rw[WT c _ (by simpa using a) (by intro x b;obtain⟨y,_,rfl⟩:=ea.1 b;exact itoa_free d)];exact mapM_num_of h
theorem join_nums{c:UInt8}{s:Str}{l:List Int}(h:WU c s=aj l):s=vS c (l.map dr)/\(∀x∈l,kr x)/\l≠[]:=by
 obtain⟨a,b⟩:=JY h;refine⟨by rw[<-a,BL],b,?_⟩;rintro rfl;exact G9 c s a
theorem X6{n:Int}(h:kr n):NR n=aj (dr n):=by unfold NR;rw[jN h]
theorem atoiS_eq{w:Str}(h:w.length<=281474976710656):Ju w=aj (match ey w with| .ok v=>(v,aq)| .range=>(pL w,ba)|_=>(0,ba)):=by unfold Ju;rw[jN h];all_goals (cases ey w<;>rfl)
theorem parseS_eq{w:Str}(h:w.length<=281474976710656):parseS w=aj (match ey w with| .ok v=>(v,aq)| .range=>(Lib.intSat 64 w,ba)|_=>(0,ba)):=by unfold parseS;rw[jN h,Lib.parseIntB_64];all_goals (cases ey w<;>rfl)
theorem splitS_eq{s:Str}(c:UInt8)(h:s.length<4294967281):QM s [c]=aj (jH c s):=by unfold QM;rw[jN ⟨h,bt _⟩,split_C]
theorem joinS_eq{l:List Str}(c:UInt8)(h:l.length<=140737488355328)(a:(vS c l).length<=140737488355328):X4 l [c]=aj (vS c l):=by unfold X4;rw[jN ⟨h,a⟩];rfl
end Go.LX