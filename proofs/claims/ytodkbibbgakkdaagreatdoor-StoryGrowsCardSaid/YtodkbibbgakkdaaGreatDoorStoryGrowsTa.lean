/-
  What the law StoryGrows needs of our own library and of the walks, no more.
-/
import Derived.WalkKit
import Derived.Laws.StructEq
import Derived.ChangeKeysEq
import Derived.StillTail
import Derived.LoopN
import Derived.Deep.Quiet
import Derived.OrdersHeld
import Derived.Deep.RegionHeld3
import Derived.Deep.Slices
import Derived.MapKept
import Derived.Lib.Bytealg
import Derived.ChangeArms
import Derived.Lib.AppendZeros
import Derived.Lib.Overlaps
import Derived.Laws.CopyRow
import Derived.Shelf.SlSortCmp.SmallK
import Derived.Laws.Pointers
import Derived.Laws.OwnMore
import Derived.Laws.Concat
import Derived.Laws.Strings2
import Derived.Laws.Strings3
import Derived.Laws.IdiomStrings
import Derived.Lib.AppendStr
import Derived.Lib.ConvBytes
import Derived.Lib.LaidTab
import Derived.Lib.ItoaNum
import Derived.WideLaws
import Derived.Lib.SplitLaws
import Derived.Lib.JoinLaws
import Derived.Lib.AtoiAll
import Derived.Lib.ParseIntB
import Derived.Laws.NewFold
import Derived.Lib.Join
import Derived.Lib.Strings
import Derived.Sort.Grow
import Derived.Lib.Space
import Derived.Handed
import Derived.LaidMore
import Derived.LaidHandle
import Derived.Stop.LaidErr
import Derived.Shelf.Vars
import Derived.WideShapes
import Derived.Lib.ParseIntBTie
import Derived.Lib.ItoaLen
import Derived.Lib.AtoiAllCases
open Array renaming ext'->lf,ext_getElem?->pH,foldl_toList->pN,getD_eq_getD_getElem?->cV,getElem?_eq_getElem->oa,getElem?_eq_none->la,getElem?_modify->ga,getElem?_setIfInBounds->np,getElem?_toList->iu,length_toList->ct,range->lP,replicate->nj,toList_push->qo,toList_setIfInBounds->jI,toList_zipIdx->py
open Bool renaming eq_false_iff->ir,eq_iff_iff->ey,false_eq_true->cJ,true_and->mQ,false->aq,true->ar
open ByteArray renaming ext->qq,mk->nF,size->lb
open Decidable renaming decide->ab
open Go renaming Addr->ks,Calls->bD,Edge->hH,Ending->mg,Exit->fh,Func->sg,FuncId->fS,MapEntry->se,MemPlace->ph,NoPanic->pd,Oper->ef,Operand->bo,Program->ca,TypeId->ba,Value->al,World->ao,asIntOf->ia,binOp->kq,bodyPost->jn,builtin->iU,eqGuard->gj,execOp->bl,getObj->kn,grownCap->gE,grownCap_le_maxLen->te,invoke->jx,loadVar->qF,maxLen->kt,newRow->qS,resolve->gS,run_convert_bytes_back->ra,run_equal_held_nil->tg,run_loadCells_list->tb,run_part_plain->fN,run_program->fy,run_storeCells_at->nz,run_underlying->pj,sizeOf->ft,size_zeroCells->ku,typeInfo->dy,undef->fO,underlying->cA,wpAnyH->qY,wpAnyH_all->nq,wpList->nk,wpList_plain->qw,wpQuiet->pc,wp_region_still_tail->sh,yielded->ej,zeroValue->jF
open Go.Act renaming eval->hS
open Go.Addr renaming add->gR
open Go.Builtin renaming append_->gA,copy_->rB,firstCells->mj,lenOf->nA,len_->sd,nextslicecap->iw,zeroCells->cy
open Go.Code renaming cond->oT,loop->rr,region->fW,rounds->pA
open Go.Exit renaming inBlock->hZ
open Go.Instr renaming fill->jJ,findKey->iz,findNow->sX,indexAt->sL,keyThatStays->jM,loadAt->oX,lookup->td,mapUpdate->lo,sameBits->sl,sameNow->sY,slice->jj,sliceAt->ix,sliceBound->eA,sliceBounds->dd,storeAt->sR,sureAddr->hU
open Go.Lib renaming TabIs->oc,atoiAll->ew,atoiSat->pS,bytesWorld->th,countB->gd,cut->mR,decDigits->hF,index->ka,itoa->dr,join->oi,parseUint10->fk,split->sq,splitB->rb,strCells->pk
open Go.Op renaming equalIn->oB,intCmp->mw
open Go.Oper renaming quietUpon->sT,wp->qE
open Go.Region renaming free->eR,lexTailB->qT,noSelect->ea,ready->cN,wanted->cp
open Go.Result renaming andThen_ok->bp,ok->qm
open Go.Sem renaming run->kh,run_bind->cv,run_ite->pP,run_pure->da
open Go.Value renaming cells->pe,int->dp,oneCell'->fb,ownBlock->ny,string->lp
open Go.World renaming alloc->ke,alloc_eq->hX,cell?->eV,cells?_some->qn,frozen?->oe,shape?->tf
open Int renaming eq_ofNat_of_zero_le->bs,natCast_mul->s7,natCast_nonneg->hP
open List renaming append_assoc->cg,cons_append->et,drop->ml,drop_append->iy,drop_append_of_le_length->fR,drop_drop->lR,drop_eq_getElem_cons->cS,drop_eq_nil_of_le->cC,drop_left'->sn,drop_set->tc,drop_take->eh,drop_zero->kf,eq_nil_of_length_eq_zero->cm,ext_getElem?->dk,flatten_cons->kl,getElem?_append->gw,getElem?_drop->cw,getElem?_eq_getElem->bh,getElem?_eq_none->bw,getElem?_map->eg,getElem?_set->ff,getElem?_take->cf,getElem_append_left->eN,getElem_append_right->fi,getElem_drop->mS,getElem_set_ne->mz,getElem_set_self->lX,getElem_take->km,isPrefixOf->nt,length->fa,length_append->bc,length_cons->bq,length_drop->cI,length_map->cF,length_replicate->jt,length_set->cq,length_take->cd,mapM_cons->mu,map_cons->ck,map_nil->ep,map_toArray->fL,mem_append->cR,mem_cons->bn,mem_cons_of_mem->bk,mem_cons_self->eW,mem_map->dL,mem_singleton->eS,nil_append->cQ,not_mem_nil->dh,replicate->cc,take->hY,take_append_of_le_length->cX,take_left->iv,take_of_length_le->ie,take_set->mx,take_take->eb,zipIdx_cons->rv
open Nat renaming add_assoc->jz,add_mul->cj,beq->fu,ble->ld,blt->nc,blt_eq->lz,div_lt_of_lt_mul->pL,eq_of_beq_eq_true->gi,le_max_left->s8,le_max_right->so,le_mul_of_pos_right->lj,le_of_ble_eq_true->gn,le_of_eq->lA,le_of_not_lt->sf,le_refl->bt,le_trans->dv,lt_of_lt_of_le->cr,lt_or_ge->cD,lt_succ_self->sk,min->iS,min_eq_left->cP,mod_lt->mN,mul_comm->nd,mul_le_mul_right->bd,mul_one->mm,not_lt_zero->eM,one_mul->nr,strongRecOn->lE,sub_mul->ns,zero_add->fX,zero_le->fv,zero_mul->pf
open Option renaming bind_some->cH,getD_some->eL,map_some->db,none->aE,some->aj
open Option.some renaming inj->cM,injEq->eI
open Prod.mk renaming injEq->iq
namespace Go
theorem Z.{u} {α : Sort u} {a : α} : a = a := rfl
theorem U : True := trivial
theorem V {p : Prop} (h : p := by omega) : p := h
theorem zq1 {p : Prop} (h : p := by decide) : p := h
theorem zq2 {p : Prop} (h : p := by kernel_rfl) : p := h
theorem zq3 {p : Prop} (h : p := by simp) : p := h
end Go
set_option linter.unusedSimpArgs false
set_option linter.unusedVariables false
set_option maxRecDepth 10000
namespace Go.LX
open Go.RowKit
def act(n:Nat)(env:Nat->al):Act:={tmps:=Array.ofFn (n:=n) fun i=>env i.val,defers:=[]}
def upd(env:Nat->al)(d:Nat)(v:al):Nat->Value:=fun i=>bif fu i d then v else env i
def ev(n:Nat)(env:Nat->al):bo->al
 | .tmp t=>bif nc t n then env t else fO
 | .const v=>v
 | .global g=>.pointer (aj ⟨g,0,aE⟩)
 | .func f=>.func (.func f) #[] #[]
def gG(env:Nat->al):Option Nat->al->(Nat->al)
 |some d,v=>upd env d v
 |none,_=>env
theorem gX(n:Nat)(env:Nat->al):(act n env).eval=ev n env:=by
  funext x;cases x with
  |tmp t=>
    by_cases h:t<n
    · have a:nc t n=true:=by rw[lz];exact h
      simp[hS,act,ev,h,a]
    · have a:nc t n=false:=by rw[ir,ne_eq,lz];exact h
      simp[hS,act,ev,h,a]
  |_=>rfl
theorem E8(n:Nat)(env:Nat->al)(d:Option Nat)(v:al):(act n env).put d v=act n (gG env d v):=by
  cases d with
  |none=>rfl
  |some d=>
    simp only[Act.put,act,gG,Act.mk.injEq,and_true];apply Array.ext
    · simp
    · intro i b f;simp at b;have e:i<(Array.ofFn (n:=n) fun i=>env i.val).size:=by simp;exact b
      rw[Array.getElem_setIfInBounds e];by_cases a:d=i
      · subst a;simp[upd,Nat.beq_refl]
      · have c:fu i d=false:=by rw[ir];intro h;exact a (gi h).symm
        simp[a,upd,c]
def UI(args:List al):Nat->Value:=fun i=>args.getD i fO
theorem act_init(n:Nat)(args:List al)(h:args.length<=n):({tmps:=args.toArray++nj (n-args.toArray.size) fO,defers:=[]}:Act)=act n (UI args):=by
  simp only[act,Act.mk.injEq,and_true];apply Array.ext
  · simp;omega
  · intro i b c;simp[Array.getElem_append,UI,List.getD];by_cases a:i<args.length
    · simp[a]
    · simp[a]
structure WL(P:ca)(ops:Array ef)(Q:fh->Act->ao->Prop)(l:List ef)(n:Nat)(env:Nat->al)(w:ao):Prop where
 out:nk P ops Q l (act n env) w
structure WC(P:ca)(c:Code)(Q:fh->Act->ao->Prop)(n:Nat)(env:Nat->al)(w:ao):Prop where
 out:c.wp P Q (act n env) w
section
variable{P:ca}{ops:Array ef}{Q:fh->Act->ao->Prop}{n:Nat}{env:Nat->al}{w w':ao}{rest:List ef}
 {d:Option Nat} {op:Op} {ty:ba} {pos:String} {af:Array hH} {v:al} {g:Option (Nat×Bool)}
theorem J(b:(bl (ev n env) ⟨d,op,ty,pos,af,aE⟩).run P w=.ok (.value v) w')(h:WL P ops Q rest n (gG env d v) w'):
  WL P ops Q (⟨d,op,ty,pos,af,aE⟩::rest) n env w:=by
 refine⟨qw Z fun K a=>?_⟩;unfold qE;rw[gX,b];show K _ _;rw[E8];exact a _ _ h.out
theorem Bg(b:(bl (ev n env) ⟨d,op,ty,pos,af,aE⟩).run P w=.ok .skip w')(h:WL P ops Q rest n (gG env d fO) w'):
  WL P ops Q (⟨d,op,ty,pos,af,aE⟩::rest) n env w:=by
 refine⟨qw Z fun K a=>?_⟩;unfold qE;rw[gX,b];show K _ _;rw[E8];exact a _ _ h.out
theorem wl_enter{f:fS}{args:Array al}{R:mg->ao->Prop}(b:(bl (ev n env) ⟨d,op,ty,pos,af,aE⟩).run P w=.ok (.enter f args) w)(i:bD P f args w R)
  (h:∀e w',R e w'->∃v,e=.returned v/\WL P ops Q rest n (gG env d v) w'):
  WL P ops Q (⟨d,op,ty,pos,af,aE⟩::rest) n env w:=by
 refine⟨qw Z fun K g=>?_⟩;unfold qE;rw[gX,b];show bD P f args w _;refine i.mono fun e w' a=>?_;obtain⟨v,rfl,c⟩:=h e w' a;show K _ _;rw[E8];exact g _ _ c.out
theorem Eo{j dj:Nat}{b:Bool}(d:(ops[j]?).bind (·.dst)=aj dj)(c:ev n env (.tmp dj)=.bool b):ej ops (act n env).tmps j=aj b:=by
  unfold ej;have a:(act n env).eval (.tmp dj)=.bool b:=by rw[gX];exact c
  simp only[d,cH];simp only[hS]at a;cases h2:(act n env).tmps[dj]? with
  |none=>simp[cV,h2,fO]at a
  |some x=>simp[cV,h2]at a;subst a;rfl
theorem Xa{j dj:Nat}{b:Bool}(c:(ops[j]?).bind (·.dst)=aj dj)(g:ev n env (.tmp dj)=.bool b)
    (h:WL P ops Q (⟨d,op,ty,pos,af,aE⟩::rest) n env w):WL P ops Q (⟨d,op,ty,pos,af,aj (j,b)⟩::rest) n env w:=by
  have f:=Eo (ops:=ops) c g;have e:cp ⟨d,op,ty,pos,af,aj (j,b)⟩ (ej ops (act n env).tmps)=true:=by simp[cp,f]
  have a:cp ⟨d,op,ty,pos,af,aE⟩ (ej ops (act n env).tmps)=true:=rfl;obtain⟨h⟩:=h;refine⟨?_⟩;unfold nk at h⊢;rw[if_pos a]at h;rw[if_pos e];exact h
theorem j3{j dj:Nat}{b b':Bool}(a:(ops[j]?).bind (·.dst)=aj dj)(g:ev n env (.tmp dj)=.bool b')(f:(b'==b)=aq)
    (h:WL P ops Q rest n (gG env d fO) w):WL P ops Q (⟨d,op,ty,pos,af,aj (j,b)⟩::rest) n env w:=by
  have e:=Eo (ops:=ops) a g;have c:cp ⟨d,op,ty,pos,af,aj (j,b)⟩ (ej ops (act n env).tmps)=false:=by simpa[cp,e]using f
  refine⟨?_⟩;unfold nk;rw[if_neg (by rw[c];decide),E8];exact h.out
theorem ah(h:Q .normal (act n env) w):WL P ops Q [] n env w:=⟨h⟩
end
section
variable{P:ca}{Q:fh->Act->ao->Prop}{n:Nat}{env:Nat->al}{w:ao}{x y:Code}
theorem ay{id:Nat}{l:List ef}(h:WL P l.toArray Q l n env w):WC P (fW id l.toArray aq) Q n env w:=⟨wp_region_lit h.out⟩
theorem aA(h:WC P x (Exit.then (y.wp P Q) Q) n env w):WC P (Code.seq x y) Q n env w:=⟨wp_seq h.out⟩
theorem aH{id:Nat}(h:WC P x (hZ id Q) n env w):WC P (Code.block id x) Q n env w:=⟨wp_block h.out⟩
theorem ax(h:Q .normal (act n env) w):WC P .skip Q n env w:=⟨wp_skip h⟩
theorem BB(h:Q .ret (act n env) w):WC P .ret Q n env w:=⟨wp_ret h⟩
theorem jQ{id:Nat}(h:Q (.exit id) (act n env) w):WC P (.exit id) Q n env w:=⟨wp_exit h⟩
theorem eQ{c:bo}{t:Bool}(d:ev n env c=.bool t)(a:t=ar->WC P x Q n env w)(b:t=aq->WC P y Q n env w):
 WC P (oT c x y) Q n env w:=⟨wp_cond_split (by rw[gX];exact d) (fun h=>(a h).out) (fun h=>(b h).out)⟩
theorem QQ{c:bo}(b:ev n env c=.bool ar)(a:WC P x Q n env w):WC P (oT c x y) Q n env w:=⟨wp_cond_true (by rw[gX];exact b) a.out⟩
theorem wc_iff{c:bo}(b:ev n env c=.bool aq)(a:WC P y Q n env w):WC P (oT c x y) Q n env w:=⟨wp_cond_false (by rw[gX];exact b) a.out⟩
theorem ae{Q':fh->Act->ao->Prop}(h:WC P y Q n env w):Exit.then (y.wp P Q) Q' .normal (act n env) w:=h.out
def hav(mod:Nat->Bool)(b a:Nat->al):Nat->Value:=fun i=>bif mod i then b i else a i
def upds(e:Nat->al):List (Nat×al)->Nat->al
 |[]=>e
 |(i,v)::r=>upd (upds e r) i v
def Holds(e:Nat->al):List (Nat×al)->Prop
 |[]=>True
 |(i,v)::r=>e i=v/\Holds e r
def Jr(mod:Nat->Bool)(e a:Nat->al):Prop:=∀i,mod i=aq->e i=a i
theorem Jr.refl(mod:Nat->Bool)(e:Nat->al):Jr mod e e:=fun _ _=>rfl
theorem Jr.hav(mod:Nat->Bool)(j e:Nat->al):Jr mod (hav mod j e) e:=fun i h=>by simp[LX.hav,h]
theorem Jr.upd{mod:Nat->Bool}{e a:Nat->al}{d:Nat}{v:al}(c:mod d=ar)(h:Jr mod e a):Jr mod (upd e d v) a:=fun i b=>by
 have:i≠d:=fun e=>by rw[e,c]at b;exact Bool.noConfusion b
 have f:fu i d=false:=by rw[ir];intro h;exact this (gi h)
 simp[LX.upd,f,h i b]
theorem upd_self(e:Nat->al){i:Nat}{v:al}(h:e i=v):upd e i v=e:=by
  funext k;by_cases a:fu k i=ar
  · have:=gi a;subst this;simp[upd,h]
  · simp[upd,a]
theorem hav_self{mod:Nat->Bool}{e a:Nat->al}(h:Jr mod e a):hav mod e a=e:=by
 funext i;cases hm:mod i with
 |true=>simp[hav,hm]
 |false=>simp[hav,hm,h i hm]
theorem UJ{e:Nat->al}:∀(l:List (Nat×al)),Holds e l->upds e l=e
 |[],_=>rfl
 |(i,v)::r,h=>by
  show upd (upds e r) i v=e;rw[UJ r h.2];exact upd_self e h.1
theorem wc_loop{σ:Type}{c:Code}(mod:Nat->Bool)(live:σ->List (Nat×al))(J:σ->ao->Prop)(v:σ->Nat)(A:σ)
  (N:Holds env (live A)) (K:J A w)
  (i:∀s G S,J s G->WC P c (Exit.then (fun a' w'=>∃p u,a'=act n u/\Jr mod u env/\Holds u (live p)/\J p w'/\v p<v s) Q) n (upds (hav mod S env) (live s)) G):
  WC P (rr c) Q n env w:=by
 refine⟨?_⟩;intro b k cs;have y:∀m s e w,v s=m->Jr mod e env->Holds e (live s)->J s w->
   ∃o a' w',Q o a' w'/\Arrives P (lone (b.at (act n e) (.code c:: .inLoop c::k)) cs w) b k cs o a' w':=by
  intro m;induction m using lE with
  |_ m ih=>
   intro s e w L M O R;have I:=(i s w e R).out;have E:upds (hav mod e env) (live s)=e:=by rw[hav_self M];exact UJ _ O
   rw[E]at I;obtain⟨o,f,d,h,a⟩:=I b (.inLoop c::k) cs;cases o with
   |normal=>
    obtain⟨p,u,rfl,z,C,F,B⟩:=h;obtain⟨r,q,t,j,g⟩:=ih (v p) (L▸B) p u d Z z C F;exact⟨r,q,t,j,.of_steps (Steps.trans a<|.one step_inLoop) g⟩
   |exit id=>exact⟨_,f,d,h,.pass (x:=.inLoop c) Z (fun _ _=>.inl zq3) a⟩
   |goto l=>exact⟨_,f,d,h,.pass (x:=.inLoop c) Z (fun _ _=>.inl zq3) a⟩
   |ret=>exact⟨_,f,d,h,.pass (x:=.inLoop c) Z (fun _ _=>.inl zq3) a⟩
   |panic ch=>exact⟨_,f,d,h,.pass (x:=.inLoop c) Z (fun _ _=>.inl zq3) a⟩
   |outgrown=>exact⟨_,f,d,h,.pass (x:=.inLoop c) Z (fun _ _=>.inl zq3) a⟩
 obtain⟨o,a',w',h,a⟩:=y _ A env w Z (Jr.refl _ _) N K;exact⟨o,a',w',h,.of_steps (.one step_loop) a⟩
end
open Go.RowKit
structure One(P:ca)(T:ba)(z:al):Prop where
 desc:∃d,P.underlying T=aj d/\(match d with| .struct _| .array _ _=>False|_=>True)
 info:(P.info? T).map (fun i=>(i.zero,i.size))=aj (aj z,1)
 cell:z.cells= #[z]
structure vN(P:ca)(T:ba)(zs:List al):Prop where
 desc:∃d,P.underlying T=aj d/\(match d with| .struct _| .array _ _=>True|_=>False)
 info:(P.info? T).map (fun i=>(i.zero,i.size))=aj (aj (.agg zs.toArray),zs.length)
structure SliceOf(P:ca)(T E:ba)(sz:Nat):Prop where
  desc:P.underlying T=aj (.slice E)
  info:(P.info? E).map (·.size)=aj sz
structure dS(P:ca)(T:ba)(k off:Nat):Prop where
  desc:∃fs f s,P.underlying T=aj (.struct fs)/\fs[k]? =aj f/\f.offset=off/\(P.info? f.type).map (·.size)=aj (s+1)
section
variable{P:ca}{w:ao}{ρ:bo->al}{d:Option Nat}{ty:ba}{pos:String}{af:Array hH}{g:Option (Nat×Bool)}
theorem bE{x:bo}{v:al}(a:ρ x=v):(bl ρ ⟨d,.move x,ty,pos,af,g⟩).run P w=.ok (.value v) w:=by subst a;rfl
theorem fe{x:bo}{v:al}(a:ρ x=v):(bl ρ ⟨d,.assign x,ty,pos,af,g⟩).run P w=.ok (.value v) w:=by subst a;rfl
theorem jB{c x y:bo}{b:Bool}{v:al}(e:ρ c=.bool b)(a:(if b then ρ x else ρ y)=v):(bl ρ ⟨d,.pick c x y,ty,pos,af,g⟩).run P w=.ok (.value v) w:=by
 subst a;simp[bl,e,asBool]
theorem r_not{x:bo}{T:ba}{b:Bool}(a:ρ x=.bool b):(bl ρ ⟨d,.unOp .not T x,ty,pos,af,g⟩).run P w=.ok (.value (.bool !b)) w:=by
 simp[bl,a,Op.unary]
theorem wrap_in{x:Int}(b: -9223372036854775808<=x)(a:x<=9223372036854775807):IntKind.i64.wrap x=x:=IntWalk.i64_in x ⟨b,a⟩
theorem uk{x y:bo}{T T2:ba}{p q:Int}(b:ρ x=.int .i64 p)(a:ρ y=.int .i64 q):(bl ρ ⟨d,.binOp .lss T x y T2,ty,pos,af,g⟩).run P w=.ok (.value (.bool (ab (p<q)))) w:=by
 simp[bl,b,a,gj,kq,mw]
theorem Sz{x y:bo}{T T2:ba}{p q:Int}(b:ρ x=.int .i64 p)(a:ρ y=.int .i64 q):(bl ρ ⟨d,.binOp .leq T x y T2,ty,pos,af,g⟩).run P w=.ok (.value (.bool (ab (p<=q)))) w:=by
 simp[bl,b,a,gj,kq,mw]
theorem iZ{x y:bo}{T T2:ba}{p q:Int}(b:ρ x=.int .i64 p)(a:ρ y=.int .i64 q):(bl ρ ⟨d,.binOp .gtr T x y T2,ty,pos,af,g⟩).run P w=.ok (.value (.bool (ab (q<p)))) w:=by
 simp[bl,b,a,gj,kq,mw]
theorem mh{x y:bo}{T T2:ba}{p q:Int}(b:ρ x=.int .i64 p)(a:ρ y=.int .i64 q):(bl ρ ⟨d,.binOp .geq T x y T2,ty,pos,af,g⟩).run P w=.ok (.value (.bool (ab (q<=p)))) w:=by
 simp[bl,b,a,gj,kq,mw]
theorem oL{x y:bo}{T T2:ba}{p q:Int}{k:IntKind}(b:ρ x=.int k p)(a:ρ y=.int k q):(bl ρ ⟨d,.binOp .eql T x y T2,ty,pos,af,g⟩).run P w=.ok (.value (.bool (ab (p=q)))) w:=by
 simp[bl,b,a,gj,kq,mw];rfl
theorem yN{x y:bo}{T T2:ba}{p q:Int}{k:IntKind}(b:ρ x=.int k p)(a:ρ y=.int k q):(bl ρ ⟨d,.binOp .neq T x y T2,ty,pos,af,g⟩).run P w=.ok (.value (.bool (ab (p≠q)))) w:=by
 simp[bl,b,a,gj,kq,mw];rfl
theorem Gu{x y:bo}{T T2:ba}{p q:Int}(b:ρ x=.int .i64 p)(a:ρ y=.int .i64 q)(h: -9223372036854775808<=p+q/\p+q<=9223372036854775807):
  (bl ρ ⟨d,.binOp .add T x y T2,ty,pos,af,g⟩).run P w=.ok (.value (.int .i64 (p+q))) w:=by
 simp[bl,b,a,gj,kq,Op.intArith,wrap_in h.1 h.2]
theorem ni{x y:bo}{T T2:ba}{p q:Int}(b:ρ x=.int .i64 p)(a:ρ y=.int .i64 q)(h: -9223372036854775808<=p-q/\p-q<=9223372036854775807):
  (bl ρ ⟨d,.binOp .sub T x y T2,ty,pos,af,g⟩).run P w=.ok (.value (.int .i64 (p-q))) w:=by
 simp[bl,b,a,gj,kq,Op.intArith,wrap_in h.1 h.2]
theorem qb{x:bo}{T E:ba}{f:Nat}{a:Option ks}{l c:Nat}(b:SliceOf P T E f)(e:ρ x=.slice a l c):
  (bl ρ ⟨d,.call {callee:=.builtin .len,args:= #[x],argTypes:= #[T]},ty,pos,af,g⟩).run P w=.ok (.value (.int .i64 l)) w:=by
 simp[bl,gS,jx,iU,sd,e,cA,b.desc,goInt]
theorem r_load1{x:bo}{T:ba}{z v:al}{b o:Nat}{cs:Array al}{E:ba}{a:Nat×Nat}(c:One P T z)(i:ρ x=.pointer (aj ⟨b,o,aE⟩))(f:w.heap[b]? =aj (.cells cs E a))(h:cs[o]? =aj v):
  (bl ρ ⟨d,.load T x,ty,pos,af,g⟩).run P w=.ok (.value v) w:=by
 obtain⟨e,k,j⟩:=c.desc;have l:w.cell? ⟨b,o,aE⟩=aj v:=by simp[eV,f,h]
 cases e<;>simp_all[bl,oX,hU,qF,isAgg,cA]
end
open Go.RowKit
abbrev BS:=Nat->Prop
abbrev BE:BS:=fun _=>False
structure bL(K:BS)(w w':ao):Prop where
 os:w'.os=w.os
 tape:w'.tape=w.tape
 output:w'.output=w.output
 size:w.heap.size<=w'.heap.size
 block:∀b,¬K b->b<w.heap.size->w'.heap[b]? =w.heap[b]?
abbrev Grow(w w':ao):Prop:=bL BE w w'
theorem bL.refl(K:BS)(w:ao):bL K w w:=⟨rfl,rfl,rfl,bt _,fun _ _ _=>rfl⟩
theorem bL.step{K N:BS}{a b c:ao}(h:bL K a b)(k:bL N b c)(hN:∀x,N x->x<a.heap.size->K x):bL K a c:=
 ⟨k.os.trans h.os,k.tape.trans h.tape,k.output.trans h.output,dv h.size k.size,fun i e d=>(k.block i (fun hn=>e (hN i hn d)) (cr d h.size)).trans (h.block i e d)⟩
theorem bL.grow{K:BS}{a b c:ao}(h:bL K a b)(k:Grow b c):bL K a c:=h.step k (fun _ h=>h.elim)
theorem bL.weaken{K N:BS}{a b:ao}(h:bL K a b)(e:∀x,K x->x<a.heap.size->N x):bL N a b:=⟨h.os,h.tape,h.output,h.size,fun i d c=>h.block i (fun hn=>d (e i hn c)) c⟩
theorem Grow.keep{K:BS}{a b:ao}(h:Grow a b):bL K a b:=h.weaken (fun _ h=>h.elim)
theorem iW{w:ao}{b:Nat}{o:Obj}(a:w.heap[b]? =aj o):b<w.heap.size:=by
  rcases cD b w.heap.size with h1|h1
  · exact h1
  · rw[la h1]at a;cases a
theorem bL.blk{K:BS}{w w':ao}(h:bL K w w'){b:Nat}{o:Obj}(a:w.heap[b]? =aj o)(c:¬K b):w'.heap[b]? =aj o:=by
 rw[h.block b c (iW a),a]
theorem Grow.blk{w w':ao}(h:Grow w w'){b:Nat}{o:Obj}(a:w.heap[b]? =aj o):w'.heap[b]? =aj o:=bL.blk h a (fun h=>h)
theorem Grow.below{w w':ao}(h:Grow w w'):Below w.heap.size w w':=⟨h.os,h.tape,h.output,h.size,fun k a=>h.block k (fun h=>h) a⟩
theorem Grow.of_below{w w':ao}(h:Below w.heap.size w w'):Grow w w':=⟨h.os,h.tape,h.output,h.size,fun k _ a=>h.block k a⟩
theorem Grow.alloc(w:ao)(o:Obj):Grow w (w.alloc o):=Grow.of_below ((Below.refl _ _).alloc (bt _) o)
theorem Py(w:ao)(o:Obj):(w.alloc o).heap[w.heap.size]? =aj o:=by show(w.heap.push o)[w.heap.size]? =aj o;simp
theorem alloc_size(w:ao)(o:Obj):(w.alloc o).heap.size=w.heap.size+1:=by show(w.heap.push o).size=_;simp
theorem Grow.drew(w:ao):Grow w w.drew:=⟨rfl,rfl,rfl,bt _,fun _ _ _=>rfl⟩
theorem Grow.trans{a b c:ao}(h:Grow a b)(k:Grow b c):Grow a c:=h.grow k
structure lL(α:Type)where
 sz:Nat
 rd:ao->BS->List al->α->Prop
 len:∀{w A cs x},rd w A cs x->cs.length=sz
 one:∀{w A cs x},rd w A cs x->∀u∈cs,u.oneCell'=ar
 pos:0<sz
 go:∀{w A cs x w' A' K},rd w A cs x->bL K w w'->(∀b,K b->b<w.heap.size->A b)->(∀b,A' b->b<w.heap.size->A b)->rd w' A' cs x
def eD{α:Type}(R:lL α)(w:ao)(B A:BS)(v:al)(l:List α):Prop:=
 ∃a cap,v=.slice a l.length cap/\l.length<=cap/\cap<=kt/\(a=aE->cap=0)/\
  ∀i (h:i<l.length),∃b o cells E c,a=aj ⟨b,o,aE⟩/\¬B b/\w.heap[b]? =aj (.cells cells E c)/\R.rd w A ((cells.toList.drop (o+i*R.sz)).take R.sz) l[i]
abbrev dn{α:Type}(R:lL α)(w:ao)(A:BS)(v:al)(l:List α):Prop:=eD R w A A v l
theorem eD.go{α:Type}{R:lL α}{w w':ao}{B e A A' K:BS}{v:al}{l:List α}(h:eD R w B A v l)(g:bL K w w')(c:∀b,K b->b<w.heap.size->B b)(p:∀b,K b->b<w.heap.size->A b)(x:∀b,e b->b<w.heap.size->B b)(k:∀b,A' b->b<w.heap.size->A b):eD R w' e A' v l:=by
 obtain⟨a,cap,rfl,n,u,s,q⟩:=h;refine⟨a,cap,Z,n,u,s,fun i m=>?_⟩;obtain⟨b,o,cells,E,t,r,f,d,j⟩:=q i m;exact⟨b,o,cells,E,t,r,fun h=>f<|x b h<|iW d,g.blk d fun h=>f<|c b h<|iW d,R.go j g p k⟩
theorem eD.sub{α:Type}{R:lL α}{w:ao}{B a A A':BS}{v:al}{l:List α}(h:eD R w B A v l)(d:∀b,a b->b<w.heap.size->B b)(c:∀b,A' b->b<w.heap.size->A b):eD R w a A' v l:=
 h.go (bL.refl BE w) (fun _ h=>h.elim) (fun _ h=>h.elim) d c
theorem eD.src{α:Type}{R:lL α}{w:ao}{B A:BS}{v:al}{l:List α}(h:eD R w B A v l):eD R w BE A v l:=h.sub (fun _ h=>h.elim) (fun _ h _=>h)
theorem dn.go{α:Type}{R:lL α}{w w':ao}{A A' K:BS}{v:al}{l:List α}(h:dn R w A v l)(d:bL K w w')(c:∀b,K b->b<w.heap.size->A b)(a:∀b,A' b->b<w.heap.size->A b):dn R w' A' v l:=
 eD.go h d c c a a
theorem eD.one{α:Type}{R:lL α}{w:ao}{B A:BS}{v:al}{l:List α}(h:eD R w B A v l):v.oneCell'=true:=by
 obtain⟨a,cap,rfl,_⟩:=h;rfl
theorem eD.nil{α:Type}{R:lL α}{w:ao}{B A:BS}:eD R w B A (.slice aE 0 0) ([]:List α):=⟨aE,0,rfl,bt _,by unfold kt;omega,fun _=>rfl,fun i a=>absurd a (eM _)⟩
theorem eD.bK{α:Type}{R:lL α}{w:ao}{B A:BS}{v:al}{l:List α}(h:eD R w B A v l):l.length<=9223372036854775807:=by
 obtain⟨a,cap,_,c,b,_⟩:=h;unfold kt at b;omega
def yf{α:Type}(R:lL α):lL (List α) where
 sz:=1
 rd w A cs l:=∃v,cs=[v]/\dn R w A v l
 len:=by rintro w A cs x ⟨v,rfl,_⟩;rfl
 one:=by
  rintro w A cs x⟨v,rfl,h⟩u hu;simp at hu;subst hu;exact h.one
 pos:=by decide
 go:=by
  rintro w A cs x w' A' K⟨v,rfl,h⟩hk hK hA;exact⟨v,Z,h.go hk hK hA⟩
def bZ:lL Int where
 sz:=1
 rd _ _ cs x:=cs=[.int .i64 x]
 len:=by rintro w A cs x rfl;rfl
 one:=by rintro w A cs x rfl u hu;simp at hu;subst hu;rfl
 pos:=by decide
 go:=fun h _ _ _=>h
abbrev Str:=List UInt8
def bF(s:Str):Value:=.string ⟨s.toArray⟩
def uK:lL Str where
 sz:=1
 rd _ _ cs x:=cs=[bF x]
 len:=by rintro w A cs x rfl;rfl
 one:=by rintro w A cs x rfl u hu;simp at hu;subst hu;rfl
 pos:=by decide
 go:=fun h _ _ _=>h
def ob:al->Nat->Prop| .slice (aj a) _ _=>fun b=>b=a.block|_=>fun _=>False
theorem ob_row{v:al}{k:Nat}:ob v k↔v.ownBlock=aj k:=by
 cases v with
 |slice a l c=>cases a with
  |none=>simp[ob,ny]
  |some a=>simp[ob,ny];exact eq_comm
 |_=>simp[ob,ny]
def cO{α:Type}(R:lL α)(E:ba)(w:ao)(A:BS)(v:al)(l:List α):Prop:=
 ∃xs,w.ownsRow 0 E R.sz v l.length xs/\∀i (h:i<l.length),R.rd w (fun b=>A b\/ob v b) ((xs.drop (i*R.sz)).take R.sz) l[i]
theorem cO.nil{α:Type}{R:lL α}{E:ba}{w:ao}{A:BS}:cO R E w A (.slice aE 0 0) ([]:List α):=
 ⟨[],World.ownsRow_nil _ _ _ _,fun i h=>absurd h (eM _)⟩
theorem cO.lt{α:Type}{R:lL α}{E:ba}{w:ao}{A:BS}{v:al}{l:List α}(h:cO R E w A v l):∀k,ob v k->k<w.heap.size:=by
 obtain⟨xs,b,_⟩:=h;intro k a;exact(b.lt k<|ob_row.1 a).2
theorem cO.go{α:Type}{R:lL α}{E:ba}{w w':ao}{A A' K:BS}{v:al}{l:List α}(h:cO R E w A v l)(e:bL K w w')(m:∀b,K b->b<w.heap.size->A b)(d:∀b,K b->¬ob v b)(f:∀b,A' b->b<w.heap.size->A b\/ob v b):cO R E w' A' v l:=by
  obtain⟨xs,c,n⟩:=h;refine⟨xs,?_,fun i j=>R.go (n i j) e (fun b c o=>.inl<|m b c o) fun b a k=>?_⟩
  · refine⟨c.1,?_⟩;rcases c.2 with h|⟨g,cap,cur,rfl,e1,e2,e3⟩
    · exact .inl h
    · exact .inr ⟨g,cap,cur,Z,e1,e.blk e2 (fun h=>d g h (by simp[ob])),e3⟩
  · rcases a with a|a
    · exact f b a k
    · exact .inr a
theorem cO.one{α:Type}{R:lL α}{E:ba}{w:ao}{A:BS}{v:al}{l:List α}(h:cO R E w A v l):v.oneCell'=true:=by
 obtain⟨xs,a,_⟩:=h;rcases a.2 with⟨rfl,_⟩|⟨g,cap,cur,rfl,_⟩<;>rfl
theorem cO.rd{α:Type}{R:lL α}{E:ba}{w:ao}{A A':BS}{v:al}{l:List α}(h:cO R E w A v l)(d:∀b,ob v b->¬A' b)(c:∀b,A' b->b<w.heap.size->A b\/ob v b):dn R w A' v l:=by
  obtain⟨xs,e,f⟩:=h;rcases e.2 with⟨rfl,hn⟩|⟨g,cap,cur,rfl,e1,e2,e3,e4,e5,e6⟩
  · have:l=[]:=cm hn;subst this;exact eD.nil
  · refine⟨aj ⟨g,0,aE⟩,cap,Z,e3,e4,(fun h=>by cases h),fun i a=>⟨g,0,cur,E,(0,0),Z,d g (by simp[ob]),e2,?_⟩⟩;have:=R.go (A':=A') (f i a) (bL.refl BE w) (fun _ h=>h.elim) c;rw[<-e6,eh,eb,cP ?_]at this
    · rw[fX];exact this
    · have:(i+1)*R.sz<=l.length*R.sz:=bd _ a;rw[cj]at this;omega
def Mc(b:Array se)(a:Nat):Prop:=(∀e∈b.toList,e.born<a)/\(b.toList.map (·.born)).Nodup
def Jz(w:ao)(b:Nat)(jO:List (Int×al)):Prop:=
 ∃c a,w.heap[b]? =aj (.map c a)/\c.toList.map (fun e=>(e.key,e.val))=jO.map (fun p=>(dp .i64 p.1,p.2))/\Mc c a
structure Pce where
 own:BS
 P:ao->BS->Prop
 lt:∀{w A b},P w A->own b->b<w.heap.size
 go:∀{w w' A A' K},P w A->bL K w w'->(∀b,K b->b<w.heap.size->A b)->(∀b,K b->¬own b)->(∀b,A' b->b<w.heap.size->A b\/own b)->P w' A'
inductive Chunk:Type 1 where
 |no
 |rd {α:Type} (R:lL α) (v:al) (l:List α)
 |sr {α:Type} (R:lL α) (v:al) (l:List α)
 |pt (b o:Nat) (cs:List al)
 |blk (b:Nat) (cs:List al)
 |own {α:Type} (R:lL α) (E:ba) (v:al) (l:List α)
 |mp (b:Nat) (jO:List (Int×al))
 |rp {α:Type} (R:lL α) (v:al) (x:α)
 |two (a b:Chunk)
 |eO (S:Pce)
def Chunk.own':Chunk->BS
 | .blk b _=>fun x=>x=b
 | .own _ _ v _=>ob v
 | .mp b _=>fun x=>x=b
 | .two a b=>fun x=>a.own' x\/b.own' x
 | .eO S=>S.own
 |_=>BE
def Chunk.holds(w:ao)(M O:BS):Chunk->Prop
 | .no=>True
 | .rd R v l=>dn R w (fun b=>M b\/O b) v l
 | .sr R v l=>eD R w O (fun b=>M b\/O b) v l
 | .pt b o cs=>¬O b/\∃cells E c,w.heap[b]? =aj (.cells cells E c)/\(cells.toList.drop o).take cs.length=cs
 | .blk b cs=>∃E,w.heap[b]? =aj (.cells cs.toArray E (0,0))
 | .own R E v l=>cO R E w (fun b=>M b\/O b) v l
 | .mp b jO=>Jz w b jO
 | .rp R v x=>R.rd w (fun b=>M b\/O b) [v] x
 | .two a b=>a.holds w M O/\b.holds w M O/\∀x,a.own' x->¬b.own' x
 | .eO S=>S.P w (fun b=>M b\/O b)
theorem Chunk.go{c:Chunk}{w w':ao}{M O k N:BS}(h:c.holds w M O)(g:bL N w w')(hN:∀b,N b->b<w.heap.size->O b)(f:∀b,N b->¬c.own' b)(i:∀b,k b->b<w.heap.size->M b\/O b)(j:∀b,k b->b<w.heap.size->O b):c.holds w' M k:=by
 induction c with
 |no=>trivial
 |rd R v l=>exact dn.go h g (fun b d e=>.inr (hN b d e)) (fun b d e=>d.elim .inl (fun d=>i b d e))
 |sr R v l=>exact eD.go h g hN (fun b d e=>.inr (hN b d e)) j (fun b d e=>d.elim .inl (fun d=>i b d e))
 |pt b o cs=>
  obtain⟨p,cells,E,u,n,t⟩:=h;exact⟨fun h=>p<|j b h<|iW n,cells,E,u,g.blk n fun h=>p<|hN b h<|iW n,t⟩
 |blk b cs=>
  obtain⟨E,h⟩:=h;exact⟨E,g.blk h fun d=>f b d Z⟩
 |own R E v l=>exact cO.go h g (fun b d e=>.inr (hN b d e)) f (fun b d e=>.inl (d.elim .inl (fun d=>i b d e)))
 |rp R v x=>exact R.go h g (fun b d e=>.inr (hN b d e)) (fun b d e=>d.elim .inl (fun d=>i b d e))
 |two a b iha ihb=>exact⟨iha h.1 (fun x m q=>f x m (.inl q)),ihb h.2.1 (fun x m d=>f x m (.inr d)),h.2.2⟩
 |eO S=>exact S.go h g (fun b d e=>.inr (hN b d e)) f (fun b d e=>.inl (d.elim .inl (fun d=>i b d e)))
 |mp b jO=>
  obtain⟨r,c,h,s⟩:=h;exact⟨r,c,g.blk h fun d=>f b d Z,s⟩
theorem Chunk.sub{c:Chunk}{w:ao}{M O d:BS}(h:c.holds w M O)(a:∀b,d b->b<w.heap.size->O b):c.holds w M d:=
 Chunk.go h (bL.refl BE w) (fun _ h=>h.elim) (fun _ h=>h.elim) (fun b e f=>.inr (a b e f)) a
theorem Chunk.lt{c:Chunk}{w:ao}{M O:BS}(h:c.holds w M O):∀b,c.own' b->b<w.heap.size:=by
 intro b d;induction c with
 |no=>exact d.elim
 |rd=>exact d.elim
 |sr=>exact d.elim
 |pt=>exact d.elim
 |blk b' cs=>
  cases d;exact iW h.choose_spec
 |own R E v l=>exact cO.lt h b d
 |rp=>exact d.elim
 |two a c iha ihc=>exact d.elim (fun d=>iha h.1 d) (fun d=>ihc h.2.1 d)
 |eO S=>exact S.lt h d
 |mp b' jO=>
  cases d;obtain⟨_,_,h,_⟩:=h;exact iW h
def bW(hp:Nat->Chunk)(i:Nat)(c:Chunk):Nat->Chunk:=fun j=>bif fu j i then c else hp j
theorem cu(hp:Nat->Chunk)(i:Nat)(c:Chunk):bW hp i c i=c:=by simp[bW,Nat.beq_refl]
theorem ek{hp:Nat->Chunk}{i j:Nat}{c:Chunk}(h:j≠i):bW hp i c j=hp j:=by
 have:fu j i=false:=by rw[ir];intro e;exact h (gi e)
 simp[bW,this]
def hno:Nat->Chunk:=fun _=>.no
def iX(hp:Nat->Chunk):BS:=fun b=>∃j,(hp j).own' b
structure SH(w0:ao)(M K:BS)(w:ao)(hp:Nat->Chunk):Prop where
 keep:bL K w0 w
 ltM:∀b,M b->b<w0.heap.size
 apM:∀i b,(hp i).own' b->¬M b
 ok:∀i,(hp i).holds w M (iX hp)
 apart:∀i j,i≠j->∀b,(hp i).own' b->¬(hp j).own' b
 old:∀i b,(hp i).own' b->b<w0.heap.size->K b
section
variable{w0 w w':ao}{M K:BS}{hp:Nat->Chunk}{i:Nat}{c:Chunk}
def rest(hp:Nat->Chunk)(i:Nat):BS:=fun b=>∃j,j≠i/\(hp j).own' b
theorem lM{hp:Nat->Chunk}{i b:Nat}(h:rest hp i b):iX hp b:=let ⟨j,_,h⟩:=h;⟨j,h⟩
abbrev SH.av(hp:Nat->Chunk)(i:Nat)(c:Chunk):BS:=fun b=>rest hp i b\/c.own' b
theorem SH.step{N:BS}(h:SH w0 M K w hp)(i:Nat)(s:bL N w w')(hN:∀b,N b->b<w.heap.size->(hp i).own' b)
    (ho:∀b,c.own' b->b<w.heap.size->(hp i).own' b) (u:c.holds w' M (SH.av hp i c)):SH w0 M K w' (bW hp i c):=by
  have t:∀b,M b->b<w.heap.size:=fun b a=>cr (h.ltM b a) h.keep.size;have m:∀b,iX (bW hp i c) b->rest hp i b\/c.own' b:=by
    rintro b⟨j,o⟩;by_cases e:j=i
    · subst e;rw[cu]at o;exact .inr o
    · rw[ek e]at o;exact .inl ⟨j,e,o⟩
  have g:∀b,iX (bW hp i c) b->b<w.heap.size->iX hp b:=fun b a f=>(m b a).elim lM fun h=>⟨i,ho b h f⟩;refine⟨?_,h.ltM,?_,?_,?_,?_⟩
  · exact h.keep.step s (fun x q f=>by
      have n:=cr f h.keep.size;exact h.old i x (hN x q n) f)
  · intro j b a;by_cases e:j=i
    · subst e;rw[cu]at a;intro r;exact h.apM j b (ho b a<|t b r) r
    · rw[ek e]at a;exact h.apM j b a
  · intro j;by_cases e:j=i
    · subst e;rw[cu];exact Chunk.sub u fun b a _=>m b a
    · rw[ek e];have f:=h.ok j;refine Chunk.go f (s.weaken (N:=fun b=>N b/\b<w.heap.size) fun b a f=>⟨a,f⟩) ?_ ?_ ?_ ?_
      · intro b a n;exact⟨i,hN b a.1 n⟩
      · intro b a o;exact h.apart j i e b o<|hN b a.1 a.2
      · exact fun b a f=>.inr<|g b a f
      · exact g
  · intro j k l b a d;have lt:∀x,x≠i->(hp x).own' b->b<w.heap.size:=fun x _ q=>Chunk.lt (h.ok x) b q;by_cases e:j=i
    · subst e;have p:k≠j:=fun e=>l e.symm;rw[cu]at a;rw[ek p]at d;exact h.apart j k l b (ho b a<|lt k p d) d
    · rw[ek e]at a;by_cases p:k=i
      · subst p;rw[cu]at d;exact h.apart j k l b a<|ho b d<|lt j e a
      · rw[ek p]at d;exact h.apart j k l b a d
  · intro j b a f;by_cases e:j=i
    · subst e;rw[cu]at a;exact h.old j b (ho b a<|cr f h.keep.size) f
    · rw[ek e]at a;exact h.old j b a f
abbrev SH.A(M:BS)(hp:Nat->Chunk):BS:=fun b=>M b\/iX hp b
theorem SH.lt(h:SH w0 M K w hp):∀b,SH.A M hp b->b<w.heap.size:=by
  rintro b(a|⟨j,a⟩)
  · exact cr (h.ltM b a) h.keep.size
  · exact Chunk.lt (h.ok j) b a
theorem SH.learn(h:SH w0 M K w hp)(i:Nat)(d:Grow w w')(ho:∀b,c.own' b->w.heap.size<=b)(e:c.holds w' M (fun b=>iX hp b\/c.own' b)):SH w0 M K w' (bW hp i c):=
 h.step i d (fun _ h=>h.elim) (fun b a f=>absurd (ho b a) V) (Chunk.sub e (fun b a _=>a.imp lM id))
theorem SH.grow(h:SH w0 M K w hp)(c:Grow w w'):SH w0 M K w' hp:=
 ⟨h.keep.grow c,h.ltM,h.apM,fun i=>Chunk.go (h.ok i) c (fun _ h=>h.elim) (fun _ h=>h.elim) (fun b a _=>.inr a) (fun b a _=>a),h.apart,h.old⟩
theorem SH.know(h:SH w0 M K w hp)(i:Nat)(ho:∀b,¬c.own' b)(d:c.holds w M (iX hp)):SH w0 M K w (bW hp i c):=
 h.learn i (bL.refl BE w) (fun b a=>absurd a (ho b)) (Chunk.sub d (fun b a _=>a.elim id (fun a=>absurd a (ho b))))
theorem SH.freeze{α:Type}{R:lL α}{E:ba}{v:al}{l:List α}(h:SH w0 M K w hp)(i:Nat)(f:hp i=.own R E v l):SH w0 M K w (bW hp i (.rd R v l)):=by
  refine h.step i (bL.refl BE w) (fun _ h=>h.elim) (fun b a=>a.elim) ?_;have e:=h.ok i;rw[f]at e;refine cO.rd e (fun b a c=>?_) fun b a e=>?_
  · have d:(hp i).own' b:=by rw[f];exact a
    rcases c with c|⟨j,hj,c⟩|c
    · exact h.apM i b d c
    · exact h.apart j i hj b c d
    · exact c
  · rcases a with a|a|a
    · exact .inl<|.inl a
    · exact .inl<|.inr<|lM a
    · exact a.elim
def hset:List (Nat×Chunk)->Nat->Chunk
 |[]=>hno
 |(i,c)::r=>bW (hset r) i c
def HoldsC(hp:Nat->Chunk):List (Nat×Chunk)->Prop
 |[]=>True
 |(i,c)::r=>hp i=c/\HoldsC hp r
theorem hset_is{hp:Nat->Chunk}:∀{l:List (Nat×Chunk)},HoldsC hp l->∀j,hset l j=hp j\/hset l j=.no
  |[],_,_=>.inr Z
  |(i,c)::r,h,j=>by
    by_cases e:j=i
    · subst e;left;show bW _ _ _ _=_;rw[cu];exact h.1.symm
    · show bW _ _ _ _=_\/bW _ _ _ _=_;rw[ek e];exact hset_is h.2 j
theorem SH.canon(h:SH w0 M K w hp)(l:List (Nat×Chunk))(k:HoldsC hp l):SH w0 M K w (hset l):=by
  have c:=hset_is k;have own:∀j b,(hset l j).own' b->(hp j).own' b:=by
    intro j b a;rcases c j with e|e
    · rw[e]at a;exact a
    · rw[e]at a;exact a.elim
  refine⟨h.keep,h.ltM,fun i b a=>h.apM i b<|own i b a,fun i=>?_,fun i j f b a d=>h.apart i j f b (own i b a)<|own j b d,fun i b a=>h.old i b<|own i b a⟩;rcases c i with e|e
  · rw[e];exact Chunk.sub (h.ok i) fun b⟨j,g⟩_=>⟨j,own j b g⟩
  · rw[e];trivial
theorem SH.init{w:ao}{M:BS}(a:∀b,M b->b<w.heap.size):SH w M BE w hno:=
 ⟨bL.refl _ _,a,fun _ _ h=>h.elim,fun _=>trivial,fun _ _ _ _ h=>h.elim,fun _ _ h=>h.elim⟩
theorem SH.vO{α:Type}{R:lL α}{E:ba}{v:al}{l:List α}(h:SH w0 M K w hp)(i:Nat)(a:Grow w w')(ho:cO R E w' (SH.A M hp) v l)(c:∀b,ob v b->w.heap.size<=b):SH w0 M K w' (bW hp i (.own R E v l)):=
 h.learn i a c (cO.go ho (bL.refl BE w') (fun _ h=>h.elim) (fun _ h=>h.elim) (fun b d _=>d.elim (fun h=>.inl (.inl h)) (fun h=>h.elim (fun h=>.inl (.inr h)) .inr)))
theorem SH.Au{α:Type}{R:lL α}{v:al}{l:List α}(h:SH w0 M K w hp)(i:Nat)(a:Grow w w')(ho:dn R w' (SH.A M hp) v l):SH w0 M K w' (bW hp i (.rd R v l)):=
 h.learn i a (fun _ h=>h.elim) (dn.go ho (bL.refl BE w') (fun _ h=>h.elim) (fun b c _=>c.elim .inl (fun h=>h.elim .inr (fun h=>h.elim))))
theorem SH.aK{α:Type}{R:lL α}{v:al}{l:List α}(h:SH w0 M K w hp)(i:Nat)(ho:dn R w (SH.A M hp) v l):SH w0 M K w (bW hp i (.rd R v l)):=h.Au i (bL.refl BE w) ho
theorem SH.H8{α:Type}{R:lL α}{v:al}{l:List α}(h:SH w0 M K w hp)(i:Nat)(ho:dn R w M v l)(hn:∀b,¬iX hp b):SH w0 M K w (bW hp i (.rd R v l)):=
 h.aK i (ho.go (bL.refl BE w) (fun _ h=>h.elim) (fun b a _=>a.elim id (fun h=>absurd h (hn b))))
theorem SH.dG{α:Type}{R:lL α}{v:al}{l:List α}(h:SH w0 M K w hp)(i:Nat)(ho:eD R w BE M v l)(hn:∀b,¬iX hp b):SH w0 M K w (bW hp i (.sr R v l)):=
 h.know i (fun _ h=>h) (ho.sub (fun b a _=>absurd a (hn b)) (fun b a _=>a.elim id (fun h=>absurd h (hn b))))
theorem SH.bC{α:Type}{R:lL α}{v:al}{l:List α}(h:SH w0 M K w hp)(i:Nat)(a:hp i=.rd R v l):dn R w (SH.A M hp) v l:=by
 have:=h.ok i;rw[a]at this;exact this
theorem SH.srAt{α:Type}{R:lL α}{v:al}{l:List α}(h:SH w0 M K w hp)(i:Nat)(a:hp i=.sr R v l):eD R w (iX hp) (SH.A M hp) v l:=by
 have:=h.ok i;rw[a]at this;exact this
theorem SH.bH{α:Type}{R:lL α}{E:ba}{v:al}{l:List α}(h:SH w0 M K w hp)(i:Nat)(a:hp i=.own R E v l):cO R E w (SH.A M hp) v l:=by
 have:=h.ok i;rw[a]at this;exact this
theorem SH.Av{b:Nat}{cs:List al}(h:SH w0 M K w hp)(i:Nat)(a:hp i=.blk b cs):∃E,w.heap[b]? =aj (.cells cs.toArray E (0,0)):=by
 have:=h.ok i;rw[a]at this;exact this
theorem SH.ptAt{b o:Nat}{cs:List al}(h:SH w0 M K w hp)(i:Nat)(a:hp i=.pt b o cs):∃cells E c,w.heap[b]? =aj (.cells cells E c)/\(cells.toList.drop o).take cs.length=cs:=by
 have:=h.ok i;rw[a]at this;exact this.2
theorem SH.mpAt{b:Nat}{a:List (Int×al)}(h:SH w0 M K w hp)(i:Nat)(c:hp i=.mp b a):Jz w b a:=by
 have:=h.ok i;rw[c]at this;exact this
theorem SH.grown(h:SH w0 M BE w hp):Grow w0 w:=h.keep
theorem SH.fresh(h:SH w0 M BE w hp)(i:Nat):∀b,(hp i).own' b->w0.heap.size<=b:=fun b a=>sf (fun c=>h.old i b a c)
theorem SH.lI{α:Type}{R:lL α}{v:al}{l:List α}(h:SH w0 M K w hp)(i:Nat)(a:hp i=.rd R v l):eD R w BE (SH.A M hp) v l:=(h.bC i a).src
theorem SH.gp{α:Type}{R:lL α}{v:al}{l:List α}(h:SH w0 M K w hp)(i:Nat)(a:hp i=.sr R v l):eD R w BE (SH.A M hp) v l:=(h.srAt i a).src
theorem cO.src{α:Type}{R:lL α}{E:ba}{w:ao}{A:BS}{v:al}{l:List α}(h:cO R E w A v l):eD R w BE A v l:=by
  obtain⟨xs,c,d⟩:=h;rcases c.2 with⟨rfl,hn⟩|⟨g,cap,cur,rfl,e1,e2,e3,e4,e5,e6⟩
  · have:l=[]:=cm hn;subst this;exact eD.nil
  · refine⟨aj ⟨g,0,aE⟩,cap,Z,e3,e4,(fun h=>by cases h),fun i a=>⟨g,0,cur,E,(0,0),Z,fun h=>h,e2,?_⟩⟩;have:=R.go (A':=A) (d i a) (bL.refl BE w) (fun _ h=>h.elim) fun b e _=>.inl e;rw[<-e6,eh,eb,cP ?_]at this
    · rw[fX];exact this
    · have:(i+1)*R.sz<=l.length*R.sz:=bd _ a;rw[cj]at this;omega
theorem SH.dx{α:Type}{R:lL α}{E:ba}{v:al}{l:List α}(h:SH w0 M K w hp)(i:Nat)(a:hp i=.own R E v l):eD R w BE (SH.A M hp) v l:=(h.bH i a).src
theorem aO:∀b,¬iX hno b:=fun _⟨_,h⟩=>h
theorem w9{α:Type}{R:lL α}{v:al}{l:List α}{i:Nat}(h:∀b,¬iX hp b):∀b,¬iX (bW hp i (.rd R v l)) b:=by
  rintro b⟨j,a⟩;by_cases e:j=i
  · subst e;rw[cu]at a;exact a
  · rw[ek e]at a;exact h b ⟨j,a⟩
theorem aU{α:Type}{R:lL α}{v:al}{l:List α}{i:Nat}(h:∀b,¬iX hp b):∀b,¬iX (bW hp i (.sr R v l)) b:=by
  rintro b⟨j,a⟩;by_cases e:j=i
  · subst e;rw[cu]at a;exact a
  · rw[ek e]at a;exact h b ⟨j,a⟩
end
open Go.RowKit
def gv(c:Bool)(v:al):Value:=(bif c then [v]else []).headD fO
theorem fw{c:Bool}{v:al}(h:c=ar):gv c v=v:=by rw[h];rfl
theorem gl{a b:Bool}(h:(a&&b)=ar):a=true:=by cases a<;>simp_all
theorem gr{a b:Bool}(h:(a&&b)=ar):b=true:=by cases a<;>simp_all
structure kJ(P:ca)(T E:ba)(sz bytes:Nat):Prop where
 desc:P.underlying T=aj (.slice E)
 info:∃i z,P.info? E=aj i/\i.zero=aj z/\i.size=sz/\i.bytes=bytes/\z.cells.size=sz
theorem SA{P:ca}{T:ba}{z:Option al}{s:Nat}(h:(P.info? T).map (fun i=>(i.zero,i.size))=aj (z,s)):∃i,P.info? T=aj i/\i.zero=z/\i.size=s:=by
 cases hi:P.info? T with
 |none=>simp[hi]at h
 |some i=>simp[hi]at h;exact⟨i,Z,h.1,h.2⟩
def wW(w:ao)(b:Nat)(o:Obj):World:={w with heap:=w.heap.setIfInBounds b o}
theorem vP{w:ao}{b:Nat}{o:Obj}(h:b<w.heap.size):(wW w b o).heap[b]? =aj o:=by simp[wW,h]
theorem bL.wW(w:ao)(b:Nat)(o:Obj):bL (fun x=>x=b) w (wW w b o):=
 ⟨rfl,rfl,rfl,by simp[LX.wW],fun k a _=>by
  have:b≠k:=fun e=>a (by simp[e]);show(w.heap.setIfInBounds b o)[k]? =_;rw[Array.getElem?_setIfInBounds_ne this]⟩
theorem setCell_putb{w:ao}{b o:Nat}{cs:Array al}{E:ba}{e:Nat×Nat}{v:al}(d:w.heap[b]? =aj (.cells cs E e)):w.setCell ⟨b,o,aE⟩ v=wW w b (.cells (cs.setIfInBounds o v) E e):=by
  simp only[World.setCell,wW];congr 1;have a:=iW d;apply pH;intro i;simp only[ga,np];by_cases c:b=i
  · subst c;rw[if_pos rfl,if_pos rfl,if_pos a,d];rfl
  · simp[c]
theorem JA{w:ao}{b:Nat}{cs a:Array al}{E:ba}{f:Nat×Nat}(e:w.heap[b]? =aj (.cells cs E f)):w.setRow b a=wW w b (.cells a E f):=by
  simp only[World.setRow,wW];congr 1;have c:=iW e;apply pH;intro i;simp only[ga,np];by_cases d:b=i
  · subst d;rw[if_pos rfl,if_pos rfl,if_pos c,e];rfl
  · simp[d]
def Ma(cs:List al)(o:Nat)(vs:List al):List Value:=cs.take o++vs++cs.drop (o+vs.length)
def At(w:ao)(b o:Nat)(cs:List al):Prop:=∃cells E a,w.heap[b]? =aj (.cells cells E a)/\(cells.toList.drop o).take cs.length=cs
section
variable{P:ca}{ops:Array ef}{Q:fh->Act->ao->Prop}{n:Nat}{env:Nat->al}{w w' w0:ao}{M K:BS}{hp:Nat->Chunk}{rest:List ef}
 {d:Option Nat} {op:Op} {ty:ba} {pos:String} {af:Array hH} {v:al} {g:Option (Nat×Bool)} {T:ba} {ρ:bo->al} {x y:bo}
theorem pX{j dj:Nat}{b a:Bool}(c:Bool)(k:(ops[j]?).bind (·.dst)=aj dj)(i:ev n env (.tmp dj)=gv c (.bool b))
    (r:(c&&(b==a))=ar->(bl (ev n env) ⟨d,op,ty,pos,af,aE⟩).run P w=.ok (.value v) w) (h:WL P ops Q rest n (gG env d (gv (c&&(b==a)) v)) w):
    WL P ops Q (⟨d,op,ty,pos,af,aj (j,a)⟩::rest) n env w:=by
  by_cases g:(c&&(b==a))=ar
  · have q:=gl g;have e:=gr g;rw[fw q]at i;rw[fw g]at h;have o:b=a:=by simpa using e
    subst o;exact Xa k i<|J (r g) h
  · have f:(c&&(b==a))=false:=by simpa using g
    rw[f]at h;cases c with
    |true=>
      refine j3 k i ?_ h;simpa using f
    |false=>
      have l:ev n env (.tmp dj)=undef:=i;have m:ej ops (act n env).tmps j=none:=by
        unfold ej;have e:(act n env).eval (.tmp dj)=undef:=by rw[gX];exact l
        simp only[k,cH];simp only[hS]at e;cases h2:(act n env).tmps[dj]? with
        |none=>rfl
        |some x=>simp[cV,h2]at e;subst e;rfl
      have p:cp ⟨d,op,ty,pos,af,aj (j,a)⟩ (ej ops (act n env).tmps)=false:=by simp[cp,m]
      refine⟨?_⟩;unfold nk;rw[if_neg (by rw[p];decide),E8];exact h.out
theorem aQ{j dj:Nat}{b a:Bool}(e:(ops[j]?).bind (·.dst)=aj dj)(c:ev n env (.tmp dj)=.bool b)
    (f:(b==a)=ar->(bl (ev n env) ⟨d,op,ty,pos,af,aE⟩).run P w=.ok (.value v) w) (h:WL P ops Q rest n (gG env d (gv (b==a) v)) w):
    WL P ops Q (⟨d,op,ty,pos,af,aj (j,a)⟩::rest) n env w:=
  pX ar e c (fun h=>f (by simpa using h)) (by simpa using h)
theorem fQ{c a:bo}{b p:Bool}(h:ρ c=.bool b)(f:ρ a=gv (b==aq) (.bool p))(e:∀v,ρ (.const v)=v):(bl ρ ⟨d,.pick c (.const (.bool ar)) a,ty,pos,af,g⟩).run P w=.ok (.value (.bool (b||p))) w:=by
 cases b<;>simp_all[bl,asBool,gv]
theorem iF{c a:bo}{b p:Bool}(f:ρ c=.bool b)(h:ρ a=gv (b==ar) (.bool p))(e:∀v,ρ (.const v)=v):(bl ρ ⟨d,.pick c a (.const (.bool aq)),ty,pos,af,g⟩).run P w=.ok (.value (.bool (b&&p))) w:=by
 cases b<;>simp_all[bl,asBool,gv]
theorem mM{n:Nat}{env:Nat->al}:∀v,ev n env (.const v)=v:=fun _=>rfl
theorem ig{T:ba}{b:Bool}(a:ρ x=.bool b):(bl ρ ⟨d,.unOp .not T x,ty,pos,af,g⟩).run P w=.ok (.value (.bool !b)) w:=r_not a
theorem r_neqb{T2:ba}{p q:Bool}(a:P.underlying T=aj .bool)(c:ρ x=.bool p)(b:ρ y=.bool q):(bl ρ ⟨d,.binOp .neq T x y T2,ty,pos,af,g⟩).run P w=.ok (.value (.bool (p !=q))) w:=by
 simp[bl,c,b,gj,kq,run_equal_bool w T p q a,bne]
theorem bX{z:al}{b o:Nat}{cs:List al}(h:SH w0 M K w hp)(i:Nat)(e:hp i=.blk b cs)(a:One P T z)(c:ρ x=.pointer (aj ⟨b,o,aE⟩))(j:cs[o]? =aj v):
 (bl ρ ⟨d,.load T x,ty,pos,af,g⟩).run P w=.ok (.value v) w:=let ⟨_,f⟩:=h.Av i e;r_load1 a c f (by simpa using j)
theorem r_loadN{zs vs:List al}{b o:Nat}{cells:Array al}{E:ba}{y:Nat×Nat}(l:vN P T zs)(s:ρ x=.pointer (aj ⟨b,o,aE⟩))(k:w.heap[b]? =aj (.cells cells E y))(u:(cells.toList.drop o).take zs.length=vs)(p:vs.length=zs.length):
    (bl ρ ⟨d,.load T x,ty,pos,af,g⟩).run P w=.ok (.value (.agg vs.toArray)) w:=by
  obtain⟨i,n,hz,t⟩:=SA l.info;obtain⟨r,q,m⟩:=l.desc;have z:∀j v,vs[j]? =aj v->w.cell? ((⟨b,o,aE⟩:ks).add j)=aj v:=by
    intro j v a;have c:j<zs.length:=by
      rcases cD j vs.length with h|h
      · omega
      · rw[bw h]at a;cases a
    rw[<-u,cf,if_pos c,cw]at a;by_cases e:j=0
    · subst e;simpa[gR,eV,k]using a
    · simpa[gR,eV,k,e]using a
  have f:=tb (P:=P) (w:=w) ⟨b,o,aE⟩ vs z;rw[p]at f;cases r<;>simp at m<;>simp[bl,oX,s,hU,qF,isAgg,cA,q,ft,dy,n,t,f]
theorem yt{zs vs:List al}{b o:Nat}{cs:List al}(h:SH w0 M K w hp)(i:Nat)(e:hp i=.blk b cs)(a:vN P T zs)(c:ρ x=.pointer (aj ⟨b,o,aE⟩))(j:(cs.drop o).take zs.length=vs)(k:vs.length=zs.length):
 (bl ρ ⟨d,.load T x,ty,pos,af,g⟩).run P w=.ok (.value (.agg vs.toArray)) w:=let ⟨_,f⟩:=h.Av i e;r_loadN a c f (by simpa using j) k
theorem lu{z:al}{b o k:Nat}{cs:List al}(h:At w b o cs)(f:One P T z)(i:ρ x=.pointer (aj ⟨b,o+k,aE⟩))(a:cs[k]? =aj v):
    (bl ρ ⟨d,.load T x,ty,pos,af,g⟩).run P w=.ok (.value v) w:=by
  obtain⟨cells,E,m,j,l⟩:=h;refine r_load1 f i j ?_;have e:k<cs.length:=by
    rcases cD k cs.length with h1|h1
    · exact h1
    · rw[bw h1]at a;cases a
  have c:((cells.toList.drop o).take cs.length)[k]? =aj v:=by rw[l];exact a
  rw[cf,if_pos e,cw]at c;simpa using c
theorem drop_take_add{α:Type}{l:List α}{o k m s:Nat}{cs:List α}(h:(l.drop o).take s=cs)(a:k+m<=s):(l.drop (o+k)).take m=(cs.drop k).take m:=by
 rw[<-h,eh,eb,lR,cP V]
theorem l8{zs vs:List al}{b o k:Nat}{cs:List al}(h:At w b o cs)(c:vN P T zs)(e:ρ x=.pointer (aj ⟨b,o+k,aE⟩))(i:(cs.drop k).take zs.length=vs)(j:vs.length=zs.length)(a:k+zs.length<=cs.length):
  (bl ρ ⟨d,.load T x,ty,pos,af,g⟩).run P w=.ok (.value (.agg vs.toArray)) w:=by
 obtain⟨cells,E,m,f,l⟩:=h;exact r_loadN c e f (by rw[drop_take_add l a];exact i) j
theorem gD{z:al}{b o k:Nat}{cs:List al}(h:SH w0 M K w hp)(i:Nat)(e:hp i=.pt b o cs)(a:One P T z)(c:ρ x=.pointer (aj ⟨b,o+k,aE⟩))(f:cs[k]? =aj v):
 (bl ρ ⟨d,.load T x,ty,pos,af,g⟩).run P w=.ok (.value v) w:=lu (h.ptAt i e) a c f
theorem Md{zs vs:List al}{b o k:Nat}{cs:List al}(h:SH w0 M K w hp)(i:Nat)(f:hp i=.pt b o cs)(c:vN P T zs)(e:ρ x=.pointer (aj ⟨b,o+k,aE⟩))(j:(cs.drop k).take zs.length=vs)(l:vs.length=zs.length)(a:k+zs.length<=cs.length):
 (bl ρ ⟨d,.load T x,ty,pos,af,g⟩).run P w=.ok (.value (.agg vs.toArray)) w:=l8 (h.ptAt i f) c e j l a
theorem aM{b o k off:Nat}(h:dS P T k off)(j:ρ x=.pointer (aj ⟨b,o,aE⟩)):
  (bl ρ ⟨d,.fieldAddr T x k,ty,pos,af,g⟩).run P w=.ok (.value (.pointer (aj ⟨b,o+off,aE⟩))) w:=by
 obtain⟨q,f,s,m,p,n,c⟩:=h.desc;obtain⟨i,a,l⟩:∃i,P.info? f.type=aj i/\i.size=s+1:=by
  cases a:P.info? f.type with
  |none=>simp[a]at c
  |some i=>simp[a]at c;exact⟨i,Z,c⟩
 by_cases e:off=0<;>simp[bl,Instr.fieldAt,cA,m,p,j,hU,fieldPlace,ft,dy,a,l,n,gR,e]
theorem aR{a:ks}(b:ρ x=.pointer (aj a)):(bl ρ ⟨d,.nilCheck x,ty,pos,af,g⟩).run P w=.ok (.value (.pointer (aj a))) w:=by
 simp[bl,b]
theorem gm{α:Type}{R:lL α}{E:ba}{e:Nat}{B A:BS}{l:List α}{h:ao}(b:SliceOf P T E e)(c:ρ x=v)(f:eD R h B A v l):
  (bl ρ ⟨d,.call {callee:=.builtin .len,args:= #[x],argTypes:= #[T]},ty,pos,af,g⟩).run P w=.ok (.value (.int .i64 l.length)) w:=by
 obtain⟨a,cap,rfl,_⟩:=f;exact qb b c
theorem J6{s:Str}(b:P.underlying T=aj .string)(a:ρ x=bF s):
  (bl ρ ⟨d,.call {callee:=.builtin .len,args:= #[x],argTypes:= #[T]},ty,pos,af,g⟩).run P w=.ok (.value (.int .i64 s.length)) w:=by
 have c:(⟨s.toArray⟩:ByteArray).size=s.length:=by simp[lb]
 simp[bl,gS,jx,iU,sd,a,bF,cA,b,goInt,c]
theorem r_ix{α:Type}{R:lL α}{E:ba}{B A:BS}{l:List α}{k:Int}{a:α}{q:ao}(r:SliceOf P T E R.sz)(K:eD R q B A v l)(p:0<=k)(f:l[k.toNat]? =aj a):
    ∃b o cs,(∀(ρ:bo->al) x y w d ty pos af g,ρ x=v->ρ y=.int .i64 k->(bl ρ ⟨d,.indexAddr T x y,ty,pos,af,g⟩).run P w=.ok (.value (.pointer (aj ⟨b,o,aE⟩))) w)/\¬B b/\At q b o cs/\R.rd q A cs a:=by
  have c:k.toNat<l.length:=by
    rcases cD k.toNat l.length with h|h
    · exact h
    · rw[bw h]at f;cases f
  obtain⟨a',cap,rfl,M,O,N,u⟩:=K;obtain⟨b,o,cells,F,L,rfl,z,t,j⟩:=u k.toNat c;obtain⟨i,e,G⟩:∃i,P.info? E=aj i/\i.size=R.sz:=by
    have:=r.info;cases e:P.info? E with
    |none=>simp[e]at this
    |some i=>simp[e]at this;exact⟨i,Z,this⟩
  have m:l[k.toNat]=a:=by rw[bh c]at f;exact cM f
  rw[m]at j;refine⟨b,o+k.toNat*R.sz,_,?_,z,⟨cells,F,L,t,by rw[R.len j]⟩,j⟩;intro ρ x y w d ty pos af g I C;simp only[bl,sL,I,C,ia,cA,ft,dy];have s:(⟨b,o,aE⟩:ks).add (k.toNat*R.sz)=⟨b,o+k.toNat*R.sz,aE⟩:=by
    unfold gR;split
    · next hz=>rw[hz];rfl
    · rfl
  have n:k<(l.length:Int):=by omega
  simp[r.desc,e,G,p,n,s]
theorem SH.pt(h:SH w0 M K w hp)(i:Nat){b o:Nat}{cs:List al}(a:¬iX hp b)(c:At w b o cs):SH w0 M K w (bW hp i (.pt b o cs)):=
 h.know i (fun _ h=>h) ⟨a,c⟩
theorem allOwn_up{i:Nat}{c:Chunk}(d:∀b,¬c.own' b):∀b,iX (bW hp i c) b->iX hp b:=by
  rintro b⟨j,a⟩;by_cases e:j=i
  · subst e;rw[cu]at a;exact absurd a (d b)
  · rw[ek e]at a;exact⟨j,a⟩
theorem eD.up{α:Type}{R:lL α}{l:List α}{i:Nat}{c:Chunk}(h:dn R w (SH.A M hp) v l)(d:∀b,¬c.own' b:=by exact fun _ h=>h):dn R w (SH.A M (bW hp i c)) v l:=
 h.sub (fun b a _=>a.imp id (allOwn_up d b)) (fun b a _=>a.imp id (allOwn_up d b))
abbrev IxOk(P:ca)(T:ba)(v:al)(k:Int)(p:al):Prop:=∀(ρ:bo->al) x y w d ty pos af g,ρ x=v->ρ y=.int .i64 k->(bl ρ ⟨d,.indexAddr T x y,ty,pos,af,g⟩).run P w=.ok (.value p) w
theorem SH.Me{α:Type}{R:lL α}{E:ba}{d:Nat}{l:List α}{k:Int}{a:α}(h:SH w0 M K w hp)(i j:Nat)(e:hp i=.rd R v l)(p:SliceOf P T E d)(q:R.sz=d)(c:0<=k)(n:l[k.toNat]? =aj a):
  ∃b o cs,SH w0 M K w (bW hp j (.pt b o cs))/\R.rd w (SH.A M hp) cs a/\IxOk P T v k (.pointer (aj ⟨b,o,aE⟩)):=by
 subst q;obtain⟨b,o,cs,f,s,r,m⟩:=r_ix p (h.bC i e) c n;exact⟨b,o,cs,h.pt j (fun g=>s<|.inr g) r,m,f⟩
theorem SH.CE{α:Type}{R:lL α}{E:ba}{d:Nat}{l:List α}{k:Int}{a:α}(h:SH w0 M K w hp)(i j:Nat)(e:hp i=.sr R v l)(n:SliceOf P T E d)(p:R.sz=d)(c:0<=k)(m:l[k.toNat]? =aj a):
  ∃b o cs,SH w0 M K w (bW hp j (.pt b o cs))/\R.rd w (SH.A M hp) cs a/\IxOk P T v k (.pointer (aj ⟨b,o,aE⟩)):=by
 subst p;obtain⟨b,o,cs,f,r,q,g⟩:=r_ix n (h.srAt i e) c m;exact⟨b,o,cs,h.pt j r q,g,f⟩
def Qz(o:Option al)(a:Int)(other:Nat):Prop:=(o=aE/\a=other)\/o=aj (.int .i64 a)
def cut{α:Type}(l:List α)(a b:Int):List α:=(l.take b.toNat).drop a.toNat
theorem Yc{α:Type}{R:lL α}{E:ba}{a b:Int}{B A:BS}{l:List α}{G:ao}(hT:SliceOf P T E R.sz)(hv:eD R G B A v l)(ha:0<=a)(f:a<=b)(hb:b<=l.length):
    ∃u,(∀(ρ:bo->al) x (s h:Option bo) w d ty pos af g,ρ x=v->Qz (s.map ρ) a 0->Qz (h.map ρ) b l.length->(bl ρ ⟨d,.slice T x s h aE,ty,pos,af,g⟩).run P w=.ok (.value u) w)/\eD R G B A u (cut l a b)/\(∀(p:ao) (r q:BS) (k:List α),eD R p r q v k->k.length=l.length->eD R p r q u (cut k a b)):=by
  obtain⟨a,rfl⟩:=bs ha;obtain⟨b,rfl⟩:=bs (by omega:0<=b);have f:a<=b:=by omega
  have hb:b<=l.length:=by omega
  obtain⟨ad,cap,rfl,h1,Q,C,z⟩:=hv;obtain⟨i,L,N⟩:∃i,P.info? E=aj i/\i.size=R.sz:=by
    have:=hT.info;cases h:P.info? E with
    |none=>simp[h]at this
    |some i=>simp[h]at this;exact⟨i,Z,this⟩
  have n:b<=cap:=by omega
  refine⟨.slice (if cap=a then ad else ad.map (·.add (a*R.sz))) (b-a)<|cap-a,fun ρ x s h w d ty pos af g hx K t=>?_,?_⟩
  · have y:(dd ar l.length cap (s.map ρ) (h.map ρ) aE).run P w=.ok (a,b,cap) w:=by
      have h0:(0:Int)<=(a:Int):=hP a;have a3:(0:Int)<=(b:Int):=hP b;have a4:(a:Int)<=(b:Int):=by omega
      have a0:(b:Int)<=(cap:Int):=by omega
      rcases K with⟨m,S⟩|m<;>rcases t with⟨f1,f2⟩|f1
      · obtain rfl:a=0:=by omega
        obtain rfl:b=l.length:=by omega
        simp[dd,m,f1]
      · obtain rfl:a=0:=by omega
        simp[dd,m,f1,eA,ia,n]
      · obtain rfl:b=l.length:=by omega
        simp[dd,m,f1,eA,ia,f]
      · simp[dd,m,f1,eA,ia,f,n]
    simp only[bl,ix,jj,cA,hx];simp[hT.desc,y,ft,dy,L,N]
  suffices c:∀(p:ao) (r q:BS) (k:List α),eD R p r q (.slice ad l.length cap) k->k.length=l.length->eD R p r q (.slice (if cap=a then ad else ad.map (·.add (a*R.sz))) (b-a) (cap-a)) (cut k a b)from⟨c _ _ _ l ⟨ad,cap,Z,h1,Q,C,z⟩ Z,c⟩
  · intro G B A l⟨a2,X,e0,h1,Q,C,z⟩a5;obtain⟨I,a1,M⟩:=Value.slice.inj e0;subst I;subst M;have hb:b<=l.length:=by omega
    have e:(cut l a b).length=b-a:=by simp[cut];omega
    refine⟨_,cap-a,by rw[e],by rw[e];omega,by omega,?_,?_⟩
    · intro hn;split at hn
      · omega
      · cases ad with
        |none=>have:=C Z;omega
        |some x=>simp at hn
    · intro j O;rw[e]at O;obtain⟨bb,o,cells,F,fz,m,S,e3,e4⟩:=z (a+j) V;subst m;refine⟨bb,o+a*R.sz,cells,F,fz,?_,S,e3,?_⟩
      · rw[if_neg V];simp only[db,eI];unfold gR;split
        · next hz=>rw[hz];rfl
        · rfl
      · have:(cut l a b)[j]'(by rw[e];exact O)=l[a+j]'V:=by simp[cut]
        rw[this];rw[show o+a*R.sz+j*R.sz=o+(a+j)*R.sz by rw[cj,jz]];exact e4
theorem r_sl{α:Type}{R:lL α}{E:ba}{a b:Int}{B A:BS}{l:List α}{h:ao}(m:SliceOf P T E R.sz)(n:eD R h B A v l)(i:0<=a)(c:a<=b)(j:b<=l.length):
  ∃u,(∀(ρ:bo->al) x (f e:Option bo) w d ty pos af g,ρ x=v->Qz (f.map ρ) a 0->Qz (e.map ρ) b l.length->(bl ρ ⟨d,.slice T x f e aE,ty,pos,af,g⟩).run P w=.ok (.value u) w)/\eD R h B A u (cut l a b):=
 let ⟨u,k,o,_⟩:=Yc m n i c j;⟨u,k,o⟩
abbrev SlOk(P:ca)(T:ba)(v:al)(a b:Int)(n:Nat)(u:al):Prop:=∀(ρ:bo->al) x (e c:Option bo) w d ty pos af g,ρ x=v->Qz (e.map ρ) a 0->Qz (c.map ρ) b n->(bl ρ ⟨d,.slice T x e c aE,ty,pos,af,g⟩).run P w=.ok (.value u) w
theorem SH.slR{α:Type}{R:lL α}{E:ba}{d:Nat}{a b:Int}{l:List α}(h:SH w0 M K w hp)(i j:Nat)(f:hp i=.rd R v l)(m:SliceOf P T E d)(n:R.sz=d)(e:0<=a)(c:a<=b)(g:b<=l.length):
  ∃u,SH w0 M K w (bW hp j (.rd R u (cut l a b)))/\SlOk P T v a b l.length u:=by
 subst n;obtain⟨u,k,o⟩:=r_sl m (h.bC i f) e c g;exact⟨u,h.aK j o,k⟩
theorem SH.slS{α:Type}{R:lL α}{E:ba}{d:Nat}{a b:Int}{l:List α}(h:SH w0 M K w hp)(i j:Nat)(f:hp i=.sr R v l)(m:SliceOf P T E d)(n:R.sz=d)(e:0<=a)(c:a<=b)(g:b<=l.length):
  ∃u,SH w0 M K w (bW hp j (.sr R u (cut l a b)))/\SlOk P T v a b l.length u:=by
 subst n;obtain⟨u,k,o⟩:=r_sl m (h.srAt i f) e c g;exact⟨u,h.know j (fun _ h=>h) o,k⟩
theorem r_allocN{zs:List al}(a:vN P T zs):(bl ρ ⟨d,.alloc T,ty,pos,af,g⟩).run P w=.ok (.value (.pointer (aj ⟨w.heap.size,0,aE⟩))) (w.alloc (.cells zs.toArray T)):=by
 obtain⟨i,b,hz,c⟩:=SA a.info;simp[bl,Instr.alloc,jF,dy,b,hz,newVar,qS,pe,ke,-hX]
theorem r_alloc1{z:al}(a:One P T z):(bl ρ ⟨d,.alloc T,ty,pos,af,g⟩).run P w=.ok (.value (.pointer (aj ⟨w.heap.size,0,aE⟩))) (w.alloc (.cells #[z] T)):=by
 obtain⟨i,b,hz,c⟩:=SA a.info;simp[bl,Instr.alloc,jF,dy,b,hz,newVar,qS,a.cell,ke,-hX]
theorem r_box(a:ρ x=v):(bl ρ ⟨d,.box T x,ty,pos,af,g⟩).run P w=.ok (.value (.pointer (aj ⟨w.heap.size,0,aE⟩))) (w.alloc (.cells v.cells T)):=by
 simp[bl,Instr.box,newVar,qS,a,ke,-hX]
theorem SH.newB(h:SH w0 M K w hp)(i:Nat)(cs:List al)(T:ba):SH w0 M K (w.alloc (.cells cs.toArray T)) (bW hp i (.blk w.heap.size cs)):=
 h.learn i (Grow.alloc _ _) (fun b a=>lA a.symm) ⟨T,Py _ _⟩
theorem aY{zs:List al}(h:SH w0 M K w hp)(i:Nat)(a:vN P T zs)(k:∀w' b,SH w0 M K w' (bW hp i (.blk b zs))->WL P ops Q rest n (gG env d (.pointer (aj ⟨b,0,aE⟩))) w'):WL P ops Q (⟨d,.alloc T,ty,pos,af,aE⟩::rest) n env w:=
 J (r_allocN a) (k _ _ (h.newB i zs T))
theorem yO{z:al}(h:SH w0 M K w hp)(i:Nat)(a:One P T z)(k:∀w' b,SH w0 M K w' (bW hp i (.blk b [z]))->WL P ops Q rest n (gG env d (.pointer (aj ⟨b,0,aE⟩))) w'):WL P ops Q (⟨d,.alloc T,ty,pos,af,aE⟩::rest) n env w:=
 J (r_alloc1 a) (k _ _ (h.newB i [z] T))
theorem iP{cs:List al}(h:SH w0 M K w hp)(i:Nat)(c:ev n env x=v)(a:v.cells=cs.toArray)(k:∀w' b,SH w0 M K w' (bW hp i (.blk b cs))->WL P ops Q rest n (gG env d (.pointer (aj ⟨b,0,aE⟩))) w'):WL P ops Q (⟨d,.box T x,ty,pos,af,aE⟩::rest) n env w:=
 J (by rw[r_box c,a]) (k _ _ (h.newB i cs T))
theorem SB{z:al}{b o:Nat}{cs:Array al}{E:ba}(h:One P T z)(k:ρ x=.pointer (aj ⟨b,o,aE⟩))(c:w.heap[b]? =aj (.cells cs E (0,0)))(ho:o<cs.size)(f:ρ y=v)(e:v.oneCell'=ar):
  (bl ρ ⟨d,.store T x y,ty,pos,af,g⟩).run P w=.ok .skip (wW w b (.cells (cs.setIfInBounds o v) E (0,0))):=by
 obtain⟨i,m,hz,l⟩:=SA h.info;have n:w.cell? ⟨b,o,aE⟩=aj cs[o]:=by simp[eV,c,ho]
 have j:w.frozen? ⟨b,o,aE⟩=false:=by simp[oe,c]
 have a:v.cells= #[v]:=by cases v<;>first|rfl|simp[fb]at e
 rw[<-setCell_putb c];simp only[bl,sR,k,f,hU,storeVar,a,ft,dy];simp[m,l,storeCells,run_store _ _ _ _ _ e,n,j,gR]
theorem SC{zs vs:List al}{b o:Nat}{cs:List al}{E:ba}(e:vN P T zs)(f:ρ x=.pointer (aj ⟨b,o,aE⟩))(a:w.heap[b]? =aj (.cells cs.toArray E (0,0)))(c:ρ y=.agg vs.toArray)(l:vs.length=zs.length)(ho:o+vs.length<=cs.length)(k:∀v∈vs,v.oneCell'=ar):
  (bl ρ ⟨d,.store T x y,ty,pos,af,g⟩).run P w=.ok .skip (wW w b (.cells (Ma cs o vs).toArray E (0,0))):=by
 obtain⟨i,j,hz,h⟩:=SA e.info;have:=nz (P:=P) b o E vs 0 cs.toArray w a (by simpa using ho) k;simp only[bl,sR,f,c,hU,storeVar,pe,ft,dy];simp[j,h,l,this,JA a,Ma]
theorem SH.putB{b:Nat}{cs:List al}(h:SH w0 M K w hp)(i:Nat)(d:hp i=.blk b cs)(a:List al)(E:ba):SH w0 M K (wW w b (.cells a.toArray E (0,0))) (bW hp i (.blk b a)):=by
 have e:=h.Av i d;obtain⟨f,e⟩:=e;exact h.step i (bL.wW _ _ _) (fun x c _=>by rw[d];exact c) (fun x c _=>by rw[d];exact c) ⟨E,vP (iW e)⟩
theorem gH{z:al}{b o:Nat}{cs:List al}(h:SH w0 M K w hp)(i:Nat)(a:List al)(c:hp i=.blk b cs)(g:One P T z)(j:ev n env x=.pointer (aj ⟨b,o,aE⟩))(f:ev n env y=v)(ho:cs.set o v=a)(e:nc o cs.length=ar)(m:v.oneCell'=ar)
  (k:∀w',SH w0 M K w' (bW hp i (.blk b a))->WL P ops Q rest n (gG env d fO) w'):
  WL P ops Q (⟨d,.store T x y,ty,pos,af,aE⟩::rest) n env w:=by
 obtain⟨E,l⟩:=h.Av i c;refine Bg (SB g j l (by rw[lz]at e;simpa using e) f m) (k _ ?_);have:=h.putB i c a E;subst ho;simpa using this
theorem w_stN{zs vs:List al}{b o:Nat}{cs:List al}(h:SH w0 M K w hp)(i:Nat)(a:List al)(e:hp i=.blk b cs)(l:vN P T zs)(m:ev n env x=.pointer (aj ⟨b,o,aE⟩))(j:ev n env y=.agg vs.toArray)(g:vs.length=zs.length)(ho:Ma cs o vs=a)(f:ld (o+vs.length) cs.length=ar)(p:∀v∈vs,v.oneCell'=ar)
  (k:∀w',SH w0 M K w' (bW hp i (.blk b a))->WL P ops Q rest n (gG env d fO) w'):
  WL P ops Q (⟨d,.store T x y,ty,pos,af,aE⟩::rest) n env w:=by
 obtain⟨E,c⟩:=h.Av i e;subst ho;exact Bg (SC l m c j g (gn f) p)<|k _<|h.putB i e _ E
def SE(P:ca)(f:fS):Prop:=∃a,P.funcs[f]? =aj a/\(a.name== "runtime.NumGoroutine")=aq/\a.body.isNone=aq
theorem r_call{f:fS}{first captured:Array al}{xs:Array bo}{j:Array ba}(h:SE P f)(i:ρ x=.func (.func f) first captured):
  (bl ρ ⟨d,.call {callee:=.value x,args:=xs,argTypes:=j},ty,pos,af,g⟩).run P w=.ok (.enter f (first++xs.map ρ++captured)) w:=by
 obtain⟨c,k,m,l⟩:=h;have a:¬c.name= "runtime.NumGoroutine" :=by simpa using m
 have b:¬c.body=none:=fun e=>by simp[e]at l
 simp[bl,gS,i,Deferred.ofValue,jx,callFunc,k,a,b]
theorem cz{f:fS}{first captured:Array al}{xs:Array bo}{g:Array ba}{args:List al}{R:mg->ao->Prop}(a:SE P f)(b:ev n env x=.func (.func f) first captured)
  (c:first.toList++xs.toList.map (ev n env)++captured.toList=args) (i:bD P f args.toArray w R)
  (h:∀e w',R e w'->∃v,e=.returned v/\WL P ops Q rest n (gG env d v) w'):
  WL P ops Q (⟨d,.call {callee:=.value x,args:=xs,argTypes:=g},ty,pos,af,aE⟩::rest) n env w:=by
 refine wl_enter (r_call a b) ?_ h;have:first++xs.map (ev n env)++captured=args.toArray:=by
  rw[<-c];apply lf;simp
 rw[this];exact i
theorem dU{i:Nat}{vs:List al}(b:ρ x=.tuple vs.toArray)(a:vs[i]? =aj v):(bl ρ ⟨d,.extract x i,ty,pos,af,g⟩).run P w=.ok (.value v) w:=by
 simp[bl,Instr.extract,b,a]
theorem rO{f:fS}{first captured:Array bo}{c1 c2:List al}(a:first.toList.map ρ=c1)(e:captured.toList.map ρ=c2):
  (bl ρ ⟨d,.makeFunc (.func f) first captured,ty,pos,af,g⟩).run P w=.ok (.value (.func (.func f) c1.toArray c2.toArray)) w:=by
 have b:first.map ρ=c1.toArray:=by rw[<-a];apply lf;simp
 have c:captured.map ρ=c2.toArray:=by rw[<-e];apply lf;simp
 simp[bl,Instr.makeFunc,b,c]
theorem calls_start{f:fS}{a:sg}{c:Code}{args:List al}{R:mg->ao->Prop}{n:Nat}
  (b:P.funcs[f]? =aj a) (d:a.body=aj c) (hn:a.ntmps=n) (e:args.length<=n)
  (h:WC P c (jn P a R) n (UI args) w):bD P f args.toArray w R:=by
 refine calls_of_wp b d ?_;rw[hn,act_init n args e];exact h.out
theorem bg{a:sg}{R:mg->ao->Prop}{t:Tmp}(c:a.results= #[.tmp t])(b:ev n env (.tmp t)=v)(h:R (.returned v) w):jn P a R .ret (act n env) w:=by
 refine⟨Z,v,?_,h⟩;rw[results_tmp c];have:=congrFun (gX n env)<|.tmp t;rw[b]at this;exact congrArg (fun v=>qm v w) this
theorem fin0{a:sg}{R:mg->ao->Prop}(b:a.results= #[])(h:R (.returned (.tuple #[])) w):jn P a R .ret (act n env) w:=⟨rfl,_,results_none b _ _ _,h⟩
theorem SF{a:sg}{R:mg->ao->Prop}(b:a.results= #[])(h:R (.returned (.tuple #[])) w):jn P a R .normal (act n env) w:=⟨rfl,_,results_none b _ _ _,h⟩
theorem vQ{c:sg}{R:mg->ao->Prop}{t u:Tmp}{v1 v2:al}(f:c.results= #[.tmp t,.tmp u])(d:ev n env (.tmp t)=v1)(e:ev n env (.tmp u)=v2)(h:R (.returned (.tuple #[v1,v2])) w):jn P c R .ret (act n env) w:=by
 refine⟨Z,_,?_,h⟩;rw[results_tmp2 f];have a:=congrFun (gX n env)<|.tmp t;have b:=congrFun (gX n env)<|.tmp u;rw[d]at a;rw[e]at b;simp only[hS]at a b;rw[a,b]
end
section
variable{α β σ ρ:Type}{r:ρ}{G:Prop}
theorem jX{b:Bool}{X a:ρ}(c:cond b X a=r)(d:b=ar->X=r->G)(e:b=aq->a=r->G):G:=by
  cases b
  · exact e Z c
  · exact d Z c
theorem az{o:Option α}{f:α->Option β}{r:β}(h:o.bind f=aj r):∃x,o=aj x/\f x=aj r:=by
 cases o with
 |none=>cases h
 |some x=>exact⟨x,rfl,h⟩
def iK(p:Prop) [Decidable p](x:Option β):Option β:=if p then x else aE
theorem bG{p:Prop} [Decidable p]{x:Option β}{r:β}(h:iK p x=aj r):p/\x=aj r:=by
  unfold iK at h;by_cases hp:p
  · rw[if_pos hp]at h;exact⟨hp,h⟩
  · rw[if_neg hp]at h;cases h
def idx(l:List α)(k:Int):Option α:=if 0<=k then l[k.toNat]? else aE
theorem aF{l:List α}{k:Int}{x:α}(h:idx l k=aj x):0<=k/\l[k.toNat]? =aj x:=by
  unfold idx at h;by_cases hp:0<=k
  · rw[if_pos hp]at h;exact⟨hp,h⟩
  · rw[if_neg hp]at h;cases h
def sub?(l:List α)(a b:Int):Option (List α):=if 0<=a/\a<=b/\b<=l.length then aj (cut l a b)else aE
theorem KE{l:List α}{a b:Int}{x:List α}(h:sub? l a b=aj x):x=cut l a b/\0<=a/\a<=b/\b<=l.length:=by
  unfold sub? at h;by_cases hp:0<=a/\a<=b/\b<=l.length
  · rw[if_pos hp]at h;cases h;exact⟨Z,hp⟩
  · rw[if_neg hp]at h;cases h
def kN(x:Int):Prop:= -9223372036854775808<=x/\x<=9223372036854775807
def i64b:Int->Bool
 | .ofNat n=>ld n 9223372036854775807
 | .negSucc n=>ld n 9223372036854775807
theorem i64b_iff{x:Int}:i64b x=ar↔kN x:=by
 unfold kN;cases x with
 |ofNat n=>simp[i64b,Nat.ble_eq];omega
 |negSucc n=>simp[i64b,Nat.ble_eq];omega
instance (x:Int):Decidable (kN x):=decidable_of_iff (i64b x=ar) i64b_iff
theorem kN.mk{x:Int}(b: -9223372036854775808<=x)(a:x<=9223372036854775807):kN x:=⟨b,a⟩
def each(body:α->σ->(σ->ρ)->ρ)(k:σ->ρ):List α->σ->ρ
 |[],s=>k s
 |x::r,s=>body x s (each body k r)
def ic(body:Int->α->σ->(σ->ρ)->ρ)(k:σ->ρ):Int->List α->σ->ρ
 |_,[],s=>k s
 |i,x::r,s=>body i x s (ic body k (i+1) r)
def upto(body:Int->σ->(σ->ρ)->ρ)(k:σ->ρ):Int->Nat->σ->ρ
 |_,0,s=>k s
 |i,m+1,s=>body i s (upto body k (i+1) m)
def again(body:σ->(σ->Option β)->Option β):Nat->σ->Option β
 |0,_=>aE
 |n+1,s=>body s (again body n)
end
section
variable{P:ca}{Q:fh->Act->ao->Prop}{n:Nat}{env:Nat->al}{w:ao}{x y:Code}
theorem aD{ρ:Type}{r X a:ρ}{c:bo}{b:Bool}(d:cond b X a=r)(g:ev n env c=.bool b)(e:b=ar->X=r->WC P x Q n env w)(f:b=aq->a=r->WC P y Q n env w):
 WC P (oT c x y) Q n env w:=eQ g (fun h=>e h (by rw[h]at d;exact d)) (fun h=>f h (by rw[h]at d;exact d))
def JP{σ:Type}(n:Nat)(mod:Nat->Bool)(UI:Nat->al)(live:σ->List (Nat×al))(J:σ->ao->Prop):Act->ao->Prop:=
 fun a' w'=>∃s e,a'=act n e/\Jr mod e UI/\Holds e (live s)/\J s w'
def JL{σ:Type}(n:Nat)(mod:Nat->Bool)(UI:Nat->al)(live:σ->List (Nat×al))(J:σ->ao->Prop)(a:σ->Nat)(b:σ):Act->ao->Prop:=
 fun a' w'=>∃s e,a'=act n e/\Jr mod e UI/\Holds e (live s)/\J s w'/\a s<a b
theorem fq{σ:Type}{c:Code}(mod:Nat->Bool)(live:σ->List (Nat×al))(J:σ->ao->Prop)(e:σ->Nat)(b:σ)
 (h:Holds env (live b)) (f:J b w)
 (a:∀s d g,J s d->WC P c (Exit.then (JL n mod env live J e s) Q) n (upds (hav mod g env) (live s)) d):
 WC P (rr c) Q n env w:=wc_loop mod live J e b h f a
theorem bU{σ:Type}(mod:Nat->Bool)(live:σ->List (Nat×al))(J:σ->ao->Prop)
  (d:∀s w f,J s w->WC P y Q n (upds (hav mod f env) (live s)) w)
  (h:WC P x (Exit.then (JP n mod env live J) Q) n env w):WC P (Code.seq x y) Q n env w:=by
 refine aA ⟨wp_mono h.out fun i a w h=>?_⟩;cases i with
 |normal=>
  obtain⟨s,e,rfl,g,b,c⟩:=h;have:=d s w e c;rw[hav_self g,UJ _ b]at this;exact this.out
 |_=>exact h
end
section
variable{K:Act->ao->Prop}{Q:fh->Act->ao->Prop}{a:Act}{w:ao}{i j:Nat}
theorem ag(h:K a w):Exit.then K Q .normal a w:=h
theorem ai(h:Q .ret a w):Exit.then K Q .ret a w:=h
theorem bY(h:Q (.exit i) a w):Exit.then K Q (.exit i) a w:=h
theorem ak(h:Q .normal a w):hZ i Q .normal a w:=h
theorem aC(h:Q .ret a w):hZ i Q .ret a w:=h
theorem eT(h:Q .normal a w):hZ i Q (.exit i) a w:=by simp only[hZ,if_true];exact h
theorem H9(hn:¬j=i)(h:Q (.exit j) a w):hZ i Q (.exit j) a w:=by simp only[hZ,if_neg hn];exact h
end
theorem Jr.os{mod:Nat->Bool}{e a:Nat->al}{d:Nat}{v:al}(b:mod d=ar)(h:Jr mod e a):Jr mod (gG e (aj d) v) a:=Jr.upd b h
theorem Jr.on{mod:Nat->Bool}{e a:Nat->al}{v:al}(h:Jr mod e a):Jr mod (gG e aE v) a:=h
theorem Jr.uc{mod:Nat->Bool}{e a:Nat->al}{d:Nat}{v:al}{l:List (Nat×al)}(b:mod d=ar)(h:Jr mod (upds e l) a):Jr mod (upds e ((d,v)::l)) a:=Jr.upd b h
theorem Jr.un{mod:Nat->Bool}{e a:Nat->al}(h:Jr mod e a):Jr mod (upds e []) a:=h
def inl(l:List Nat)(i:Nat):Bool:=match l with|[]=>aq|a::r=>bif fu i a then ar else inl r i
def subl(l m:List Nat):Bool:=match l with|[]=>ar|a::r=>bif inl m a then subl r m else aq
theorem subl_inl{m:List Nat}:∀{l:List Nat},subl l m=ar->∀i,inl l i=ar->inl m i=ar
 |[],_,i,h=>by simp[inl]at h
 |a::r,hs,i,h=>by
  unfold subl at hs;unfold inl at h;cases ha:inl m a with
  |false=>simp[ha]at hs
  |true=>
   simp only[ha,cond_true]at hs;cases hb:fu i a with
   |true=>have:=gi hb;subst this;exact ha
   |false=>simp only[hb,cond_false]at h;exact subl_inl hs i h
theorem Jr.hin{l m:List Nat}{j e a:Nat->al}(c:subl l m=ar)(h:Jr (inl m) e a):Jr (inl m) (LX.hav (inl l) j e) a:=fun i b=>by
 have:inl l i=false:=by
  cases hc:inl l i with
  |false=>rfl
  |true=>rw[subl_inl c i hc]at b;cases b
 simp only[LX.hav,this,cond_false];exact h i b
open Go.RowKit
theorem eD.row{α:Type}{R:lL α}{w:ao}{B A:BS}{v:al}{l:List α}(h:eD R w B A v l):
    (v=.slice aE 0 0/\l=[])\/∃(a:ks) (cap:Nat) (news:List al),v=.slice (aj a) l.length cap/\news.length=l.length*R.sz/\(∀j u,news[j]? =aj u->w.cell? (a.add j)=aj u)/\(∀u∈news,u.oneCell'=ar)/\
      ∀i (h:i<l.length),R.rd w A ((news.drop (i*R.sz)).take R.sz) l[i]:=by
  obtain⟨a,cap,rfl,K,O,C,x⟩:=h;cases a with
  |none=>
    have F:=C Z;subst F;have p:l=[]:=cm V;subst p;exact .inl ⟨Z,Z⟩
  |some a=>
    right;by_cases p:l.length=0
    · have:l=[]:=cm p;subst this;exact⟨a,cap,[],Z,by simp,fun j u h=>by simp at h,fun u h=>by simp at h,fun i h=>absurd h<|eM _⟩
    · obtain⟨b,o,cells,E,G,r,N,t,I⟩:=x 0 V;cases r;have f:∀i (d:i<l.length),R.rd w A ((cells.toList.drop<|o+i*R.sz).take R.sz) l[i]:=by
        intro i d;obtain⟨b',P,n,M,z,r,_,k,q⟩:=x i d;cases r;rw[t]at k;cases k;exact q
      have c:=R.len<|f (l.length-1) V;simp only[cd,cI,ct]at c;have g:=R.pos;have s:o+l.length*R.sz<=cells.size:=by
        have L:l.length*R.sz=(l.length-1)*R.sz+R.sz:=by
          conv=>lhs;rw[show l.length=(l.length-1)+1 by omega]
          rw[cj,nr]
        omega
      refine⟨⟨b,o,aE⟩,cap,(cells.toList.drop o).take<|l.length*R.sz,Z,?_,?_,?_,?_⟩
      · simp only[cd,cI,ct];omega
      · intro j u e;rw[cf]at e;split at e
        · rw[cw]at e;have y:(⟨b,o,aE⟩:ks).add j=⟨b,o+j,aE⟩:=by unfold gR;split<;>simp_all
          rw[y];simpa[eV,t]using e
        · cases e
      · intro u e;obtain⟨j,m⟩:=List.getElem?_of_mem e;rw[cf]at m;split at m
        · next hlt=>
          rw[cw]at m;have d:j / R.sz<l.length:=pL (by rw[nd];exact hlt);refine R.one (f (j / R.sz) d) u ?_;refine List.mem_of_getElem? (i:=j%R.sz) ?_;rw[cf,if_pos (mN _ g),cw];rw[show o+j / R.sz*R.sz+j%R.sz=o+j by rw[jz,Nat.div_add_mod' j R.sz]];exact m
        · cases m
      · intro i d;rw[eh,eb,lR,cP]
        · exact f i d
        · have:(i+1)*R.sz<=l.length*R.sz:=bd _ d;rw[cj]at this;omega
theorem fill_fold(c:List al):∀(cells:Array al) (o:Nat),o+c.length<=cells.size->
  (c.zipIdx.foldl (fun cs(p:al×Nat)=>cs.setIfInBounds (o+p.2) p.1) cells).toList=Ma cells.toList o c:=by
 suffices a:∀(k:Nat) (cells:Array al) (o:Nat),o+k+c.length<=cells.size->
   ((c.zipIdx k).foldl (fun cs(p:al×Nat)=>cs.setIfInBounds (o+p.2) p.1) cells).toList=Ma cells.toList (o+k) c by
  intro cells o h;have:=a 0 cells o (by simpa using h);simpa using this
 induction c with
 |nil=>intro k cells o h;simp[Ma]
 |cons x r ih=>
  intro k cells o h;simp only[bq]at h;rw[rv,List.foldl_cons,ih (k+1) _ o (by simp;omega)];simp only[jI,Ma];rw[show o+(k+1)=o+k+1 by omega];apply dk;intro i;simp only[cg,gw,cd,cq,ct,cf,ff,cw,bq,List.getElem?_cons]
  grind
theorem Yd{a:Nat}(hz:0<a):∀(vs:List al) (k:Nat) (cells:Array al),(∀v∈vs,v.cells.size=a)->(k+vs.length)*a<=cells.size->
    ∃out,jJ (fun i=>aj (i*a,a)) cells ((vs.zipIdx k).map fun p=>(p.2,p.1))=aj out/\out.toList=Ma cells.toList (k*a) (vs.map fun v=>v.cells.toList).flatten
  |[],k,cells,_,_=>⟨cells,rfl,by simp[Ma]⟩
  |v::r,k,cells,hv,hs=>by
    have g:v.cells.size=a:=hv v zq3;simp only[bq]at hs;have f:(k+1+r.length)*a<=cells.size:=by rw[show k+1+r.length=k+(r.length+1) by omega];exact hs
    have j:k*a+a<=cells.size:=by
      have:(k+1)*a<=(k+1+r.length)*a:=bd _ V;rw[cj,nr]at this;omega
    have l:=fill_fold v.cells.toList cells (k*a) (by rw[ct,g];exact j);let c2:=v.cells.zipIdx.foldl (fun cs(p:al×Nat)=>cs.setIfInBounds (k*a+p.2) p.1) cells;have b:c2.toList=Ma cells.toList (k*a) v.cells.toList:=by
      rw[<-l];show(v.cells.zipIdx.foldl _ cells).toList=_;rw[<-pN,py]
    have e:c2.size=cells.size:=by
      have:=congrArg fa b;simp only[Ma,bc,cd,cI,ct]at this;omega
    obtain⟨out,d,h⟩:=Yd hz r (k+1) c2 (fun x m=>hv x (by simp[m])) (by rw[e];exact f);refine⟨out,?_,?_⟩
    · rw[rv,ck];unfold jJ;simp only[g,ne_eq,not_true_eq_false,decide_false,Bool.false_or];rw[if_neg (by simp;omega)];exact d
    · rw[h,b];simp only[ck,kl,Ma];rw[show(k+1)*a=k*a+a by rw[cj,nr]];have n:v.cells.toList.length=a:=by rw[ct,g]
      generalize v.cells.toList=c at*;generalize (r.map fun v=>v.cells.toList).flatten=q;apply dk;intro i;simp only[cg,gw,cd,ct,bc,cf,cw,cI]
      grind
def KF{α:Type}(R:lL α)(w:ao)(A:BS):List al->List α->Prop
 |[],[]=>True
 |v::vs,x::xs=>R.rd w A v.cells.toList x/\KF R w A vs xs
 |_,_=>False
theorem KF.len{α:Type}{R:lL α}{w:ao}{A:BS}:∀{vs:List al} {xs:List α},KF R w A vs xs->vs.length=xs.length
 |[],[],_=>rfl
 |v::vs,x::xs,h=>by simp[KF.len h.2]
 |[],_::_,h=>h.elim
 |_::_,[],h=>h.elim
theorem KF.sizes{α:Type}{R:lL α}{w:ao}{A:BS}:∀{vs:List al} {xs:List α},KF R w A vs xs->∀v∈vs,v.cells.size=R.sz
  |[],[],_=>by simp
  |v::vs,x::xs,h=>by
    intro u a;rcases bn.1 a with rfl|a
    · have:=R.len h.1;simpa using this
    · exact KF.sizes h.2 u a
  |[],_::_,h=>h.elim
  |_::_,[],h=>h.elim
theorem flat_len{a:Nat}:∀{vs:List al},(∀v∈vs,v.cells.size=a)->(vs.map fun v=>v.cells.toList).flatten.length=vs.length*a
 |[],_=>by simp
 |v::r,h=>by
  have c:=h v zq3;have d:=flat_len fun u b=>h u<|bk _ b;simp only[ck,kl,bc,d,ct,c,bq,cj];omega
theorem KF.at{α:Type}{R:lL α}{w:ao}{A:BS}:∀{vs:List al} {xs:List α},KF R w A vs xs->∀i (h:i<xs.length),R.rd w A (((vs.map fun v=>v.cells.toList).flatten.drop (i*R.sz)).take R.sz) xs[i]
 |[],[],_,i,h=>absurd h (eM _)
 |v::vs,x::xs,h,i,hi=>by
  have a:v.cells.toList.length=R.sz:=R.len h.1;cases i with
  |zero=>
   simp only[ck,kl,pf,kf,List.getElem_cons_zero];rw[cX V,ie V];exact h.1
  |succ i=>
   have:=KF.at h.2 i (by simpa using hi);simp only[ck,kl,List.getElem_cons_succ];rw[iy,cC (by rw[a,cj];omega),cQ,a,show(i+1)*R.sz-R.sz=i*R.sz by rw[cj];omega];exact this
 |[],_::_,h,_,_=>h.elim
 |_::_,[],h,_,_=>h.elim
structure Struct(P:ca)(T:ba)(zs:List al)(pl:List (Nat×Nat)):Prop where
  zero:(P.info? T).map (·.zero)=aj (aj (.agg zs.toArray))
  desc:∃fs,P.underlying T=aj (.struct fs)/\fs.toList.map (fun f=>(f.offset,(P.info? f.type).map (·.size)))=pl.map (fun p=>(p.1,aj p.2))
def FillOk(pl:List (Nat×Nat))(cs:List al):List (Nat×al)->List al->Prop
 |[],out=>cs=out
 |(i,v)::r,out=>∃off a vs,pl[i]? =aj (off,a)/\v.cells.toList=vs/\vs.length=a/\off+a<=cs.length/\FillOk pl (Ma cs off vs) r out
theorem fill_ok{pl:List (Nat×Nat)}:∀{a:List (Nat×al)} {cs out:List al},FillOk pl cs a out->jJ (fun i=>pl[i]?) cs.toArray a=aj out.toArray
 |[],cs,out,h=>by cases h;rfl
 |(i,v)::r,cs,out,h=>by
  obtain⟨off,b,vs,k,f,e,j,l⟩:=h;unfold jJ;simp only[k];have c:v.cells.size=b:=by rw[<-e,<-f,ct]
  rw[if_neg (by simp[c];omega)];have g:=fill_fold vs cs.toArray off (by rw[e];simpa using j);have:(v.cells.zipIdx.foldl (fun cs(p:al×Nat)=>cs.setIfInBounds (off+p.2) p.1) cs.toArray)=(Ma cs off vs).toArray:=by
   apply lf;rw[<-pN,py,f];exact g
  have d:=fill_ok l;rw[<-this]at d;exact d
section
variable{P:ca}{ops:Array ef}{Q:fh->Act->ao->Prop}{n:Nat}{env:Nat->al}{w w' w0:ao}{M K:BS}{hp:Nat->Chunk}{rest:List ef}
 {d:Option Nat} {op:Op} {ty:ba} {pos:String} {af:Array hH} {v:al} {g:Option (Nat×Bool)} {T:ba} {ρ:bo->al} {x y:bo}
theorem Bh(h:w.grownBy w' v.ownBlock):bL (ob v) w w':=
 ⟨h.os,h.tape,h.output,h.size,fun b a c=>h.block b c (fun e=>a (ob_row.2 e.symm))⟩
theorem QA{E:ba}{k b:Nat}{a:Option ks}{l c:Nat}(e:kJ P T E k b)(h:ρ x=.slice a l c)(m:l<=c)(f:ρ y=.slice aE 0 0):
  (bl ρ ⟨d,.call {callee:=.builtin .append,args:= #[x,y],argTypes:= #[T,T]},ty,pos,af,g⟩).run P w=.ok (.value (.slice a l c)) w:=by
 obtain⟨i,z,j,hz,n,_,_⟩:=e.info;cases a<;>simp[bl,gS,jx,iU,h,f,gA,cA,e.desc,ft,dy,j,nA,m,mj,storeCells]
theorem run_app{α:Type}{R:lL α}{E:ba}{sz f:Nat}{A:BS}{u:al}{l m:List α}(q:kJ P T E sz f)(p:R.sz=sz)(hx:ρ x=v)(hv:cO R E w A v l)(S:ρ y=u)(hu:eD R w BE A u m)
    (hA:∀b,ob v b->A b) (a:(l.length+m.length)*f<=140737488355328) (hm:l.length+m.length<=9223372036854775807):
    ∃o w',(bl ρ ⟨d,.call {callee:=.builtin .append,args:= #[x,y],argTypes:= #[T,T]},ty,pos,af,g⟩).run P w=.ok (.value o) w'/\cO R E w' A o (l++m)/\bL (ob v) w w'/\(∀b,ob o b->b<w.heap.size->ob v b):=by
  subst p;have a0:=hv;obtain⟨xs,B,h3⟩:=hv;rcases hu.row with⟨rfl,rfl⟩|⟨ad,c,news,rfl,n1,n2,n3,n4⟩
  · have hw:(bl ρ ⟨d,.call {callee:=.builtin .append,args:= #[x,y],argTypes:= #[T,T]},ty,pos,af,g⟩).run P w=.ok (.value v) w:=by
      rcases B.2 with⟨rfl,hn⟩|⟨gg,cap,cur,rfl,_,_,hc,_⟩
      · exact QA q hx (bt _) S
      · exact QA q hx hc S
    exact⟨v,w,hw,by simpa using a0,bL.refl _ _,fun _ a _=>a⟩
  · obtain⟨i,z,F,hz,p,r,O⟩:=q.info;obtain⟨o,w',k,K,hg,_⟩:=run_append_own (P:=P) w 0 T ty E i z R.sz f q.desc F hz p r O R.pos v l.length xs B ad m.length c news n1 n2 n3 (by unfold kt;omega) a (fv _);have hk:=Bh hg;have n:∀b,ob o b->b<w.heap.size->ob v b:=by
      rcases B.2 with⟨rfl,hn⟩|⟨gg,cap,cur,rfl,_,hgg,hc,hcm,hcs,htake⟩
      · by_cases N:m.length=0
        · have s:news=[]:=cm (by rw[n1,N];simp);subst s;have e:(gA #[T,T] ty #[.slice aE 0 0,.slice (aj ad) m.length c]).run P w=.ok (.slice aE 0 0) w:=by
            simp[gA,cA,q.desc,ft,dy,F,nA,N,mj,loadCells,loadCellsFrom]
          rw[e]at k;cases k;exact fun b a _=>a
        · have e:=run_append_nil (P:=P) w T ty E i z q.desc F hz ad m.length c news (by rw[p];exact n1) n2 V V (by rw[r];have:=a;rw[cj]at this;omega);rw[e]at k;cases k;intro b a G;simp[ob]at a;omega
      · by_cases h:l.length+m.length<=cap
        · have L:l.length*i.size+news.length<=cur.size:=by rw[n1,p,hcs,<-cj];exact bd _ h
          have e:=run_append_room (P:=P) w T ty E i q.desc F gg l.length cap cur hgg ad m.length c news (by rw[p];exact n1) n2 n3 h L;rw[e]at k;cases k;exact fun b a _=>a
        · have holds:∀j u,xs[j]? =aj u->w.cell? ((⟨gg,0,aE⟩:ks).add j)=aj u:=B.cells (g:=gg) Z;have e:=run_append_grow (P:=P) w T ty E i z q.desc F hz ⟨gg,0,aE⟩ l.length cap xs (by rw[p];exact B.1) holds ad m.length c news (by rw[p];exact n1) n2 V V (growslice_fits V (by rw[r];exact a));rw[e]at k;cases k;intro b a G;simp[ob]at a;omega
    have M:(bl ρ ⟨d,.call {callee:=.builtin .append,args:= #[x,y],argTypes:= #[T,T]},ty,pos,af,g⟩).run P w=.ok (.value o) w':=by
      simp only[bl,gS,jx,iU,cv,da,bp,fL,ck,ep,hx,S,k]
    refine⟨o,w',M,⟨xs++news,by rw[bc];exact K,?_⟩,hk,n⟩;intro i X;have I:=B.1;have C:∀b,A b\/ob o b->b<w.heap.size->A b\/ob v b:=fun b a G=>a.imp id fun a=>n b a G;by_cases t:i<l.length
    · have Q:=R.go (h3 i t) hk (fun b a _=>.inr a) C;have a1:(i+1)*R.sz<=l.length*R.sz:=bd _ t;rw[cj]at a1;rw[eN t,fR V,cX (by rw[cI];omega)];exact Q
    · rw[bc]at X;have Q:=R.go (n4 (i-l.length) V) hk (fun b a _=>hA b a) fun b a G=>(C b a G).elim id<|hA b;rw[fi V,iy,cC (by rw[I];exact bd _ V),cQ,I,<-ns];exact Q
theorem SH.AJ{α:Type}{R:lL α}{E:ba}(h:SH w0 M K w hp)(i:Nat):SH w0 M K w (bW hp i (.own R E (.slice aE 0 0) ([]:List α))):=
 h.learn i (bL.refl BE w) (fun _ h=>h.elim) cO.nil
theorem lN{α:Type}{R:lL α}{E:ba}{j c:Nat}{u:al}{l m:List α}(h:SH w0 M K w hp)(i:Nat)(f:hp i=.own R E v l)(o:eD R w BE (SH.A M hp) u m)(t:kJ P T E j c)(z:R.sz=j)(B:ev n env x=v)(s:ev n env y=u)
    (a:(l.length+m.length)*c<=140737488355328) (p:l.length+m.length<=9223372036854775807)
    (k:∀w' e,SH w0 M K w' (bW hp i (.own R E e (l++m)))->WL P ops Q rest n (gG env d e) w'):
    WL P ops Q (⟨d,.call {callee:=.builtin .append,args:= #[x,y],argTypes:= #[T,T]},ty,pos,af,aE⟩::rest) n env w:=by
  obtain⟨e,w',C,G,F,q⟩:=run_app (d:=d) (ty:=ty) (pos:=pos) (af:=af) (g:=aE) t z B (h.bH i f) s o (fun b a=>.inr ⟨i,by rw[f];exact a⟩) a p;refine J C (k w' e (h.step i F (fun b a _=>by rw[f];exact a) (fun b a r=>by rw[f];exact q b a r) ?_));refine cO.go G (bL.refl BE w') (fun _ h=>h.elim) (fun _ h=>h.elim) fun b a _=>?_;rcases a with a|a|a
  · exact .inl<|.inl a
  · exact .inl<|.inr<|lM a
  · exact .inr a
theorem run_bs{α:Type}{R:lL α}{E:ba}{F o:Nat}{A:BS}{a:Array (Nat×bo)}{len:Nat}{vs:List al}{xs:List α}(M:kJ P T E F o)(hs:R.sz=F)
    (hx:(a.toList.map fun p=>(p.1,ev n env p.2))=vs.zipIdx.map fun p=>(p.2,p.1)) (t:vs.length=len) (I:KF R w A vs xs) (hA:∀b,A b->b<w.heap.size) (a0:len*F<=16777216):
    ∃u w',(bl (ev n env) ⟨d,.buildSlice T len a,ty,pos,af,g⟩).run P w=.ok (.value u) w'/\Grow w w'/\cO R E w' A u xs/\∀b,ob u b->w.heap.size=b:=by
  subst hs;subst t;obtain⟨i,z,O,hz,B,S,Q⟩:=M.info;have e:=I.sizes;have m:=I.len;let zero:Array Value:=if vs.length*R.sz=0 then #[]else z.cells
  let c:Array Value:=(lP (vs.length*R.sz)).map (zero[· %zero.size]!);have f:c.size=vs.length*R.sz:=by simp[c]
  obtain⟨out,y,N⟩:=Yd R.pos vs 0 c e (by rw[f];simp);have j:=flat_len e;have s:out.toList=(vs.map fun v=>v.cells.toList).flatten:=by
    rw[N,pf];simp only[Ma,List.take_zero,cQ,fX];rw[cC (by rw[ct,f,j];omega),List.append_nil]
  have k:out.size=vs.length*R.sz:=by rw[<-ct,s,j]
  have r:(a.map fun p=>(p.1,ev n env p.2)).toList=vs.zipIdx.map fun p=>(p.2,p.1):=by simpa using hx
  have C:(bl (ev n env) ⟨d,.buildSlice T vs.length a,ty,pos,af,g⟩).run P w=.ok (.value<|.slice (aj ⟨w.heap.size,0,aE⟩) vs.length vs.length) (w.alloc<|.cells out E):=by
    simp only[bl,Instr.buildSlice,cA,ft,dy];have G:¬(vs.length*R.sz>2 ^ 24):=by omega
    by_cases q:vs.length*R.sz=0
    · simp only[cv,fy,bp,M.desc,da,O,B,pP,q,if_true];have:out= #[]:=Array.eq_empty_of_size_eq_zero (by rw[k,q]);have L:jJ (fun i=>aj (i*R.sz,R.sz)) ((lP 0).map fun x=>(#[]:Array al)[x%(#[]:Array al).size]!) (a.map fun p=>(p.1,ev n env p.2)).toList=aj out:=by
        rw[r];have:c=(lP 0).map (fun x=>(#[]:Array al)[x%(#[]:Array al).size]!):=by simp[c,q]
        rw[<-this];exact y
      rw[L];simp[qS,ke,-hX]
    · simp only[cv,fy,bp,M.desc,da,O,B,pP,if_neg G,q,if_false,jF,dy,hz];have L:jJ (fun i=>aj (i*R.sz,R.sz)) ((lP<|vs.length*R.sz).map fun x=>z.cells[x%z.cells.size]!) (a.map fun p=>(p.1,ev n env p.2)).toList=aj out:=by
        rw[r];have:c=(lP<|vs.length*R.sz).map (fun x=>z.cells[x%z.cells.size]!):=by simp[c,zero,q]
        rw[<-this];exact y
      rw[L];simp[qS,ke,-hX]
  refine⟨_,_,C,Grow.alloc _ _,⟨out.toList,⟨by rw[ct,k,m],.inr ⟨w.heap.size,vs.length,out,by rw[m],fv _,Py _ _,by omega,?_,k,?_⟩⟩,?_⟩,?_⟩
  · unfold kt;have:vs.length<=vs.length*R.sz:=lj _ R.pos;omega
  · rw[ie];rw[ct,k,m];exact bt _
  · intro i K;have X:=R.go (A':=fun b=>A b\/ob (.slice (aj ⟨w.heap.size,0,aE⟩) vs.length vs.length) b) (I.at i K) (Grow.alloc w (.cells out E)) (fun _ h=>h.elim) (fun b l hl=>by
      rcases l with l|l
      · exact l
      · simp[ob]at l;omega)
    rw[s];exact X
  · intro b l;simp[ob]at l;exact l.symm
theorem qG{α:Type}{R:lL α}{E:ba}{f c:Nat}{a:Array (Nat×bo)}{len:Nat}{vs:List al}{xs:List α}(h:SH w0 M K w hp)(i:Nat)(o:kJ P T E f c)(q:R.sz=f)
  (r:(a.toList.map fun p=>(p.1,ev n env p.2))=vs.zipIdx.map fun p=>(p.2,p.1)) (e:vs.length=len) (m:KF R w (SH.A M hp) vs xs) (j:ld (len*f) 16777216=ar)
  (k:∀w' u,SH w0 M K w' (bW hp i (.own R E u xs))->WL P ops Q rest n (gG env d u) w'):
  WL P ops Q (⟨d,.buildSlice T len a,ty,pos,af,aE⟩::rest) n env w:=by
 obtain⟨u,w',s,x,t,l⟩:=run_bs (d:=d) (ty:=ty) (pos:=pos) (af:=af) (g:=aE) o q r e m h.lt<|gn j;exact J s<|k w' u<|h.vO i x t fun b v=>lA<|l b v
theorem run_places{P:ca}{w:ao}:∀(a:List Field) (pl:List (Nat×Nat)),a.map (fun f=>(f.offset,(P.info? f.type).map (·.size)))=pl.map (fun p=>(p.1,aj p.2))->
    (a.mapM (m:=Sem) fun f=>do pure (f.offset,<-ft f.type)).run P w=.ok pl w
  |[],[],_=>rfl
  |[],_::_,h=>by simp at h
  |_::_,[],h=>by simp at h
  |f::a,p::pl,h=>by
    simp only[ck,List.cons.injEq,iq]at h;obtain⟨⟨g,c⟩,j⟩:=h;have d:=run_places (w:=w) a pl j;obtain⟨i,b,e⟩:∃i,P.info? f.type=aj i/\i.size=p.2:=by
      cases b:P.info? f.type with
      |none=>simp[b]at c
      |some i=>simp[b]at c;exact⟨i,Z,c⟩
    rw[mu];simp only[cv,ft,dy,fy,bp,b,da,e,g];simp only[ft,dy]at d;rw[d];simp
theorem oU{zs out:List al}{pl:List (Nat×Nat)}{a:Array (Nat×bo)}{pv:List (Nat×al)}(o:Struct P T zs pl)(hp:(a.toList.map fun p=>(p.1,ρ p.2))=pv)(r:FillOk pl zs pv out):
  (bl ρ ⟨d,.build T a,ty,pos,af,g⟩).run P w=.ok (.value (.agg out.toArray)) w:=by
 obtain⟨n,j,k⟩:=o.desc;obtain⟨i,c,hz⟩:∃i,P.info? T=aj i/\i.zero=aj (.agg zs.toArray):=by
  have:=o.zero;cases c:P.info? T with
  |none=>simp[c]at this
  |some i=>simp[c]at this;exact⟨i,Z,this⟩
 have q:=run_places (w:=w) n.toList pl k;have h:(n.mapM (m:=Sem) fun f=>do pure (f.offset,<-ft f.type)).run P w=.ok pl.toArray w:=by
  rw[Array.mapM_eq_mapM_toList];simp only[Sem.run_map,q,bp]
 have l:(a.map fun p=>(p.1,ρ p.2)).toList=pv:=by rw[<-hp];simp
 have b:=fill_ok r;simp only[bl,Instr.build,jF,dy,cA];simp only[cv,fy,bp,c,da,hz,j,h,l,pe];have e:(fun(x:Nat)=>pl.toArray[x]?)=fun(i:Nat)=>pl[i]? :=by funext x;simp
 rw[e,b];simp
def isNil:al->Bool| .slice aE _ _=>ar|_=>aq
theorem E9{α:Type}{R:lL α}{T2 E:ba}{e:Nat}{B A:BS}{l:List α}{k:ao}(h:SliceOf P T E e)(i:ρ x=v)(j:eD R k B A v l)(f:ρ y=.slice aE 0 0):(bl ρ ⟨d,.binOp .eql T x y T2,ty,pos,af,g⟩).run P w=.ok (.value (.bool (isNil v))) w:=by
 obtain⟨a,cap,rfl,m,p,o,n⟩:=j;have b:∀a l c,(oB Op.maxDepth T (.slice a l c)<|.slice aE 0 0).run P w=.ok a.isNone w:=by
  intro a l c;show(oB (9999+1) T (.slice a l c)<|.slice aE 0 0).run P w=_;unfold oB;simp only[cv,cA,fy,bp,h.desc,da];cases a<;>simp
 cases a<;>simp[bl,i,f,gj,kq,isNil,Op.equal,b]
theorem pY{α:Type}{R:lL α}{B A:BS}{l:List α}(c:eD R w B A v l)(h:isNil v=ar):v=.slice aE 0 0/\l=[]:=by
 obtain⟨a,cap,rfl,f,g,d,e⟩:=c;cases a with
 |none=>
  have:=d Z;subst this;have b:l.length=0:=by omega
  exact⟨by rw[b],cm b⟩
 |some a=>simp[isNil]at h
theorem SH.xe{α:Type}{R:lL α}{E:ba}{l:List α}{k:Int}{a:α}{b:Nat}(h:SH w0 M K w hp)(i:Nat)(j:hp i=.own R E v l)(m:ob v b)(f:l[k.toNat]? =aj a):
    ∃cs,At w b (k.toNat*R.sz) cs/\R.rd w (SH.A M hp) cs a:=by
  have c:k.toNat<l.length:=by
    rcases cD k.toNat l.length with h|h
    · exact h
    · rw[bw h]at f;cases f
  have g:l[k.toNat]=a:=by rw[bh c]at f;exact cM f
  obtain⟨a',cap,rfl,s,u,t,q⟩:=h.dx i j;obtain⟨b',o,cells,F,r,rfl,_,n,d⟩:=q k.toNat c;have:b=b':=m;subst this;have ho:o=0:=by
    obtain⟨xs,p,_⟩:=h.bH i j;rcases p.2 with⟨e,_⟩|⟨_,_,_,e,_⟩
    · cases e
    · cases e;rfl
  subst ho;rw[g]at d;rw[fX]at d;exact⟨_,⟨cells,F,r,n,by rw[R.len d]⟩,d⟩
theorem SH.uw{α:Type}{R:lL α}{E:ba}{e:Nat}{l:List α}{k:Int}{a:α}(h:SH w0 M K w hp)(i:Nat)(c:hp i=.own R E v l)(o:SliceOf P T E e)(f:R.sz=e)(m:0<=k)(n:l[k.toNat]? =aj a):
    ∃b,ob v b/\IxOk P T v k (.pointer (aj ⟨b,k.toNat*e,aE⟩)):=by
  subst f;have t:k.toNat<l.length:=by
    rcases cD k.toNat l.length with h|h
    · exact h
    · rw[bw h]at n;cases n
  obtain⟨xs,q,_⟩:=h.bH i c;rcases q.2 with⟨rfl,hn⟩|⟨g',cap,cur,rfl,_⟩
  · omega
  refine⟨g',Z,fun ρ x y w d ty pos af g s r=>?_⟩;obtain⟨i,c,f⟩:∃i,P.info? E=aj i/\i.size=R.sz:=by
    have:=o.info;cases c:P.info? E with
    |none=>simp[c]at this
    |some i=>simp[c]at this;exact⟨i,Z,this⟩
  simp only[bl,sL,s,r,ia,cA,ft,dy];have p:(⟨g',0,aE⟩:ks).add (k.toNat*R.sz)=⟨g',k.toNat*R.sz,aE⟩:=by
    unfold gR;split
    · next hz=>rw[hz]
    · simp
  have j:k<(l.length:Int):=by omega
  simp[o.desc,c,f,m,j,p]
theorem SH.cutO{α:Type}{R:lL α}{E:ba}{Q:Nat}{l:List α}{b:Int}(h:SH w0 M K w hp)(i:Nat)(C:hp i=.own R E v l)(q:SliceOf P T E Q)(hs:R.sz=Q)(m:0<=b)(O:b<=l.length):
    ∃u,SH w0 M K w (bW hp i (.own R E u (l.take b.toNat)))/\SlOk P T v 0 b l.length u:=by
  subst hs;have n:b.toNat<=l.length:=by omega
  have d:(l.take b.toNat).length=b.toNat:=by rw[cd];omega
  obtain⟨xs,L,q2⟩:=h.bH i C;obtain⟨u,G,hr⟩:=r_sl (P:=P) (T:=T) q (h.dx i C) (Int.le_refl 0) m O;have hv:∃cap,v=.slice aE 0 0\/∃g,v=.slice (aj ⟨g,0,aE⟩) l.length cap:=by
    rcases L.2 with⟨rfl,_⟩|⟨g',cap,cur,rfl,_⟩
    · exact⟨0,.inl Z⟩
    · exact⟨cap,.inr ⟨g',Z⟩⟩
  have e:=G (fun o=>match o with| .tmp 0=>v| .const v=>v|_=>fO) (.tmp 0) aE (aj<|.const<|.int .i64 b) w aE 0 "" #[] aE Z (.inl ⟨Z,Z⟩) (.inr Z);rcases L.2 with⟨rfl,hn⟩|⟨g',cap,cur,rfl,e1,e2,e3,e4,e5,e6⟩
  · have I:l=[]:=cm hn;subst I;obtain⟨a,cap,rfl,h1,h2,h3,h4⟩:=hr;have B:b=0:=by simp at O;omega
    subst B;have:a=aE/\cap=0:=by
      obtain⟨p,k⟩:∃p,P.info? E=aj p:=by
        have:=q.info;cases r:P.info? E with
        |none=>simp[r]at this
        |some i=>exact⟨i,rfl⟩
      simp[bl,ix,jj,cA,q.desc,dd,eA,ia,ft,dy,k,cut]at e;exact⟨e.1.symm,e.2.symm⟩
    obtain⟨rfl,rfl⟩:=this;refine⟨_,?_,G⟩;have:=h.step (c:=.own R E (.slice aE 0 0) ([]:List α)) i (bL.refl BE w) (fun _ h=>h.elim) (fun _ h=>h.elim) cO.nil;simpa[cut]using this
  · have A:u=.slice (aj ⟨g',0,aE⟩) b.toNat cap:=by
      obtain⟨p,k,t⟩:∃p,P.info? E=aj p/\p.size=R.sz:=by
        have:=q.info;cases r:P.info? E with
        |none=>simp[r]at this
        |some i=>simp[r]at this;exact⟨i,Z,this⟩
      obtain⟨s,rfl⟩:=bs m;have F:s<=cap:=by simp at n;omega
      have y:(⟨g',0,aE⟩:ks).add 0=⟨g',0,aE⟩:=rfl;have X:(0:Int)<=(s:Int):=hP s;have a0:(s:Int)<=(cap:Int):=by omega
      by_cases z:cap=0
      · subst z;have m:s=0:=by omega
        subst m;simp[bl,ix,jj,cA,q.desc,dd,eA,ia,ft,dy,k,t]at e;simpa using e.symm
      · simp[bl,ix,jj,cA,q.desc,dd,eA,ia,ft,dy,k,t,F,z,y]at e;simpa using e.symm
    subst A;refine⟨_,h.step (c:=.own R E (.slice (aj ⟨g',0,aE⟩) b.toNat cap) (l.take b.toNat)) i (bL.refl BE w) (fun _ h=>h.elim) (fun x f _=>by rw[C];exact f) ⟨xs.take (b.toNat*R.sz),⟨?_,.inr ⟨g',cap,cur,by rw[d],e1,e2,?_,e4,e5,?_⟩⟩,?_⟩,G⟩
    · rw[d,cd,L.1,cP (bd _ n)]
    · rw[d];omega
    · rw[d,<-e6,eb,cP (bd _ n)]
    · intro j S;rw[d]at S;have N:j<l.length:=by omega
      have r:=R.go (A':=fun x=>(M x\/SH.av hp i (.own R E (.slice (aj ⟨g',0,aE⟩) b.toNat cap) (l.take b.toNat)) x)\/ob (.slice (aj ⟨g',0,aE⟩) b.toNat cap) x) (q2 j N) (bL.refl BE w) (fun _ h=>h.elim) (fun x f _=>by
        rcases f with(f|f|f)|f
        · exact .inl<|.inl f
        · exact .inl<|.inr<|lM f
        · exact .inr f
        · exact .inr f)
      rw[km];rw[eh,eb,cP]
      · exact r
      · have:(j+1)*R.sz<=b.toNat*R.sz:=bd _ S;rw[cj]at this;omega
theorem QB{α:Type}{l:List α}{i o s off:Nat}{x:α}(ho:o=i+off):((l.set o x).drop i).take s=((l.drop i).take s).set off x:=by
 subst ho;rw[tc,if_neg V,Nat.add_sub_cancel_left,mx]
theorem NZ{α:Type}{l:List α}{i o s:Nat}{x:α}(h:o<i\/i+s<=o):((l.set o x).drop i).take s=(l.drop i).take s:=by
  rw[tc];split
  · rfl
  · rw[mx,List.set_eq_of_length_le];rw[cd];omega
theorem KG{α:Type}{R:lL α}{E:ba}{C:Nat}{l:List α}{k:Int}{a a':α}{b off:Nat}{z u:al}(h:SH w0 M K w hp)(i:Nat)(r:hp i=.own R E u l)(I:ob u b)(hs:R.sz=C)(s:l[k.toNat]? =aj a)(hT:One P T z)(c:ev n env x=.pointer (aj ⟨b,k.toNat*C+off,aE⟩))
    (hy:ev n env y=v) (h1:v.oneCell'=ar) (o:nc off C=ar) (hset:∀cs,R.rd w (SH.A M hp) cs a->R.rd w (SH.A M hp) (cs.set off v) a')
    (kk:∀w',SH w0 M K w' (bW hp i (.own R E u (l.set k.toNat a')))->WL P ops Q rest n (gG env d fO) w'):
    WL P ops Q (⟨d,.store T x y,ty,pos,af,aE⟩::rest) n env w:=by
  subst hs;rw[lz]at o;have f:k.toNat<l.length:=by
    rcases cD k.toNat l.length with h|h
    · exact h
    · rw[bw h]at s;cases s
  have B:l[k.toNat]=a:=by rw[bh f]at s;exact cM s
  generalize k.toNat=k at*;have e:∀b,ob u b->SH.A M hp b:=fun b I=>.inr ⟨i,by rw[r];exact I⟩;obtain⟨xs,S,X⟩:=h.bH i r;rcases S.2 with⟨rfl,hn⟩|⟨g',cap,cur,rfl,e1,e2,e3,e4,e5,e6⟩
  · omega
  have F:b=g':=I;subst F;have L:(k+1)*R.sz<=l.length*R.sz:=bd _ f;have a0:l.length*R.sz<=cap*R.sz:=bd _ e3;rw[cj]at L;have N:k*R.sz+off<cur.size:=by omega
  have q:=bL.wW w b<|.cells (cur.setIfInBounds (k*R.sz+off) v) E (0,0);refine Bg (SB hT c e2 N hy h1) (kk _ (h.step i q (fun x c _=>by rw[r];exact c) (fun x c _=>by rw[r];exact c) ⟨xs.set (k*R.sz+off) v,⟨?_,.inr ⟨b,cap,cur.setIfInBounds (k*R.sz+off) v,?_,e1,?_,?_,e4,?_,?_⟩⟩,?_⟩))
  · rw[cq,cq];exact S.1
  · rw[cq]
  · rw[vP (iW e2)]
  · rw[cq];exact e3
  · simpa using e5
  · rw[cq,jI,mx,e6]
  · intro g G;have t:g<l.length:=by rwa[cq]at G
    have m:=fun cs a(h:R.rd w (SH.A M hp) cs a)=>R.go (A':=fun x=>(M x\/(SH.av hp i (.own R E (.slice (aj ⟨b,0,aE⟩) l.length cap) (l.set k a'))) x)\/ob (.slice (aj ⟨b,0,aE⟩) l.length cap) x) h q (fun x c _=>e x c) (fun x c _=>by
      rcases c with(c|c|c)|c
      · exact .inl c
      · exact .inr<|lM c
      · exact e x c
      · exact e x c)
    have O:=fun j(hj:j<l.length)=>R.go (A':=SH.A M hp) (X j hj) (bL.refl BE w) (fun _ h=>h.elim) fun x c _=>.inl c;by_cases p:g=k
    · subst p;rw[lX,QB rfl];exact m _ _<|hset _<|B▸O g f
    · rw[mz (Ne.symm p),NZ]
      · exact m _ _<|O g t
      · rcases cD k g with h5|h5
        · left;have:(k+1)*R.sz<=g*R.sz:=bd _ h5;rw[cj]at this;omega
        · right;have:(g+1)*R.sz<=k*R.sz:=bd _ V;rw[cj]at this;omega
structure WK(P:ca)(ops:Array ef)(w:ao)(Q:Act->Prop)(l:List ef)(n:Nat)(env:Nat->al):Prop where
 out:pc P ops (fun x=>x=w) Q l (act n env)
end
section
variable{P:ca}{ops:Array ef}
theorem vR{w:ao}{Q:Act->Prop}:∀{l:List ef} {a:Act},pc P ops (fun x=>x=w) Q l a->wpStill P ops w Q l a
  |[],_,h=>h
  |o::rest,a,h=>by
    unfold pc at h;unfold wpStill;split
    · rename_i c;rw[if_pos c]at h;obtain⟨v,g,d⟩:=h;have b:=g w Z;unfold Oper.quietAt at b;unfold Oper.still;generalize (bl a.eval o).run P w=r at b⊢;cases r with
      |ok n w'=>
        cases n<;>simp only[sT]at b<;>simp only[Oper.stillUpon];case value u=>exact⟨b.1,by rw[b.2];exact vR d⟩
        case skip=>exact⟨b.1,by rw[<-b.2];exact vR d⟩
        case enter f args=>exact⟨b.1,v,b.2.mono (fun e i h=>h),vR d⟩
      |halt x w'=>simp only[sT]at b
    · rename_i c;rw[if_neg c]at h;exact vR h
end
section
variable{P:ca}{ops:Array ef}{Q:fh->Act->ao->Prop}{n:Nat}{env:Nat->al}{w w' w0:ao}{M K:BS}{hp:Nat->Chunk}{rest:List ef}
 {d:Option Nat} {op:Op} {ty:ba} {pos:String} {af:Array hH} {v:al} {g:Option (Nat×Bool)} {T:ba} {ρ:bo->al} {x y:bo}
variable{Q1:Act->Prop}
theorem aG(c:(bl (ev n env) ⟨d,op,ty,pos,af,aE⟩).run P w=.ok (.value v) w)(h:WK P ops w Q1 rest n (gG env d v)):WK P ops w Q1 (⟨d,op,ty,pos,af,aE⟩::rest) n env:=by
  refine⟨?_⟩;unfold pc;have a:cp ⟨d,op,ty,pos,af,aE⟩ (ej ops (act n env).tmps)=true:=rfl;rw[if_pos a];refine⟨v,fun w' b=>?_,?_⟩
  · subst b;unfold Oper.quietAt;rw[gX,c];exact⟨Z,Z⟩
  · rw[E8];exact h.out
theorem gq{j dj:Nat}{b:Bool}(c:(ops[j]?).bind (·.dst)=aj dj)(g:ev n env (.tmp dj)=.bool b)(h:WK P ops w Q1 (⟨d,op,ty,pos,af,aE⟩::rest) n env):WK P ops w Q1 (⟨d,op,ty,pos,af,aj (j,b)⟩::rest) n env:=by
  have f:=Eo (ops:=ops) c g;have e:cp ⟨d,op,ty,pos,af,aj (j,b)⟩ (ej ops (act n env).tmps)=true:=by simp[cp,f]
  have a:cp ⟨d,op,ty,pos,af,aE⟩ (ej ops (act n env).tmps)=true:=rfl;obtain⟨h⟩:=h;refine⟨?_⟩;unfold pc at h⊢;rw[if_pos a]at h;rw[if_pos e];exact h
theorem wk_skip(a:cp ⟨d,op,ty,pos,af,g⟩ (ej ops (act n env).tmps)=aq)(h:WK P ops w Q1 rest n (gG env d fO)):WK P ops w Q1 (⟨d,op,ty,pos,af,g⟩::rest) n env:=by
 refine⟨?_⟩;unfold pc;rw[if_neg (by rw[a];decide),E8];exact h.out
theorem dR{j dj:Nat}{b b':Bool}(a:(ops[j]?).bind (·.dst)=aj dj)(f:ev n env (.tmp dj)=.bool b')(e:(b'==b)=aq)(h:WK P ops w Q1 rest n (gG env d fO)):WK P ops w Q1 (⟨d,op,ty,pos,af,aj (j,b)⟩::rest) n env:=
  wk_skip (by have c:=Eo (ops:=ops) a f;simpa[cp,c]using e) h
theorem QC{j dj:Nat}(c:(ops[j]?).bind (·.dst)=aj dj)(b:ev n env (.tmp dj)=fO):ej ops (act n env).tmps j=none:=by
  unfold ej;have a:(act n env).eval (.tmp dj)=undef:=by rw[gX];exact b
  simp only[c,cH];simp only[hS]at a;cases h2:(act n env).tmps[dj]? with
  |none=>rfl
  |some x=>simp[cV,h2]at a;subst a;rfl
theorem Bi{j dj:Nat}{b:Bool}(c:(ops[j]?).bind (·.dst)=aj dj)(a:ev n env (.tmp dj)=fO)(h:WK P ops w Q1 rest n (gG env d fO)):WK P ops w Q1 (⟨d,op,ty,pos,af,aj (j,b)⟩::rest) n env:=
  wk_skip (by simp[cp,QC c a]) h
theorem wl_offU{j dj:Nat}{b:Bool}(e:(ops[j]?).bind (·.dst)=aj dj)(a:ev n env (.tmp dj)=fO)(h:WL P ops Q rest n (gG env d fO) w):WL P ops Q (⟨d,op,ty,pos,af,aj (j,b)⟩::rest) n env w:=by
  have c:cp ⟨d,op,ty,pos,af,aj (j,b)⟩ (ej ops (act n env).tmps)=false:=by simp[cp,QC e a]
  refine⟨?_⟩;unfold nk;rw[if_neg (by rw[c];decide),E8];exact h.out
theorem wk_gd{j dj:Nat}{b a:Bool}(c:Bool)(i:(ops[j]?).bind (·.dst)=aj dj)(g:ev n env (.tmp dj)=gv c (.bool b))
    (o:(c&&(b==a))=ar->(bl (ev n env) ⟨d,op,ty,pos,af,aE⟩).run P w=.ok (.value v) w) (h:WK P ops w Q1 rest n (gG env d (gv (c&&(b==a)) v))):
    WK P ops w Q1 (⟨d,op,ty,pos,af,aj (j,a)⟩::rest) n env:=by
  by_cases f:(c&&(b==a))=ar
  · have m:=gl f;have k:=gr f;rw[fw m]at g;rw[fw f]at h;have l:b=a:=by simpa using k
    subst l;exact gq i g<|aG (o f) h
  · have e:(c&&(b==a))=false:=by simpa using f
    rw[e]at h;cases c with
    |true=>exact dR i g (by simpa using e) h
    |false=>exact Bi i g h
theorem nP{j dj:Nat}{b a:Bool}(e:(ops[j]?).bind (·.dst)=aj dj)(c:ev n env (.tmp dj)=.bool b)
    (f:(b==a)=ar->(bl (ev n env) ⟨d,op,ty,pos,af,aE⟩).run P w=.ok (.value v) w) (h:WK P ops w Q1 rest n (gG env d (gv (b==a) v))):
    WK P ops w Q1 (⟨d,op,ty,pos,af,aj (j,a)⟩::rest) n env:=
  wk_gd ar e c (fun h=>f (by simpa using h)) (by simpa using h)
theorem BQ{l:List ef}(h:WL P ops Q l n env w):WK P ops w (fun a=>nk P ops Q l a w) [] n env:=⟨h.out⟩
theorem vJ{id:Nat}(k:Nat){l:List ef}(b:P.follows .mixedOrders=ar)(d:qT .any l.toArray k=ar)(h:SH w0 M K w hp)
  (c:∀w,SH w0 M K w hp->WK P l.toArray w (fun a=>nk P l.toArray Q (l.drop k) a w) (l.take k) n env):WC P (fW id l.toArray ar) Q n env w:=
 ⟨sh k b d (vR (c _ (h.grow (Grow.drew w))).out)⟩
theorem qR{id:Nat}{l:List ef}(b:P.follows .mixedOrders=ar)(d:Region.lexB .any l.toArray=ar)(h:SH w0 M K w hp)
  (c:∀w,SH w0 M K w hp->WK P l.toArray w (fun a=>∀w',w'=w->Q .normal a w') l n env):WC P (fW id l.toArray ar) Q n env w:=
 ⟨wp_region_quiet (C:=fun x=>x=w.drew) b d Z (c _ (h.grow (Grow.drew w))).out⟩
theorem q8(h:Q .normal (act n env) w):WK P ops w (fun a=>∀w',w'=w->Q .normal a w') [] n env:=⟨fun _ e=>by rw[e];exact h⟩
end
open Go.RowKit
section
variable{P:ca}{ops:Array ef}{Q:fh->Act->ao->Prop}{n:Nat}{env:Nat->al}{w w' w0:ao}{M K:BS}{hp:Nat->Chunk}{rest:List ef}
 {d:Option Nat} {op:Op} {ty:ba} {pos:String} {af:Array hH} {v:al} {g:Option (Nat×Bool)} {T:ba} {ρ:bo->al} {x y:bo}
theorem GH{v:al}(h:v.oneCell'=ar):v.cells= #[v]:=by
 cases v<;>first|rfl|simp[fb]at h
theorem dV{v:al}(h:v.oneCell'=ar):v.cells.toList=[v]:=by rw[GH h]
theorem eD.rdc{α:Type}{R:lL α}{A:BS}{l:List α}(h:dn R w A v l):(yf R).rd w A v.cells.toList l:=by
 rw[GH h.one];exact⟨v,Z,h⟩
theorem gvn{c d:Bool}{v:al}(h:c=ar):gv (c&&d) v=gv d v:=by rw[h,mQ]
theorem aL:∀v∈([]:List al),v.oneCell'=true:=fun _ h=>by cases h
theorem aa{a:al}{l:List al}(b:a.oneCell'=ar)(c:∀v∈l,v.oneCell'=ar):∀v∈a::l,v.oneCell'=true:=fun v h=>by
  rcases bn.1 h with rfl|h
  · exact b
  · exact c v h
def Room{α:Type}(a:Nat)(l m:List α):Prop:=(l.length+m.length)*a<=140737488355328/\l.length+m.length<=9223372036854775807
instance {α:Type} (bytes:Nat) (l m:List α):Decidable (Room bytes l m):=inferInstanceAs (Decidable (_/\_))
theorem Room.mk{α:Type}{a:Nat}{l m:List α}(b:(l.length+m.length)*a<=140737488355328)(c:l.length+m.length<=9223372036854775807):Room a l m:=⟨b,c⟩
theorem set1{α:Type}{R:lL α}{A:BS}{cs:List al}{a a':α}{v:al}(h:R.rd w A v.cells.toList a')(e:R.rd w A cs a)(b:R.sz=1:=by rfl)(d:v.oneCell'=true:=by assumption):R.rd w A (cs.set 0 v) a':=by
 have:=R.len e;rw[b]at this
 match cs,this with
 |[c],_=>rw[dV d]at h;exact h
theorem iQ{f:fS}{first captured:Array al}{xs:Array bo}{g:Array ba}{args:List al}(a:SE P f)(b:ev n env x=.func (.func f) first captured)
  (c:first.toList++xs.toList.map (ev n env)++captured.toList=args) (i:bD P f args.toArray w (fun e w'=>∃v,e=.returned v/\WL P ops Q rest n (gG env d v) w')):
  WL P ops Q (⟨d,.call {callee:=.value x,args:=xs,argTypes:=g},ty,pos,af,aE⟩::rest) n env w:=
 cz a b c i (fun _ _ h=>h)
theorem lJ{α:Type}{a b:α}{l m:List α}(h:a=b)(c:l=m):a::l=b::m:=by rw[h,c]
theorem w_callG{f:fS}{first captured:Array al}{xs:Array bo}{q:Array ba}{args:List al}{j dj:Nat}{b a:Bool}(g:Bool)(m:(ops[j]?).bind (·.dst)=aj dj)(l:ev n env (.tmp dj)=gv g (.bool b))(u:SE P f)(y:ev n env x=.func (.func f) first captured)
    (p:(g&&(b==a))=ar->first.toList++xs.toList.map (ev n env)++captured.toList=args) (z:bD P f args.toArray w (fun e w'=>Grow w w'/\e=.returned v))
    (k:∀w',Grow w w'->WL P ops Q rest n (gG env d (gv (g&&(b==a)) v)) w'):
    WL P ops Q (⟨d,.call {callee:=.value x,args:=xs,argTypes:=q},ty,pos,af,aj (j,a)⟩::rest) n env w:=by
  by_cases c:(g&&(b==a))=ar
  · have o:=gl c;have r:=gr c;rw[fw o]at l;have s:b=a:=by simpa using r
    subst s;refine Xa m l<|cz u y (p c) z ?_;rintro e w'⟨t,rfl⟩;refine⟨_,Z,?_⟩;have:=k w' t;rw[fw c]at this;exact this
  · have i:(g&&(b==a))=false:=by simpa using c
    have h:=k w<|bL.refl _ _;rw[i]at h;cases g with
    |true=>exact j3 m l (by simpa using i) h
    |false=>exact wl_offU m l h
theorem w_callG0{f:fS}{first captured:Array al}{xs:Array bo}{m:Array ba}{args:List al}{j dj:Nat}{b a:Bool}(l:(ops[j]?).bind (·.dst)=aj dj)(o:ev n env (.tmp dj)=.bool b)(c:SE P f)(g:ev n env x=.func (.func f) first captured)
    (i:(b==a)=ar->first.toList++xs.toList.map (ev n env)++captured.toList=args) (p:bD P f args.toArray w (fun e w'=>Grow w w'/\e=.returned v))
    (k:∀w',Grow w w'->WL P ops Q rest n (gG env d (gv (b==a) v)) w'):
    WL P ops Q (⟨d,.call {callee:=.value x,args:=xs,argTypes:=m},ty,pos,af,aj (j,a)⟩::rest) n env w:=
  w_callG ar l o c g (fun h=>i (by simpa using h)) p (by simpa using k)
theorem SH.dY{α:Type}{R:lL α}{E:ba}{l:List α}(h:SH w0 M BE w hp)(i:Nat)(c:hp i=.own R E v l):cO R E w M v l/\∀b,ob v b->w0.heap.size<=b:=
 ⟨cO.go (h.bH i c) (bL.refl BE w) (fun _ h=>h.elim) (fun _ h=>h.elim) (fun b a _=>.inl (.inl a)),fun b a=>h.fresh i b (by rw[c];exact a)⟩
theorem eG{s:Nat}:∀b,ob (.slice aE 0 0) b->s<=b:=fun _ h=>h.elim
theorem p8{P:ca}{E:ba}{z:al}{s b:Nat}(h:(P.info? E).map (fun i=>(i.zero,i.size,i.bytes))=aj (aj z,s,b))(hz:z.cells.size=s):∃i z,P.info? E=aj i/\i.zero=aj z/\i.size=s/\i.bytes=b/\z.cells.size=s:=by
 cases hi:P.info? E with
 |none=>simp[hi]at h
 |some i=>simp[hi]at h;exact⟨i,z,Z,h.1,h.2.1,h.2.2,hz⟩
theorem r_max{T2:ba}{p q:Int}(b:ρ x=.int .i64 p)(a:ρ y=.int .i64 q):(bl ρ ⟨d,.call {callee:=.builtin .max,args:= #[x,y],argTypes:= #[T,T2]},ty,pos,af,g⟩).run P w=.ok (.value (.int .i64 (max p q))) w:=by
 have h:(if q>p then q else p)=max p q:=by split<;>omega
 simp[bl,gS,jx,iU,Builtin.max_,Builtin.max2,b,a,h]
theorem r_min{T2:ba}{p q:Int}(b:ρ x=.int .i64 p)(a:ρ y=.int .i64 q):(bl ρ ⟨d,.call {callee:=.builtin .min,args:= #[x,y],argTypes:= #[T,T2]},ty,pos,af,g⟩).run P w=.ok (.value (.int .i64 (min p q))) w:=by
 have h:(if q<p then q else p)=min p q:=by split<;>omega
 simp[bl,gS,jx,iU,Builtin.min_,Builtin.min2,b,a,h]
theorem CJ{zs vs cs:List al}{b i:Nat}(l:SH w0 M K w hp)(j:hp i=.blk b cs)(f:vN P T zs)(e:vs.length=zs.length)(k:cs=vs):(qF T ⟨b,0,aE⟩).run P w=.ok (.agg vs.toArray) w:=by
 subst k;have h:=yt (P:=P) (ρ:=fun _=>.pointer (aj ⟨b,0,aE⟩)) (d:=aE) (ty:=0) (pos:= "") (af:= #[]) (g:=aE) (x:=.tmp 0) (o:=0) (vs:=cs) l i j f Z (by rw[<-e];simp) e;simp only[bl,oX,hU]at h;have c:((qF T ⟨b,0,aE⟩).run P w).andThen (fun a w'=>qm (Next.value a) w')=qm (Next.value (Value.agg cs.toArray)) w:=by simpa using h
 cases hres:(qF T ⟨b,0,aE⟩).run P w with
 |ok v w'=>rw[hres]at c;simp at c;rw[c.1,c.2]
 |halt x w'=>rw[hres]at c;simp[Result.andThen]at c
theorem fin_tct{g:sg}{R:mg->ao->Prop}{t u a:Tmp}{T:ba}{v1 v3:al}{zs vs:List al}{b:Nat}(l:g.results= #[.tmp t,.cell a T,.tmp u])(q:ev n env (.tmp t)=v1)(o:ev n env (.tmp a)=.pointer (aj ⟨b,0,aE⟩))(r:ev n env (.tmp u)=v3)
  (k:SH w0 M K w hp) (i:Nat) (p:hp i=.blk b vs) (m:vN P T zs) (j:vs.length=zs.length) (h:R (.returned (.tuple #[v1,.agg vs.toArray,v3])) w):jn P g R .ret (act n env) w:=by
 refine⟨Z,_,?_,h⟩;have d:=congrFun (gX n env)<|.tmp t;have e:=congrFun (gX n env)<|.tmp u;have c:=congrFun (gX n env)<|.tmp a;rw[q]at d;rw[r]at e;rw[o]at c;simp only[hS]at d e c;rw[cV]at d e c;have f:=CJ (P:=P) k p m j Z;unfold results;rw[l];simp[d,e,c,asAddr,f]
theorem SH.gN{α:Type}{R:lL α}{E:ba}{l:List α}(h:SH w0 M K w hp)(j i:Nat)(n:hp j=.own R E v l)(u:hp i=.no)(r:j≠i):SH w0 M K w (bW (bW hp j .no) i (.own R E v l)):=by
  have ho:=h.bH j n;have d:∀x b,(bW (bW hp j .no) i (.own R E v l) x).own' b->∃y,(hp y).own' b/\(x=i->y=j)/\(x≠i->y=x/\x≠j):=by
    intro x b a;by_cases e:x=i
    · subst e;rw[cu]at a;exact⟨j,by rw[n];exact a,fun _=>rfl,fun h=>absurd Z h⟩
    · rw[ek e]at a;by_cases c:x=j
      · subst c;rw[cu]at a;exact a.elim
      · rw[ek c]at a;exact⟨x,a,fun h=>absurd h e,fun _=>⟨Z,c⟩⟩
  have f:∀b,iX (bW (bW hp j .no) i<|.own R E v l) b->iX hp b:=fun b⟨x,o⟩=>let ⟨y,g,_⟩:=d x b o;⟨y,g⟩;refine⟨h.keep,h.ltM,fun x b a=>let ⟨y,g,_⟩:=d x b a;h.apM y b g,fun x=>?_,fun x y k b o g=>?_,fun x b a=>let ⟨y,g,_⟩:=d x b a;h.old y b g⟩
  · by_cases e:x=i
    · subst e;rw[cu];have:=h.ok j;rw[n]at this;exact Chunk.sub this fun b a _=>f b a
    · rw[ek e];by_cases c:x=j
      · subst c;rw[cu];trivial
      · rw[ek c];exact Chunk.sub (h.ok x) (fun b a _=>f b a)
  · obtain⟨x',s,t,p⟩:=d x b o;obtain⟨q,k1,k2,m⟩:=d y b g;have:x'≠q:=by
      by_cases e:x=i
      · have c:y≠i:=fun h=>k<|e.trans h.symm;rw[t e,(m c).1];exact fun h=>(m c).2 h.symm
      · by_cases c:y=i
        · rw[k2 c,(p e).1];exact(p e).2
        · rw[(p e).1,(m c).1];exact k
    exact h.apart x' q this b s k1
theorem SH.gu{α:Type}{R:lL α}{l:List α}(h:SH w0 M K w hp)(j i:Nat)(a:hp j=.rd R v l):SH w0 M K w (bW hp i (.rd R v l)):=h.aK i (h.bC j a)
theorem SH.yD{α:Type}{R:lL α}{l:List α}(h:SH w0 M K w hp)(i:Nat)(c:hp i=.rd R v l):dn R w M v l:=
 (h.bC i c).sub (fun b a _=>.inl a) (fun b a _=>.inl a)
def clone{α:Type}(b:Nat)(a:List α):Option (List α):=iK (Room b ([]:List α) a) (aj a)
structure Arr2(P:ca)(T E:ba):Prop where
  desc:P.underlying T=aj (.array 2 E)
  zero:∃z0 z1,(P.info? T).map (·.zero)=aj (aj (.agg #[z0,z1]))
  size:(P.info? E).map (·.size)=aj 1
  plain:∃F,P.underlying E=aj (.slice F)
theorem r_build2{E:ba}{x y:bo}{p q:al}(c:Arr2 P T E)(l:ρ x=p)(k:ρ y=q)(m:p.oneCell'=ar)(r:q.oneCell'=ar):(bl ρ ⟨d,.build T #[(0,x),(1,y)],ty,pos,af,g⟩).run P w=.ok (.value (.agg #[p,q])) w:=by
 obtain⟨f,b,hz⟩:=c.zero;obtain⟨i,a,e⟩:∃i,P.info? T=aj i/\i.zero=aj (.agg #[f,b]):=by
  cases a:P.info? T with
  |none=>simp[a]at hz
  |some i=>simp[a]at hz;exact⟨i,Z,hz⟩
 obtain⟨j,n,h⟩:∃j,P.info? E=aj j/\j.size=1:=by
  have:=c.size;cases a:P.info? E with
  |none=>simp[a]at this
  |some i=>simp[a]at this;exact⟨i,Z,this⟩
 have c1:=GH m;have c2:=GH r;simp only[bl,Instr.build,l,k,cA,jF,dy,ft];have o:(Value.agg #[f,b]).cells= #[f,b]:=rfl;simp[a,e,c.desc,n,h,jJ,c1,c2,o,l,k]
theorem r_index2{E:ba}{x y:bo}{p q v:al}{k:Nat}(c:Arr2 P T E)(r:ρ x=.agg #[p,q])(o:ρ y=.int .i64 k)(a:[p,q][k]? =aj v):(bl ρ ⟨d,.index T x y,ty,pos,af,g⟩).run P w=.ok (.value v) w:=by
  obtain⟨F,m⟩:=c.plain;obtain⟨j,n,e⟩:∃j,P.info? E=aj j/\j.size=1:=by
    have:=c.size;cases hi:P.info? E with
    |none=>simp[hi]at this
    |some i=>simp[hi]at this;exact⟨i,Z,this⟩
  have f:k<2:=by
    rcases cD k 2 with h|h
    · exact h
    · rw[bw (by simpa using h)]at a;cases a
  have l:(#[p,q]:Array al)[k]? =aj v:=by simpa using a
  have b:((k:Int)<2):=by omega
  simp only[bl,Instr.index,r,o,cA,ia,part,isAgg,ft,dy];simp[c.desc,n,e,m,b,f];rw[bh (by simpa using f)]at a;exact cM a
structure PairI(P:ca)(T:ba):Prop where
 desc:∃f0 f1,P.underlying T=aj (.struct #[f0,f1])/\f0.name≠ "_" /\f1.name≠ "_" /\f0.offset=0/\f1.offset=1/\P.underlying f0.type=aj (.int .i64)/\P.underlying f1.type=aj (.int .i64)/\P.plainKey f0.type=ar/\P.plainKey f1.type=ar
 stood:P.stoodInHeld T=aq
 guard:P.eqGuardType P.depth T=aq
theorem eq_pairI(i:PairI P T)(a b c e:Int):(oB 10000 T (.agg #[.int .i64 a,.int .i64 b]) (.agg #[.int .i64 c,.int .i64 e])).run P w=.ok (ab (a=c)&&ab (b=e)) w:=by
  obtain⟨d,f,j,q,m,o,o1,l,n,g,k1⟩:=i.desc;have k:P.fieldsOf T= #[d,f]:=by simp[Program.fieldsOf,j]
  rw[show(10000:Nat)=9999+1 from rfl,run_equalIn_agg w 9999 T _ _ (by rw[k];exact j) i.stood,k];simp only[Op.eqFields,q,m,ne_eq,not_false_eq_true,if_true,o,o1,cv];rw[fN w g (xs:= #[.int .i64 a,.int .i64 b]) (off:=0) (v:=.int .i64 a) rfl];simp only[bp];rw[fN w g (xs:= #[.int .i64 c,.int .i64 e]) (off:=0) (v:=.int .i64 c) rfl];simp only[bp];rw[show(9999:Nat)=9998+1 from rfl,run_equalIn_int w 9998 d.type .i64 .i64 a c l];simp only[bp,pP,cv];by_cases h:a=c
  · subst h;simp only[beq_self_eq_true,Bool.not_true,cJ,if_false];rw[fN w k1 (xs:= #[.int .i64 a,.int .i64 b]) (off:=1) (v:=.int .i64 b) rfl];simp only[bp];rw[fN w k1 (xs:= #[.int .i64 a,.int .i64 e]) (off:=1) (v:=.int .i64 e) rfl];simp only[bp];rw[run_equalIn_int w 9998 f.type .i64 .i64 b e n];by_cases p:b=e<;>simp[p]
  · simp[h]
theorem r_eqlP{T2:ba}{a b c e:Int}(f:PairI P T)(i:ρ x=.agg #[.int .i64 a,.int .i64 b])(h:ρ y=.agg #[.int .i64 c,.int .i64 e]):(bl ρ ⟨d,.binOp .eql T x y T2,ty,pos,af,g⟩).run P w=.ok (.value (.bool (ab (a=c)&&ab (b=e)))) w:=by
 simp only[bl,i,h,cv,run_eqGuard_agg w .eql T x y _ _ f.guard,bp,run_eql_struct,eq_pairI f];simp
theorem r_neqP{T2:ba}{a b c e:Int}(f:PairI P T)(i:ρ x=.agg #[.int .i64 a,.int .i64 b])(h:ρ y=.agg #[.int .i64 c,.int .i64 e]):(bl ρ ⟨d,.binOp .neq T x y T2,ty,pos,af,g⟩).run P w=.ok (.value (.bool (!(ab (a=c)&&ab (b=e))))) w:=by
 simp only[bl,i,h,cv,run_eqGuard_agg w .neq T x y _ _ f.guard,bp,run_neq_struct,eq_pairI f];simp
end
section
variable{σ:Type}{n:Nat}{e UI:Nat->al}{mod:Nat->Bool}{live:σ->List (Nat×al)}{J:σ->ao->Prop}{w:ao}
theorem bM(s:σ)(a:J s w)(b:Holds e (live s):=by repeat (first|exact U|refine⟨rfl,?_⟩))
 (c:Jr mod e UI:=by repeat (first|(with_reducible exact Jr.refl _ _)|(with_reducible exact Jr.hav _ _ _)|(with_reducible refine Jr.on ?_)|((with_reducible refine Jr.hin ?_ ?_);rfl)|(with_reducible refine Jr.un ?_)|((with_reducible refine Jr.os ?_ ?_);rfl)|((with_reducible refine Jr.uc ?_ ?_);rfl))):
 JP n mod UI live J (act n e) w:=⟨s,e,rfl,c,b,a⟩
theorem jl{a:σ->Nat}{c:σ}(s:σ)(d:J s w)(b:a s<a c:=by dsimp only;omega)(f:Holds e (live s):=by repeat (first|exact U|refine⟨rfl,?_⟩))
 (g:Jr mod e UI:=by repeat (first|(with_reducible exact Jr.refl _ _)|(with_reducible exact Jr.hav _ _ _)|(with_reducible refine Jr.on ?_)|((with_reducible refine Jr.hin ?_ ?_);rfl)|(with_reducible refine Jr.un ?_)|((with_reducible refine Jr.os ?_ ?_);rfl)|((with_reducible refine Jr.uc ?_ ?_);rfl))):
 JL n mod UI live J a c (act n e) w:=⟨s,e,rfl,g,f,d,b⟩
end
section
variable{P:ca}{Q:fh->Act->ao->Prop}{n:Nat}{env:Nat->al}{w:ao}
theorem wc_rounds{c:Code}(m:Nat)(h:WC P c (Exit.then (pA P c Q m) Q) n env w):WC P (rr c) Q n env w:=⟨wp_loop_rounds (m+1) h.out⟩
theorem Ia{c:Code}{m:Nat}(h:WC P c (Exit.then (pA P c Q m) Q) n env w):Exit.then (pA P c Q (m+1)) Q .normal (act n env) w:=h.out
end
theorem SH.cn{w0 w:ao}{M K:BS}{hp:Nat->Chunk}(h:SH w0 M K w hp)(l:List (Nat×Chunk))(a:HoldsC hp l:=by repeat (first|exact U|refine⟨rfl,?_⟩)):SH w0 M K w (hset l):=h.canon l a
section
variable{α β σ ρ:Type}
theorem drop_lt{l:List α}{k:Nat}(h:ab ((k:Int)<(l.length:Int))=ar):∃x,l[k]? =aj x/\l.drop k=x::l.drop (k+1):=by
 have a:k<l.length:=by have:=of_decide_eq_true h;omega
 exact⟨l[k],bh a,cS a⟩
theorem drop_ge{l:List α}{k:Nat}(h:ab ((k:Int)<(l.length:Int))=aq):l.drop k=[]:=by
 have:=of_decide_eq_false h;exact cC V
theorem gL{body:α->σ->(σ->ρ)->ρ}{k:σ->ρ}{x:α}{l:List α}{s:σ}:each body k (x::l) s=body x s (each body k l):=rfl
theorem qU{body:α->σ->(σ->ρ)->ρ}{k:σ->ρ}{s:σ}:each body k [] s=k s:=rfl
theorem yP{body:Int->α->σ->(σ->ρ)->ρ}{k:σ->ρ}{x:α}{l:List α}{s:σ}{i:Int}:ic body k i (x::l) s=body i x s (ic body k (i+1) l):=rfl
theorem UK{body:Int->α->σ->(σ->ρ)->ρ}{k:σ->ρ}{s:σ}{i:Int}:ic body k i [] s=k s:=rfl
theorem upto_lt{body:Int->σ->(σ->ρ)->ρ}{k:σ->ρ}{s:σ}{i:Int}{j m:Nat}(h:j<m):upto body k i (m-j) s=body i s (upto body k (i+1) (m-(j+1))):=by
 rw[show m-j=(m-(j+1))+1 by omega];rfl
theorem upto_ge{body:Int->σ->(σ->ρ)->ρ}{k:σ->ρ}{s:σ}{i:Int}{j m:Nat}(h:m<=j):upto body k i (m-j) s=k s:=by
 rw[show m-j=0 by omega];rfl
theorem pI{body:σ->(σ->Option β)->Option β}{m:Nat}{s:σ}{r:β}(h:again body m s=aj r):∃a,m=a+1/\body s (again body a)=aj r:=by
 cases m with
 |zero=>cases h
 |succ m=>exact⟨m,rfl,h⟩
theorem eU{l:List α}{k:Nat}{i:Int}{x:α}(a:i=(k:Int))(h:l[k]? =aj x):l[i.toNat]? =aj x:=by subst a;simpa using h
theorem iB{k:Nat}{i:Int}(a:i=(k:Int)):0<=i:=by omega
theorem fH{l:List α}{k:Nat}{i:Int}(b:l.length<=9223372036854775807)(c:i=(k:Int))(a:ab (i<(l.length:Int))=ar):kN (i+1):=by
 have:=of_decide_eq_true a;exact⟨by omega,by omega⟩
end
open Go.RowKit
section
variable{P:ca}{ops:Array ef}{C:ao->Prop}{Q:fh->Act->ao->Prop}{n:Nat}{env:Nat->al}{w w':ao}{rest:List ef}
 {d:Option Nat} {op:Op} {ty:ba} {pos:String} {af:Array hH} {v:al} {g:Option (Nat×Bool)} {T:ba} {ρ:bo->al}
def BndN(o:Option al)(a other:Nat):Prop:=(o=aE/\a=other)\/o=aj (.int .i64 a)
theorem addr_zero(g:Nat):(⟨g,0,aE⟩:ks).add 0=⟨g,0,aE⟩:=rfl
theorem BR{x:bo}{k:Option bo}{e:bo}{E:ba}{m b len cap:Nat}{ad:Option ks}(n:SliceOf P T E m)(q:ρ x=.slice ad len cap)(o:ad=aE\/∃g,ad=aj ⟨g,0,aE⟩)(f:BndN (k.map ρ) 0 0)(a:ρ e=.int .i64 b)(l:b<=cap):
    (bl ρ ⟨d,.slice T x k (aj e) aE,ty,pos,af,g⟩).run P w=.ok (.value (.slice ad b cap)) w:=by
  obtain⟨i,h,j⟩:∃i,P.info? E=aj i/\i.size=m:=by
    have:=n.info;cases e:P.info? E with
    |none=>simp[e]at this
    |some i=>simp[e]at this;exact⟨i,Z,this⟩
  have c:(dd ar len cap (k.map ρ) ((aj e).map ρ) aE).run P w=.ok (0,b,cap) w:=by
    have p:(b:Int)<=(cap:Int):=by omega
    rcases f with⟨e1,_⟩|e1
    · simp[dd,e1,a,eA,ia,l]
    · simp[dd,e1,a,eA,ia,l]
  simp only[bl,ix,jj,cA,q];simp only[db,a]at c;rcases o with rfl|⟨g,rfl⟩<;>simp[n.desc,c,ft,dy,h,j,a,addr_zero]
theorem pJ{x:bo}{r c n:Option bo}{E:ba}{l gg a b m len cap:Nat}(v:SliceOf P T E l)(z:ρ x=.slice (aj ⟨gg,0,aE⟩) len cap)(j:BndN (r.map ρ) a 0)(t:BndN (c.map ρ) b len)(q:(n.map ρ=aE/\m=cap)\/(n.map ρ=aj (.int .i64 m)/\c.map ρ=aj (.int .i64 b)))
    (f:a<=b) (k:b<=m) (u:m<=cap):
    (bl ρ ⟨d,.slice T x r c n,ty,pos,af,g⟩).run P w=.ok (.value (.slice (aj (if m=a then⟨gg,0,aE⟩else⟨gg,a*l,aE⟩)) (b-a) (m-a))) w:=by
  obtain⟨i,s,o⟩:∃i,P.info? E=aj i/\i.size=l:=by
    have:=v.info;cases c:P.info? E with
    |none=>simp[c]at this
    |some i=>simp[c]at this;exact⟨i,Z,this⟩
  have h:(dd ar len cap (r.map ρ) (c.map ρ)<|n.map ρ).run P w=.ok (a,b,m) w:=by
    have B:(0:Int)<=(a:Int):=hP a;have y:(0:Int)<=(b:Int):=hP b;have e:b<=cap:=by omega
    have p:a<=m:=by omega
    rcases q with⟨g1,g2⟩|⟨g1,f1⟩
    · subst g2;rcases j with⟨e1,e2⟩|e1<;>rcases t with⟨f1,f2⟩|f1<;>(try subst e2)<;>(try subst f2)<;>
        simp[dd,e1,f1,g1,eA,ia,f,k,e]
    · rcases j with⟨e1,e2⟩|e1<;>(try subst e2)<;>
        simp[dd,e1,f1,g1,eA,ia,f,k,u,p]
  have A:(⟨gg,0,aE⟩:ks).add (a*l)=⟨gg,a*l,aE⟩:=by
    unfold gR;split
    · next hz=>rw[hz]
    · simp
  simp only[bl,ix,jj,cA,z];simp[v.desc,h,ft,dy,s,o,A];split<;>rfl
structure Raw(w:ao)(gg cap sz:Nat)(E:ba)(cur:List al):Prop where
 blk:w.heap[gg]? =aj (.cells cur.toArray E (0,0))
 len:cur.length=cap*sz
 le:cap<=kt
theorem addr_add(gg o k:Nat):(⟨gg,o,aE⟩:ks).add k=⟨gg,o+k,aE⟩:=by
  unfold gR;split
  · next hz=>rw[hz];rfl
  · rfl
theorem SG{x y:bo}{E:ba}{b q gg cap a m c j:Nat}{e:List al}{ad:ks}(F:kJ P T E b q)(r:Raw w gg cap b E e)(R:ev n env x=.slice (aj ⟨gg,0,aE⟩) a cap)(N:ev n env y=.slice (aj ad) m c)
    (C:m=0\/ad=⟨gg,j*b,aE⟩) (L:j+m<=cap) (t:a+m<=cap) (O:∀u∈(e.drop (j*b)).take (m*b),u.oneCell'=ar)
    (h:∀w',bL (fun x=>x=gg) w w'->Raw w' gg cap b E (e.take (a*b)++(e.drop (j*b)).take (m*b)++e.drop (a*b+m*b))->WL P ops Q rest n (gG env d (.slice (aj ⟨gg,0,aE⟩) (a+m) cap)) w'):
    WL P ops Q (⟨d,.call {callee:=.builtin .append,args:= #[x,y],argTypes:= #[T,T]},ty,pos,af,aE⟩::rest) n env w:=by
  obtain⟨i,z,I,hz,A,K,G⟩:=F.info;have M:j*b+m*b<=cap*b:=by rw[<-cj];exact bd _ L
  have s:a*b+m*b<=cap*b:=by rw[<-cj];exact bd _ t
  have g:=r.len;have f:((e.drop<|j*b).take<|m*b).length=m*b:=by rw[cd,cI];omega
  have p:∀k u,((e.drop<|j*b).take<|m*b)[k]? =aj u->w.cell? (ad.add k)=aj u:=by
    intro k u v;rcases C with rfl|rfl
    · simp at v
    · rw[addr_add];have B:k<m*b:=by
        rcases cD k (m*b)with h|h
        · exact h
        · rw[bw V]at v;cases v
      rw[cf,if_pos B,cw]at v;simp[eV,r.blk,v]
  have l:=run_append_room (P:=P) w T ty E i F.desc I gg a cap e.toArray r.blk ad m c _ (by rw[A];exact f) p O t (by rw[A,f];simpa[g]using s);have o:(bl (ev n env) ⟨d,.call {callee:=.builtin .append,args:= #[x,y],argTypes:= #[T,T]},ty,pos,af,aE⟩).run P w=.ok (.value<|.slice (aj ⟨gg,0,aE⟩) (a+m) cap) (wW w gg<|.cells (e.take (a*b)++(e.drop<|j*b).take (m*b)++e.drop (a*b+m*b)).toArray E (0,0)):=by
    rw[A,f,JA r.blk]at l;simp only[bl,gS,jx,iU,cv,da,bp,fL,ck,ep,R,N,l]
  refine J o<|h _ (bL.wW _ _ _) ⟨vP<|iW r.blk,?_,r.le⟩;rw[bc,bc,f,cd,cI,g];omega
def ZeroOne(P:ca)(E:ba):Prop:=∃z,(P.info? E).map (·.zero)=aj (aj z)/\z.cells.all (·.oneCell')=ar
theorem zeroCells_one{z:Array al}{k:Nat}(h:z.all (·.oneCell')=ar):∀u∈(cy z k).toList,u.oneCell'=true:=by
  intro u c;simp only[cy,Array.toList_map,dL]at c;obtain⟨i,d,rfl⟩:=c;have b:i<k*z.size:=by simpa using d
  have hz:0<z.size:=by
    rcases Nat.eq_zero_or_pos z.size with h0|h0
    · rw[h0,Nat.mul_zero]at b;omega
    · exact h0
  have a:i%z.size<z.size:=mN _ hz;rw[getElem!_pos z (i%z.size) a];exact(Array.all_eq_true.1 h) _ a
theorem Xb{x:bo}{E:ba}{a l gg cap m k c:Nat}{b:List al}(F:kJ P T E a l)(u:ZeroOne P E)(q:Raw w gg cap a E b)(I:ev n env x=.slice (aj ⟨gg,m*a,aE⟩) k c)(K:0<k)(A:m+k<=cap)
    (h:∀w' f,bL (fun x=>x=gg) w w'->Raw w' gg cap a E f->f.take (m*a)=b.take (m*a)->WL P ops Q rest n (gG env d (.tuple #[])) w'):
    WL P ops Q (⟨d,.call {callee:=.builtin .clear,args:= #[x],argTypes:= #[T]},ty,pos,af,aE⟩::rest) n env w:=by
  obtain⟨i,z,C,hz,L,G,y⟩:=F.info;obtain⟨t,o,p⟩:=u;have B:t=z:=by simp[C,hz]at o;exact o.symm
  subst B;have v:m*a+k*a<=cap*a:=by rw[<-cj];exact bd _ A
  have g:=q.len;have j:(cy t.cells k).toList.length=k*a:=by rw[ct,ku,y]
  have e:=nz (P:=P) gg (m*a) E (cy t.cells k).toList 0 b.toArray w q.blk (by rw[j];simpa[g]using v) (zeroCells_one p);rw[JA q.blk]at e;obtain⟨s,rfl⟩:∃s,k=s+1:=⟨k-1,by omega⟩;have r:(bl (ev n env) ⟨d,.call {callee:=.builtin .clear,args:= #[x],argTypes:= #[T]},ty,pos,af,aE⟩).run P w=.ok (.value<|.tuple #[]) (wW w gg<|.cells (b.take (m*a)++(cy t.cells<|s+1).toList++b.drop (m*a+(s+1)*a)).toArray E (0,0)):=by
    rw[j]at e;simp only[Nat.add_zero]at e;simp only[bl,gS,jx,iU,Builtin.clear_,cA,jF,dy,cv,da,bp,fL,ck,ep,I];simp[F.desc,C,hz,e]
  refine J r<|h _ _ (bL.wW _ _ _) ⟨vP<|iW q.blk,?_,q.le⟩ ?_
  · rw[bc,bc,j,cd,cI,g];omega
  · rw[cg,cX (by rw[cd];omega),eb,Nat.min_self]
end
theorem XQ{α:Type}{R:lL α}{E:ba}{w:ao}{A:BS}{v:al}{l:List α}(h:cO R E w A v l)(j:0<l.length):
    ∃gg cap a,v=.slice (aj ⟨gg,0,aE⟩) l.length cap/\Raw w gg cap R.sz E a/\l.length<=cap/\∀i (h:i<l.length),R.rd w (fun b=>A b\/b=gg) ((a.drop (i*R.sz)).take R.sz) l[i]:=by
  obtain⟨xs,g,f⟩:=h;rcases g.2 with⟨rfl,hn⟩|⟨gg,cap,a,rfl,e1,e2,e3,e4,e5,e6⟩
  · omega
  refine⟨gg,cap,a.toList,Z,⟨by simpa using e2,by simpa using e5,e4⟩,e3,fun i d=>?_⟩;have c:(i+1)*R.sz<=l.length*R.sz:=bd _ d;rw[cj]at c;have e:=f i d;rw[<-e6,eh,eb,cP V]at e;exact e
theorem rd_ones{α:Type}{R:lL α}{w:ao}{A:BS}{l:List α}{a:List al}(h:∀i (h:i<l.length),R.rd w A ((a.drop (i*R.sz)).take R.sz) l[i]){j m:Nat}(g:j+m<=l.length):∀u∈(a.drop (j*R.sz)).take (m*R.sz),u.oneCell'=true:=by
 intro u d;obtain⟨k,f,rfl⟩:=List.getElem_of_mem d;have c:k<m*R.sz:=by rw[cd]at f;omega
 have hp:=R.pos;have n:k / R.sz<m:=pL (by rw[nd];exact c);refine R.one (h (j+k / R.sz) V) _ ?_;rw[List.mem_iff_getElem?];refine⟨k%R.sz,?_⟩;have b:k%R.sz<R.sz:=mN _ hp;rw[cf,if_pos b,cw,km,mS];have e:(j+k / R.sz)*R.sz+k%R.sz=j*R.sz+k:=by
  rw[cj,jz,nd (k / R.sz),Nat.div_add_mod]
 rw[e,bh]
theorem raw_del{α:Type}{R:lL α}{E:ba}{w w':ao}{A:BS}{l:List α}{gg cap i j:Nat}{c d:List al}(r:Raw w' gg cap R.sz E d)(v:Raw w gg cap R.sz E c)(I:bL (fun x=>x=gg) w w')(o:i<=j)(z:j<=l.length)(N:l.length<=cap)
    (n:∀k (h:k<l.length),R.rd w (fun b=>A b\/b=gg) ((c.drop (k*R.sz)).take R.sz) l[k])
    (y:d.take ((i+(l.length-j))*R.sz)=c.take (i*R.sz)++(c.drop (j*R.sz)).take ((l.length-j)*R.sz)):
    cO R E w' A (.slice (aj ⟨gg,0,aE⟩) (i+(l.length-j)) cap) (l.take i++l.drop j):=by
  have e:(l.take i++l.drop j).length=i+(l.length-j):=by rw[bc,cd,cI];omega
  have B:=v.len;have K:l.length*R.sz<=cap*R.sz:=bd _ N;have M:j*R.sz<=l.length*R.sz:=bd _ z;have F:i*R.sz<=j*R.sz:=bd _ o;have u:(l.length-j)*R.sz=l.length*R.sz-j*R.sz:=ns _ _ _;have m:(c.take<|i*R.sz).length=i*R.sz:=by rw[cd];omega
  refine⟨c.take (i*R.sz)++(c.drop<|j*R.sz).take ((l.length-j)*R.sz),⟨?_,.inr ⟨gg,cap,d.toArray,?_,fv _,r.blk,?_,r.le,?_,?_⟩⟩,?_⟩
  · rw[e,bc,m,cd,cI,cj];omega
  · rw[e]
  · rw[e];omega
  · simpa using r.len
  · rw[e];exact y
  · intro k s;rw[e]at s;have g:=fun cs a(h:R.rd w (fun b=>A b\/b=gg) cs a)=>R.go (A':=fun b=>A b\/b=gg) h I (fun x L _=>.inr L) fun _ h _=>h;by_cases q:k<i
    · have f:(k+1)*R.sz<=i*R.sz:=bd _ q;rw[cj]at f;have p:=g _ _<|n k V;rw[eN (by rw[cd];omega),km,fR V,cX (by rw[cI];omega),eh,eb,cP V];exact p
    · have p:=g _ _<|n (j+(k-i)) V;have f:(k-i+1)*R.sz<=(l.length-j)*R.sz:=bd _ V;rw[cj]at f;have C:i*R.sz<=k*R.sz:=bd _ V;have t:(k-i)*R.sz=k*R.sz-i*R.sz:=ns _ _ _;rw[fi (by rw[cd];omega)];have G:(l.drop j)[k-(l.take i).length]'(by rw[cd,cI];omega)=l[j+(k-i)]'V:=by
        rw[mS];congr 1;rw[cd];omega
      rw[G,iy,cC V,cQ,m,<-t,eh,eb,cP V,lR,<-cj];exact p
theorem Raw.keep{w w':ao}{gg cap b:Nat}{E:ba}{a:List al}{N:BS}(h:Raw w gg cap b E a)(c:bL N w w')(hn:¬N gg):Raw w' gg cap b E a:=⟨c.blk h.blk hn,h.len,h.le⟩
section
variable{P:ca}{Q:fh->Act->ao->Prop}{n:Nat}{env:Nat->al}{w w' w0:ao}{M K:BS}{hp:Nat->Chunk}
theorem SK{id:Nat}(k:Nat){l:List ef}(c:P.follows .mixedOrders=ar)(e:qT .any l.toArray k=ar)
  (d:∀b,Grow w b->WK P l.toArray b (fun a=>nk P l.toArray Q (l.drop k) a b) (l.take k) n env):WC P (fW id l.toArray ar) Q n env w:=
 ⟨sh k c e (vR (d _ (Grow.drew w)).out)⟩
theorem SH.given{α:Type}{R:lL α}{E:ba}{v u:al}{l d:List α}(h:SH w0 M K w hp)(i:Nat)(c:hp i=.own R E v l)(ho:cO R E w' (fun b=>M b\/rest hp i b) u d)(e:bL (ob v) w w')(hn:∀b,ob u b->b<w.heap.size->ob v b):SH w0 M K w' (bW hp i (.own R E u d)):=by
  refine h.step i e (fun b a _=>by rw[c];exact a) (fun b a f=>by rw[c];exact hn b a f) ?_;refine cO.go ho (bL.refl BE w') (fun _ h=>h.elim) (fun _ h=>h.elim) fun b a _=>?_;rcases a with a|a|a
  · exact .inl<|.inl a
  · exact .inl<|.inr a
  · exact .inr a
theorem SH.giveO{α:Type}{R:lL α}{E:ba}{v:al}{l:List α}(h:SH w0 M K w hp)(i:Nat)(a:hp i=.own R E v l):cO R E w (fun b=>M b\/rest hp i b) v l:=
 cO.go (h.bH i a) (bL.refl BE w) (fun _ h=>h.elim) (fun _ h=>h.elim) (fun b c _=>.inl (c.imp id lM))
theorem SH.Mf{α β:Type}{R:lL α}{R':lL β}{E:ba}{v u:al}{l:List α}{e:List β}(h:SH w0 M K w hp)(i j:Nat)(d:hp i=.rd R v l)(c:hp j=.own R' E u e):dn R w (fun b=>M b\/ob u b) v l:=
 (h.bC i d).sub (fun b a _=>a.elim .inl (fun a=>.inr ⟨j,by rw[c];exact a⟩)) (fun b a _=>a.elim .inl (fun a=>.inr ⟨j,by rw[c];exact a⟩))
theorem dn.Xc{α β:Type}{R:lL α}{R':lL β}{E:ba}{v u:al}{l:List α}{d:List β}{i:Nat}(h:dn R w (fun b=>SH.A M hp b\/ob u b) v l):dn R w (SH.A M (bW hp i (.own R' E u d))) v l:=by
  have c:∀b,SH.A M (bW hp i<|.own R' E u d) b->SH.A M hp b\/ob u b:=by
    rintro b(a|⟨j,a⟩)
    · exact .inl<|.inl a
    · by_cases e:j=i
      · subst e;rw[cu]at a;exact .inr a
      · rw[ek e]at a;exact .inl (.inr ⟨j,a⟩)
  exact h.sub (fun b a _=>c b a) fun b a _=>c b a
theorem del_len{i j l cap a:Nat}{b:List al}(n:b.length=cap*a)(d:i<=j)(g:j<=l)(f:l<=cap):
  ((b.take (i*a)++(b.drop (j*a)).take ((l-j)*a)++b.drop (i*a+(l-j)*a)).take ((i+(l-j))*a))=b.take (i*a)++(b.drop (j*a)).take ((l-j)*a):=by
 have k:i*a<=j*a:=bd _ d;have h:j*a+(l-j)*a=l*a:=by rw[<-cj];congr 1;omega
 have m:l*a<=cap*a:=bd _ f;have e:(b.take<|i*a).length=i*a:=by rw[cd];omega
 have c:((b.drop<|j*a).take ((l-j)*a)).length=(l-j)*a:=by rw[cd,cI];omega
 rw[cj,cX (by rw[bc,e,c];omega),ie (by rw[bc,e,c];omega)]
def del1{α:Type}(l:List α)(i j:Int):Option (List α):=if 0<=i/\i<j/\j<=l.length then aj (l.take i.toNat++l.drop j.toNat)else aE
theorem o_del{α:Type}{l r:List α}{i j:Int}(h:del1 l i j=aj r):∃a b:Nat,i=a/\j=b/\a<b/\b<=l.length/\r=l.take a++l.drop b:=by
  unfold del1 at h;by_cases hp:0<=i/\i<j/\j<=l.length
  · rw[if_pos hp]at h;cases h;exact⟨i.toNat,j.toNat,by omega,by omega,by omega,by omega,Z⟩
  · rw[if_neg hp]at h;cases h
end
open Go.RowKit
def selK(K:Act->ao->Prop)(Q:fh->Act->ao->Prop):fh->Act->ao->Prop
 | .normal,a,w=>K a w
 |e,a,w=>Q e a w
section
variable{P:ca}{ops:Array ef}
variable{Q:fh->Act->ao->Prop}{n:Nat}{env:Nat->al}{w w0:ao}{M K:BS}{hp:Nat->Chunk}
structure WH(P:ca)(ops:Array ef)(ws:ao)(Q:fh->Act->ao->Prop)(fuel:Nat)(listed:Array Bool)(n:Nat)(env:Nat->al)(w:ao):Prop where
 out:qY P .any ops (pd Q) (Grow ws) fuel listed (act n env) w
theorem rf{id:Nat}{l:List ef}(a:P.follows .mixedOrders=ar)(b:SH w0 M K w hp)
  (h:∀w,SH w0 M K w hp->WH P l.toArray w Q l.length (nj l.length aq) n env w):WC P (fW id l.toArray ar) Q n env w:=
 ⟨wp_region_noPanic (wp_region_held (S:=Grow w.drew) a (h _ (b.grow (Grow.drew w))).out)⟩
theorem held_weak{S S':ao->Prop}(c:∀w,S' w->S w):∀(fuel:Nat) (listed:Array Bool) (a:Act) (w:ao),qY P .any ops Q S' fuel listed a w->qY P .any ops Q S fuel listed a w
 |0,_,_,_,h=>h
 |fuel+1,_,_,_,h=>⟨h.1,fun i d=>wpOp_mono (fun a' w' b=>⟨c _ b.1,held_weak c fuel _ a' w' b.2⟩) (h.2 i d)⟩
variable{d:Option Nat}{op:Op}{ty:ba}{pos:String}{af:Array hH}{v:al}{g:Option (Nat×Bool)}{i fuel:Nat}{listed:Array Bool}
theorem bz:cp ⟨d,op,ty,pos,af,aE⟩ (ej ops (act n env).tmps)=true:=rfl
theorem eY{j dj:Nat}{b:Bool}(e:(ops[j]?).bind (·.dst)=aj dj)(a:ev n env (.tmp dj)=.bool b):cp ⟨d,op,ty,pos,af,aj (j,b)⟩ (ej ops (act n env).tmps)=true:=by
  have c:=Eo (ops:=ops) e a;simp[cp,c]
theorem bN{j dj:Nat}{b b':Bool}(f:(ops[j]?).bind (·.dst)=aj dj)(c:ev n env (.tmp dj)=.bool b')(a:(b'==b)=aq):cp ⟨d,op,ty,pos,af,aj (j,b)⟩ (ej ops (act n env).tmps)=false:=by
  have e:=Eo (ops:=ops) f c;simpa[cp,e]using a
theorem wh_first{ws:ao}{o:ef}(e:Grow ws w)(d:ops[i]? =aj o)(c:ea ops=ar)(b:eR .any ops listed i=ar)(f:(cN .any ops listed).contains i=ar)
  (a:YieldsIf P ops (Grow ws) o v (act n env)) (h:WH P ops ws Q fuel (listed.setIfInBounds i ar) n (gG env o.dst v) w):WH P ops ws Q (fuel+1) listed n env w:=by
 refine⟨wpAnyH_take d c b f (fun _ _ _ h=>h) a e ?_⟩;rw[E8];exact h.out
theorem kG{ws:ao}(i:Nat)(k:Grow ws w)(f:ops[i]? =aj ⟨d,op,ty,pos,af,g⟩)(j:cp ⟨d,op,ty,pos,af,g⟩ (ej ops (act n env).tmps)=ar)(c:ea ops=ar)(b:eR .any ops listed i=ar)(l:(cN .any ops listed).contains i=ar)
  (e:∀a,Grow ws a->(bl (ev n env) ⟨d,op,ty,pos,af,g⟩).run P a=.ok (.value v) a) (h:WH P ops ws Q fuel (listed.setIfInBounds i ar) n (gG env d v) w):WH P ops ws Q (fuel+1) listed n env w:=
 wh_first (o:=⟨d,op,ty,pos,af,g⟩) k f c b l (.inl ⟨j,fun a m=>by rw[gX];exact e a m⟩) h
theorem cK{ws:ao}(i:Nat)(f:Grow ws w)(c:ops[i]? =aj ⟨d,op,ty,pos,af,g⟩)(e:cp ⟨d,op,ty,pos,af,g⟩ (ej ops (act n env).tmps)=aq)(b:ea ops=ar)(a:eR .any ops listed i=ar)(j:(cN .any ops listed).contains i=ar)
  (h:WH P ops ws Q fuel (listed.setIfInBounds i ar) n (gG env d fO) w):WH P ops ws Q (fuel+1) listed n env w:=
 wh_first (o:=⟨d,op,ty,pos,af,g⟩) f c b a j (.inr ⟨e,rfl⟩) h
theorem wh_done{ws:ao}(a:cN .any ops listed=[])(h:Q .normal (act n env) w):WH P ops ws Q fuel listed n env w:=⟨wpAnyH_done a (NoPanic.normal h) fuel⟩
def after(P:ca)(ops:Array ef)(ws:ao)(Q:fh->Act->ao->Prop)(fuel:Nat)(listed:Array Bool):fh->Act->ao->Prop:=
 selK (fun a' w'=>Grow ws w'/\qY P .any ops (pd Q) (Grow ws) fuel listed a' w') (pd Q)
theorem ed{ws:ao}(a:Grow ws w)(h:WH P ops ws Q fuel listed n env w):after P ops ws Q fuel listed .normal (act n env) w:=⟨a,h.out⟩
theorem Ib{K:Act->ao->Prop}{Q1:fh->Act->ao->Prop}(l:ops[i]? =aj ⟨d,op,ty,pos,af,g⟩)(k:cp ⟨d,op,ty,pos,af,g⟩ (ej ops (act n env).tmps)=ar)
    (h:WL P ops (selK K Q1) [⟨d,op,ty,pos,af,aE⟩] n env w):wpOp P ops Q1 i K (act n env) w:=by
  unfold wpOp;simp only[l,k,if_true];have b:=h.out;unfold nk at b;rw[if_pos (show cp _ _=ar from rfl)]at b;rcases b with b|⟨ha,hl⟩
  rotate_left
  · exact .inr ⟨ha,let ⟨a,w,h⟩:=hl;⟨a,w,h⟩⟩
  refine .inl ?_;unfold qE at b⊢;have e:(bl (act n env).eval ⟨d,op,ty,pos,af,g⟩)=bl (act n env).eval ⟨d,op,ty,pos,af,aE⟩:=by unfold bl;rfl
  rw[e];generalize (bl (act n env).eval ⟨d,op,ty,pos,af,aE⟩).run P w=r at b⊢;cases r with
  |ok nx w'=>
    cases nx with
    |value v=>exact b
    |skip=>exact b
    |defer d=>exact b
    |enter f args=>
      refine Calls.mono b fun e m j=>?_;cases e with
      |returned v=>exact j
      |panicked c=>exact j
      |outgrown=>exact j
    |row r args=>exact b
    |_=>exact b
  |halt x w'=>
    cases x<;>exact b
theorem wh_eff{ws:ao}(i:Nat)(c:cN .any ops listed=[i])(e:ops[i]? =aj ⟨d,op,ty,pos,af,g⟩)(b:cp ⟨d,op,ty,pos,af,g⟩ (ej ops (act n env).tmps)=ar)
  (h:WL P ops (after P ops ws Q fuel (listed.setIfInBounds i ar)) [⟨d,op,ty,pos,af,aE⟩] n env w):WH P ops ws Q (fuel+1) listed n env w:=by
 refine⟨nq c zq3 fun k a=>?_⟩;obtain rfl:k=i:=by simpa using a
 exact Ib e b h
theorem JB{ws:ao}{m:Option Nat}{e:Op}{b:ba}{a:String}{c:Array hH}{o:Option (Nat×Bool)}(i j:Nat)(t:cN .any ops listed=[i,j])(q:ops[i]? =aj ⟨d,op,ty,pos,af,g⟩)(r:cp ⟨d,op,ty,pos,af,g⟩ (ej ops (act n env).tmps)=ar)
    (p:ops[j]? =aj ⟨m,e,b,a,c,o⟩) (l:cp ⟨m,e,b,a,c,o⟩ (ej ops (act n env).tmps)=ar)
    (h:WL P ops (after P ops ws Q fuel (listed.setIfInBounds i ar)) [⟨d,op,ty,pos,af,aE⟩] n env w) (s:WL P ops (after P ops ws Q fuel (listed.setIfInBounds j ar)) [⟨m,e,b,a,c,aE⟩] n env w):WH P ops ws Q (fuel+1) listed n env w:=by
  refine⟨nq t zq3 fun k f=>?_⟩;rcases bn.1 f with rfl|f
  · exact Ib q r h
  · obtain rfl:k=j:=by simpa using f
    exact Ib p l s
theorem wh_base{ws:ao}(a:Grow ws w)(h:WH P ops w Q fuel listed n env w):WH P ops ws Q fuel listed n env w:=⟨held_weak (fun _ h=>a.trans h) _ _ _ _ h.out⟩
variable{w':ao}{rest:List ef}{T:ba}{x y:bo}
theorem yE{α:Type}{R:lL α}{E:ba}{f c:Nat}{a:Array (Nat×bo)}{len:Nat}{vs:List al}{xs:List α}(h:SH w0 M K w hp)(i:Nat)(r:kJ P T E f c)(s:R.sz=f)
  (t:(a.toList.map fun p=>(p.1,ev n env p.2))=vs.zipIdx.map fun p=>(p.2,p.1)) (e:vs.length=len) (q:KF R w (SH.A M hp) vs xs) (l:ld (len*f) 16777216=ar)
  (k:∀w' u,SH w0 M K w' (bW hp i (.own R E u xs))->Grow w w'->(∀b,ob u b->w.heap.size<=b)->WL P ops Q rest n (gG env d u) w'):
  WL P ops Q (⟨d,.buildSlice T len a,ty,pos,af,aE⟩::rest) n env w:=by
 obtain⟨u,w',v,o,x,m⟩:=run_bs (d:=d) (ty:=ty) (pos:=pos) (af:=af) (g:=aE) r s t e q h.lt<|gn l;exact J v<|k w' u (h.vO i o x fun b j=>lA<|m b j) o fun b j=>lA<|m b j
theorem bL.fresh{a b c:ao}{N:BS}(h:Grow a b)(k:bL N b c)(hN:∀x,N x->a.heap.size<=x):Grow a c:=h.step k (fun x d e=>by have:=hN x d;omega)
end
open Go.RowKit Go.Deep
def Nr{α:Type}(P:ca)(T:ba)(R:lL α):Prop:=
 ∀(a:Type) (enc:ba×al->a) (w:ao) (b:Nat->Bool) (c:Bool) (fuel:Nat) (cs:List al) (x:DataW a×List ph),DataW.trod enc P w 0 b c fuel T cs=aj x->∃d,R.rd w BE cs d
theorem opens_int{P:ca}{T:ba}(d:P.underlying T=aj (.int .i64)):Nr P T bZ:=by
 intro a enc w b c fuel cs x h;obtain⟨n,rfl,_,e⟩:=DataW.trod_int d h;exact⟨n,Z⟩
theorem JC{α:Type}{P:ca}{T E:ba}{R:lL α}(X:P.underlying T=aj (.slice E))(S:P.cellsOf E=R.sz)(h:Nr P E R):Nr P T (yf R):=by
  intro c enc w s C fuel cs x hx;rcases open_slice X hx with⟨rfl,rfl⟩|⟨a,len,cap,m,n,D,Pl,rfl,_,hl,hm,hmm,rfl,hel⟩
  · exact⟨[],_,Z,eD.nil⟩
  · have a0:len<=m:=by rw[hmm];split<;>omega
    have B:∀i,i<len->∃d:α,∃b o cells F q,a=⟨b,o,aE⟩/\w.heap[b]? =aj (.cells cells F q)/\R.rd w BE ((cells.toList.drop<|o+i*R.sz).take R.sz) d:=by
      intro i l;obtain⟨g,O,h2⟩:=hel i V;obtain⟨d,hd⟩:=h c enc w s C n g _ h2;refine⟨d,?_⟩;rw[S]at O;obtain⟨_,N,r⟩:=qn O;have hp:=R.pos;have G:a.spot=none:=by
        obtain⟨A,g1,_⟩:=hel 0 V;rw[S]at g1;obtain⟨_,Q,p⟩:=qn g1;have K:=p 0 hp;rw[pf,add_add,fX]at K;have:∃v,A[0]? =aj v:=⟨A[0]'V,bh V⟩;obtain⟨v,M⟩:=this;rw[M]at K;have:=World.cell?_spot K;simpa[gR]using this
      obtain⟨b,o,sp⟩:=a;simp only at G;subst G;have y:∀k,(⟨b,o,aE⟩:ks).add k=⟨b,o+k,aE⟩:=by
        intro k;unfold gR;split<;>simp_all
      have z:∀j,j<R.sz->w.cell? ⟨b,o+i*R.sz+j,aE⟩=g[j]? :=by
        intro j u;have:=r j u;rw[add_add,y]at this;rw[<-this,jz]
      have I:=z 0 hp;have M:g[0]? =aj (g[0]'V):=bh V;rw[M]at I;unfold eV at I;cases t:w.heap[b]? with
      |none=>simp[t]at I
      |some ob=>
        cases ob with
        |cells cells F q=>
          refine⟨b,o,cells,F,q,Z,t,?_⟩;have e:(cells.toList.drop<|o+i*R.sz).take R.sz=g:=by
            apply dk;intro j;rw[cf,cw];by_cases u:j<R.sz
            · rw[if_pos u,<-z j u];simp[eV,t]
            · rw[if_neg u,bw V]
          rw[e];exact hd
        |_=>simp[t]at I
    obtain⟨f,hf⟩:∃f:(i:Nat)->i<len->α,∀i l,∃b o cells F q,a=⟨b,o,aE⟩/\w.heap[b]? =aj (.cells cells F q)/\R.rd w BE ((cells.toList.drop<|o+i*R.sz).take R.sz) (f i l):=
      ⟨fun i l=>Classical.choose (B i l),fun i l=>Classical.choose_spec (B i l)⟩
    refine⟨List.ofFn fun i:Fin len=>f i.val i.isLt,_,Z,aj a,cap,by simp,by simpa using hl,hm,(fun h=>by cases h),?_⟩;intro i l;have L:i<len:=by simpa using l
    obtain⟨b,o,cells,F,q,rfl,t,hr⟩:=hf i L;refine⟨b,o,cells,F,q,Z,fun h=>h,t,?_⟩;simpa using hr
theorem QR{a:Type}{enc:ba×al->a}{P:ca}{w:ao}{b:Nat->Bool}{c:Bool}{T:ba}{g:Array Field}{fuel:Nat}{cs:List al}{x:DataW a×List ph}(k:P.underlying T=aj (.struct g))(h:DataW.trod enc P w 0 b c fuel T cs=aj x):
    cs.length=P.cellsOf T/\∃n:Nat,∀(i:Nat) (f:Field),g[i]? =aj f->∃y:DataW a×List ph,DataW.trod enc P w 0 b c n f.type ((cs.drop f.offset).take (P.cellsOf f.type))=aj y:=by
  obtain⟨xs,n,_,_,l,j,m⟩:=DataW.trod_struct k h;refine⟨l,n,fun i f d=>?_⟩;have:=m i f d;have e:i<xs.length:=by
    rw[j];rcases cD i g.size with h1|h1
    · exact h1
    · rw[la h1]at d;cases d
  rw[bh e]at this;exact⟨_,this⟩
theorem oM{α:Type}{a:Type}{enc:ba×al->a}{P:ca}{w:ao}{b:Nat->Bool}{c:Bool}{e:Array Field}{n:Nat}{cs:List al}{R:lL α}{i:Nat}{f:Field}
  (h:∀(i:Nat) (f:Field),e[i]? =aj f->∃y:DataW a×List ph,DataW.trod enc P w 0 b c n (Field.type f) ((cs.drop f.offset).take (P.cellsOf f.type))=aj y) (j:e[i]? =aj f) (l:P.cellsOf f.type=R.sz) (k:Nr P f.type R):
  ∃d,R.rd w BE ((cs.drop f.offset).take R.sz) d:=by
 obtain⟨y,g⟩:=h i f j;rw[l]at g;exact k a enc w b c n _ _ g
theorem cells_one{l:List al}{o:Nat}{v:al}(h:(l.drop o).take 1=[v]):l[o]? =aj v:=by
 have:=congrArg (fun l=>l[0]?) h;simpa[cf,cw]using this
theorem Ns{α:Type}{l:List α}{n:Nat}(h:l.length=n+1):∃a t,l=a::t/\t.length=n:=by
 cases l with
 |nil=>simp at h
 |cons a t=>exact⟨a,t,rfl,by simpa using h⟩
theorem nobody{w:ao}:∀b,BE b->b<w.heap.size:=fun _ h=>h.elim
open Go.RowKit Go.MapKept
def QS(z:al)(jO:List (Int×al))(k:Int):Value:=match jO with|[]=>z|p::r=>if k=p.1 then p.2 else QS z r k
def NH(jO:List (Int×al))(k:Int)(v:al):List (Int×al):=match jO with|[]=>[(k,v)]|p::r=>if k=p.1 then(p.1,v)::r else p::NH r k v
def ahas(jO:List (Int×al))(k:Int):Bool:=match jO with|[]=>aq|p::r=>if k=p.1 then ar else ahas r k
def QT(jO:List (Int×al))(k:Int)(i:Nat):Option (Nat×al):=match jO with|[]=>aE|p::r=>if k=p.1 then aj (i,p.2)else QT r k (i+1)
theorem GI{jO:List (Int×al)}{k:Int}:∀{a:List se} {i:Nat},a.map (fun e=>(e.key,e.val))=jO.map (fun p=>(dp .i64 p.1,p.2))->
    sX (.int .i64) (.int .i64 k) a i=aj (QT jO k i):=by
  induction jO with
  |nil=>intro a i h;cases a with|nil=>rfl|cons e r=>simp at h
  |cons p r ih=>
    intro a i h;cases a with
    |nil=>simp at h
    |cons e s=>
      simp only[ck,List.cons.injEq,iq]at h;obtain⟨⟨c,f⟩,d⟩:=h;unfold sX QT;by_cases b:k=p.1
      · simp[sY,c,f,b]
      · have:(k==p.1)=false:=by simpa using b
        simp[sY,c,this,b,ih d]
theorem Ye{z:al}{k:Int}:∀{jO:List (Int×al)} {i:Nat},QS z jO k=match QT jO k i with|some (_,v)=>v|none=>z
  |[],i=>rfl
  |p::r,i=>by
    unfold QS QT;by_cases a:k=p.1
    · simp[a]
    · simp only[a,if_false];exact Ye
theorem UL{k:Int}{v:al}:∀{jO:List (Int×al)} {i:Nat},QT jO k i=aE->NH jO k v=jO++[(k,v)]
  |[],i,_=>rfl
  |p::r,i,h=>by
    unfold QT at h;unfold NH;by_cases a:k=p.1
    · simp[a]at h
    · simp only[a,if_false]at h⊢;rw[UL h];rfl
theorem UM{k:Int}{v u:al}:∀{jO:List (Int×al)} {i j:Nat},QT jO k i=aj (j,u)->i<=j/\∃p,jO[j-i]? =aj p/\p.1=k/\NH jO k v=jO.set (j-i) (k,v)
  |[],i,j,h=>by cases h
  |p::r,i,j,h=>by
    unfold QT at h;unfold NH;by_cases a:k=p.1
    · simp only[a,if_true,eI,iq]at h;obtain⟨rfl,_⟩:=h;refine⟨bt _,p,by simp,a.symm,?_⟩;simp[a]
    · simp only[a,if_false]at h⊢;obtain⟨e,q,d,c,b⟩:=UM (v:=v) h;refine⟨by omega,q,?_,c,?_⟩
      · rw[show j-i=(j-(i+1))+1 by omega];simpa using d
      · rw[show j-i=(j-(i+1))+1 by omega,b];simp
section
variable{P:ca}{ops:Array ef}{Q:fh->Act->ao->Prop}{n:Nat}{env:Nat->al}{w w' w0:ao}{M K:BS}{hp:Nat->Chunk}{rest:List ef}
 {d:Option Nat} {op:Op} {ty:ba} {pos:String} {af:Array hH} {v:al} {g:Option (Nat×Bool)} {T:ba} {ρ:bo->al}
structure MapOf(P:ca)(T:ba)(z:al):Prop where
  desc:∃K E,P.underlying T=aj (.map K E)/\P.underlying K=aj (.int .i64)/\(P.info? E).map (·.zero)=aj (aj z)
theorem r_makeMap:(bl ρ ⟨d,.makeMap T aE,ty,pos,af,g⟩).run P w=.ok (.value (.map (aj w.heap.size))) (w.alloc (.map #[] 0)):=by
 simp[bl,Instr.makeMap,ke,-hX]
theorem ckInt{e:Bool}{K:ba}{k:Int}(a:P.underlying K=aj (.int .i64)):(Instr.checkKey e 10000 K (.int .i64 k)).run P w=.ok () w:=
 run_checkKey a (by trivial) e 9999
theorem Mc.push{b:Array se}{c:Nat}(h:Mc b c)(k v:al):Mc (b.push {key:=k,val:=v,born:=c}) (c+1):=by
  refine⟨fun e a=>?_,?_⟩
  · simp only[qo,cR,eS]at a;rcases a with a|rfl
    · exact Nat.lt_succ_of_lt<|h.1 e a
    · exact sk c
  · rw[qo,List.map_append,List.nodup_append];refine⟨h.2,by simp,fun x f y d=>?_⟩;simp only[ck,ep,eS]at d;obtain⟨e,a,rfl⟩:=dL.1 f;have:=h.1 e a;omega
theorem Mc.modify{a:Array se}{c:Nat}(h:Mc a c)(j:Nat)(k v:al):Mc (a.modify j fun e=>{e with key:=k,val:=v}) c:=by
  have e:(a.modify j fun e=>{e with key:=k,val:=v}).toList.map (·.born)=a.toList.map (·.born):=by
    apply dk;intro i;simp only[eg,iu,ga];by_cases d:j=i
    · subst d;cases a[j]? <;>simp
    · simp[d]
  refine⟨fun x g=>?_,by rw[e];exact h.2⟩;have:x.born∈(a.modify j fun e=>{e with key:=k,val:=v}).toList.map (·.born):=dL.2 ⟨x,g,Z⟩;rw[e]at this;obtain⟨y,f,b⟩:=dL.1 this;rw[<-b];exact h.1 y f
theorem Yf{z:al}{x y:bo}{b:Nat}{k:Int}{jO:List (Int×al)}(s:MapOf P T z)(u:ρ x=.map (aj b))(r:ρ y=.int .i64 k)(f:Jz w b jO):
  (bl ρ ⟨d,.lookup T x y aq,ty,pos,af,g⟩).run P w=.ok (.value (QS z jO k)) w:=by
 obtain⟨K,E,n,j,h⟩:=s.desc;obtain⟨m,a,f,q,o⟩:=f;obtain⟨i,c,hz⟩:∃i,P.info? E=aj i/\i.zero=aj z:=by
  cases c:P.info? E with
  |none=>simp[c]at h
  |some i=>simp[c]at h;exact⟨i,Z,h⟩
 have t:=GI (k:=k) (i:=0) q;have l:(kn b).run P w=.ok (.map m a) w:=by simp[kn,kh,f]
 rw[Ye (z:=z) (k:=k) (jO:=jO) (i:=0)];simp only[bl,td,cA,u,r];have v:=fun e=>ckInt (P:=P) (w:=w) (e:=e) (K:=K) (k:=k) j;simp only[cv,fy,bp,n,da,l,v,iz,cA,j,t];cases ha:QT jO k 0 with
 |none=>simp[jF,dy,c,hz]
 |some p=>simp
theorem SL{z:al}{x y u:bo}{b:Nat}{k:Int}{jO:List (Int×al)}(hT:MapOf P T z)(S:ev n env x=.map (aj b))(R:ev n env y=.int .i64 k)(O:ev n env u=v)(f:Jz w b jO)
    (h:∀w',bL (fun x=>x=b) w w'->Jz w' b (NH jO k v)->WL P ops Q rest n (gG env d fO) w'):
    WL P ops Q (⟨d,.mapUpdate T x y u,ty,pos,af,aE⟩::rest) n env w:=by
  obtain⟨K,E,M,G,h3⟩:=hT.desc;obtain⟨c,a,f,o,m⟩:=f;have A:=GI (k:=k) (i:=0) o;have L:(kn b).run P w=.ok (.map c a) w:=by simp[kn,kh,f]
  have r:=iW f;have X:=fun e=>ckInt (P:=P) (w:=w) (e:=e) (K:=K) (k:=k) G;have s:c.toList.length=jO.length:=by have:=congrArg fa o;simpa using this
  cases ha:QT jO k 0 with
  |none=>
    refine Bg (w':=wW w b<|.map (c.push {key:=.int .i64 k,val:=v,born:=a})<|a+1) ?_<|h _ (bL.wW _ _ _) ⟨_,_,vP r,?_,m.push _ _⟩
    · rw[ha]at A;simp only[bl,lo,cA,S,R,O];simp only[cv,fy,bp,M,da,L,X,iz,cA,G,A,run_setObj_map _ f];rfl
    · rw[UL ha];simp[o]
  |some p=>
    obtain⟨j,u0⟩:=p;obtain⟨_,q,t,F,hset⟩:=UM (v:=v) ha;simp only[Nat.sub_zero]at t hset;have B:j<c.size:=by
      have g:j<jO.length:=by
        rcases cD j jO.length with g|g
        · exact g
        · rw[bw g]at t;cases t
      simpa[<-s]using g
    have hkey:c[j].key=.int .i64 k:=by
      have I:=congrArg (fun l=>l[j]?) o;simp[t,B]at I;rw[I.1,F]
    refine Bg (w':=wW w b<|.map (c.modify j fun e=>{e with key:=.int .i64 k,val:=v}) a) ?_<|h _ (bL.wW _ _ _) ⟨_,_,vP r,?_,m.modify _ _ _⟩
    · rw[ha]at A;have C:(jM (.int .i64 k)<|.int .i64 k).run P w=.ok (.int .i64 k) w:=by simp[jM,sl]
      simp only[bl,lo,cA,S,R,O];simp only[cv,fy,bp,M,da,L,X,iz,cA,G,A,oa B,db,eL,hkey,C,run_setObj_map _ f];rfl
    · rw[hset,List.map_set,<-o];apply dk;intro i;simp only[eg,iu,ga,ff,cF,ct];by_cases N:j=i
      · subst N;simp[B]
      · simp[N]
theorem wl_insert{z:al}{x y u:bo}{b:Nat}{k:Int}{jO:List (Int×al)}(hT:MapOf P T z)(S:ev n env x=.map (aj b))(R:ev n env y=.int .i64 k)(O:ev n env u=v)(f:Jz w b jO)
    (h:∀w',bL (fun x=>x=b) w w'->Jz w' b (NH jO k v)->WL P ops Q rest n (gG env d fO) w'):
    WL P ops Q (⟨d,.insert T x y u,ty,pos,af,aE⟩::rest) n env w:=by
  obtain⟨K,E,M,G,h3⟩:=hT.desc;obtain⟨c,a,f,o,m⟩:=f;have A:=GI (k:=k) (i:=0) o;have L:(kn b).run P w=.ok (.map c a) w:=by simp[kn,kh,f]
  have r:=iW f;have X:=fun e=>ckInt (P:=P) (w:=w) (e:=e) (K:=K) (k:=k) G;have s:c.toList.length=jO.length:=by have:=congrArg fa o;simpa using this
  cases ha:QT jO k 0 with
  |none=>
    refine Bg (w':=wW w b<|.map (c.push {key:=.int .i64 k,val:=v,born:=a})<|a+1) ?_<|h _ (bL.wW _ _ _) ⟨_,_,vP r,?_,m.push _ _⟩
    · rw[ha]at A;simp only[bl,lo,cA,S,R,O];simp only[cv,fy,bp,M,da,L,X,iz,cA,G,A,run_setObj_map _ f];rfl
    · rw[UL ha];simp[o]
  |some p=>
    obtain⟨j,u0⟩:=p;obtain⟨_,q,t,F,hset⟩:=UM (v:=v) ha;simp only[Nat.sub_zero]at t hset;have B:j<c.size:=by
      have g:j<jO.length:=by
        rcases cD j jO.length with g|g
        · exact g
        · rw[bw g]at t;cases t
      simpa[<-s]using g
    have hkey:c[j].key=.int .i64 k:=by
      have I:=congrArg (fun l=>l[j]?) o;simp[t,B]at I;rw[I.1,F]
    refine Bg (w':=wW w b<|.map (c.modify j fun e=>{e with key:=.int .i64 k,val:=v}) a) ?_<|h _ (bL.wW _ _ _) ⟨_,_,vP r,?_,m.modify _ _ _⟩
    · rw[ha]at A;have C:(jM (.int .i64 k)<|.int .i64 k).run P w=.ok (.int .i64 k) w:=by simp[jM,sl]
      simp only[bl,lo,cA,S,R,O];simp only[cv,fy,bp,M,da,L,X,iz,cA,G,A,oa B,db,eL,hkey,C,run_setObj_map _ f];rfl
    · rw[hset,List.map_set,<-o];apply dk;intro i;simp only[eg,iu,ga,ff,cF,ct];by_cases N:j=i
      · subst N;simp[B]
      · simp[N]
theorem aidx_has{k:Int}:∀{jO:List (Int×al)} {i:Nat},ahas jO k=(QT jO k i).isSome
  |[],i=>rfl
  |p::r,i=>by
    unfold ahas QT;by_cases a:k=p.1
    · simp[a]
    · simp only[a,if_false];exact aidx_has
theorem r_lookup2{z:al}{x y:bo}{b:Nat}{k:Int}{jO:List (Int×al)}(s:MapOf P T z)(u:ρ x=.map (aj b))(r:ρ y=.int .i64 k)(f:Jz w b jO):
  (bl ρ ⟨d,.lookup T x y ar,ty,pos,af,g⟩).run P w=.ok (.value (.tuple #[QS z jO k,.bool (ahas jO k)])) w:=by
 obtain⟨K,E,n,j,h⟩:=s.desc;obtain⟨m,a,f,q,o⟩:=f;obtain⟨i,c,hz⟩:∃i,P.info? E=aj i/\i.zero=aj z:=by
  cases c:P.info? E with
  |none=>simp[c]at h
  |some i=>simp[c]at h;exact⟨i,Z,h⟩
 have t:=GI (k:=k) (i:=0) q;have l:(kn b).run P w=.ok (.map m a) w:=by simp[kn,kh,f]
 rw[Ye (z:=z) (k:=k) (jO:=jO) (i:=0),aidx_has (i:=0)];simp only[bl,td,cA,u,r];have v:=fun e=>ckInt (P:=P) (w:=w) (e:=e) (K:=K) (k:=k) j;simp only[cv,fy,bp,n,da,l,v,iz,cA,j,t];cases ha:QT jO k 0 with
 |none=>simp[jF,dy,c,hz]
 |some p=>simp
def lk{α:Type}(k:Int):List (Int×α)->Option α
 |[]=>aE
 |p::r=>if k=p.1 then aj p.2 else lk k r
theorem XR{α:Type}{f:α->al}{z:α}{k:Int}:∀(l:List (Int×α)),QS (f z) (l.map fun p=>(p.1,f p.2)) k=f ((lk k l).getD z)
  |[]=>rfl
  |p::r=>by
    show(if k=p.1 then f p.2 else QS _ _ k)=f ((if k=p.1 then aj p.2 else lk k r).getD z);by_cases h:k=p.1
    · simp[h]
    · simp only[h,if_false];exact XR r
theorem ahas_lk{α:Type}{f:α->al}{k:Int}:∀(l:List (Int×α)),ahas (l.map fun p=>(p.1,f p.2)) k=(lk k l).isSome
  |[]=>rfl
  |p::r=>by
    show(if k=p.1 then ar else ahas _ k)=(if k=p.1 then aj p.2 else lk k r).isSome;by_cases h:k=p.1
    · simp[h]
    · simp only[h,if_false];exact ahas_lk r
theorem r_lk2{α:Type}{f:α->al}{zz:α}{z:al}{x y:bo}{b:Nat}{k:Int}{jO:List (Int×al)}(l:List (Int×α))(h:SH w0 M K w hp)(i:Nat)(a:hp i=.mp b jO)(j:MapOf P T z)(m:ρ x=.map (aj b))(e:ρ y=.int .i64 k)(hz:z=f zz)(c:jO=l.map fun p=>(p.1,f p.2)):
  (bl ρ ⟨d,.lookup T x y ar,ty,pos,af,g⟩).run P w=.ok (.value (.tuple #[f ((lk k l).getD zz),.bool (lk k l).isSome])) w:=by
 have:=r_lookup2 (d:=d) (ty:=ty) (pos:=pos) (af:=af) (g:=g) j m e<|h.mpAt i a;rw[hz,c,XR,ahas_lk]at this;exact this
theorem r_lk1{α:Type}{f:α->al}{zz:α}{z:al}{x y:bo}{b:Nat}{k:Int}{jO:List (Int×al)}(l:List (Int×α))(h:SH w0 M K w hp)(i:Nat)(a:hp i=.mp b jO)(j:MapOf P T z)(m:ρ x=.map (aj b))(e:ρ y=.int .i64 k)(hz:z=f zz)(c:jO=l.map fun p=>(p.1,f p.2)):
  (bl ρ ⟨d,.lookup T x y aq,ty,pos,af,g⟩).run P w=.ok (.value (f ((lk k l).getD zz))) w:=by
 have:=Yf (d:=d) (ty:=ty) (pos:=pos) (af:=af) (g:=g) j m e<|h.mpAt i a;rw[hz,c,XR]at this;exact this
theorem KH(h:SH w0 M K w hp)(i:Nat)(k:∀w' b,SH w0 M K w' (bW hp i (.mp b []))->WL P ops Q rest n (gG env d (.map (aj b))) w'):WL P ops Q (⟨d,.makeMap T aE,ty,pos,af,aE⟩::rest) n env w:=
 J r_makeMap (k _ _ (h.learn i (Grow.alloc _ _) (fun b a=>lA a.symm) ⟨#[],0,Py _ _,rfl,by simp[Mc]⟩))
theorem SH.mpSet{b:Nat}{jO vC:List (Int×al)}(h:SH w0 M K w hp)(i:Nat)(c:hp i=.mp b jO)(d:bL (fun x=>x=b) w w')(e:Jz w' b vC):SH w0 M K w' (bW hp i (.mp b vC)):=
 h.step i d (fun x a _=>by rw[c];exact a) (fun x a _=>by rw[c];exact a) e
theorem vS{z:al}{x y u:bo}{b:Nat}{k:Int}{jO vC:List (Int×al)}(h:SH w0 M K w hp)(i:Nat)(a:hp i=.mp b jO)(m:MapOf P T z)(o:ev n env x=.map (aj b))(l:ev n env y=.int .i64 k)(f:ev n env u=v)(g:NH jO k v=vC)
  (e:∀w',SH w0 M K w' (bW hp i (.mp b vC))->WL P ops Q rest n (gG env d fO) w'):WL P ops Q (⟨d,.insert T x y u,ty,pos,af,aE⟩::rest) n env w:=
 wl_insert m o l f (h.mpAt i a) fun w' j c=>e w' (h.mpSet i a j (g▸c))
theorem N7{z:al}{x y u:bo}{b:Nat}{k:Int}{jO vC:List (Int×al)}(h:SH w0 M K w hp)(i:Nat)(a:hp i=.mp b jO)(m:MapOf P T z)(o:ev n env x=.map (aj b))(l:ev n env y=.int .i64 k)(f:ev n env u=v)(g:NH jO k v=vC)
  (e:∀w',SH w0 M K w' (bW hp i (.mp b vC))->WL P ops Q rest n (gG env d fO) w'):WL P ops Q (⟨d,.mapUpdate T x y u,ty,pos,af,aE⟩::rest) n env w:=
 SL m o l f (h.mpAt i a) fun w' j c=>e w' (h.mpSet i a j (g▸c))
end
theorem SH.argPt{w:ao}{M K:BS}{hp:Nat->Chunk}{w0:ao}{b:Nat}{cs:List al}(h:SH w0 M K w hp)(i:Nat)(ho:∃E,w.heap[b]? =aj (.cells cs.toArray E (0,0)))(hn:∀b,¬iX hp b):SH w0 M K w (bW hp i (.pt b 0 cs)):=by
 obtain⟨E,ho⟩:=ho;exact h.know i (fun _ h=>h) ⟨hn b,_,_,_,ho,by simp⟩
open Go.RowKit
def hasB(s:Str)(c:UInt8):Bool:=ab (0<=Go.Lib.indexByte s c)
section
variable{P:ca}{ops:Array ef}{Q:fh->Act->ao->Prop}{n:Nat}{env:Nat->al}{w:ao}{rest:List ef}
 {d:Option Nat} {ty:ba} {pos:String} {af:Array hH} {v:al} {x:bo}
theorem Pz{f:fS}(c:List al){xs:Array bo}{u:Array ba}{args:List al}{j dj:Nat}{b a:Bool}(i:Bool)(o:(ops[j]?).bind (·.dst)=aj dj)(m:ev n env (.tmp dj)=gv i (.bool b))(r:SE P f)(s:(i&&(b==a))=ar->ev n env x=.func (.func f) #[] c.toArray)
    (t:(i&&(b==a))=ar->xs.toList.map (ev n env)++c=args) (A:bD P f args.toArray w (fun e w'=>Grow w w'/\e=.returned v))
    (k:∀w',Grow w w'->WL P ops Q rest n (gG env d (gv (i&&(b==a)) v)) w'):
    WL P ops Q (⟨d,.call {callee:=.value x,args:=xs,argTypes:=u},ty,pos,af,aj (j,a)⟩::rest) n env w:=by
  by_cases g:(i&&(b==a))=ar
  · have p:=gl g;have y:=gr g;rw[fw p]at m;have z:b=a:=by simpa using y
    subst z;refine Xa o m<|cz r (s g) (by simpa using t g) A ?_;rintro e w'⟨q,rfl⟩;refine⟨_,Z,?_⟩;have:=k w' q;rw[fw g]at this;exact this
  · have l:(i&&(b==a))=false:=by simpa using g
    have h:=k w<|bL.refl _ _;rw[l]at h;cases i with
    |true=>exact j3 o m (by simpa using l) h
    |false=>exact wl_offU o m h
theorem Yg{f:fS}(a:List al){xs:Array bo}{i:Array ba}{args:List al}{j dj:Nat}{b c:Bool}(l:(ops[j]?).bind (·.dst)=aj dj)(p:ev n env (.tmp dj)=.bool b)(m:SE P f)(o:(b==c)=ar->ev n env x=.func (.func f) #[] a.toArray)
    (g:(b==c)=ar->xs.toList.map (ev n env)++a=args) (q:bD P f args.toArray w (fun e w'=>Grow w w'/\e=.returned v))
    (k:∀w',Grow w w'->WL P ops Q rest n (gG env d (gv (b==c) v)) w'):
    WL P ops Q (⟨d,.call {callee:=.value x,args:=xs,argTypes:=i},ty,pos,af,aj (j,c)⟩::rest) n env w:=
  Pz a ar l p m (fun h=>o (by simpa using h)) (fun h=>g (by simpa using h)) q (by simpa using k)
end
open Go.RowKit
section
variable{P:ca}{ops:Array ef}{Q:fh->Act->ao->Prop}{n:Nat}{env:Nat->al}{w w' w0:ao}{M K:BS}{hp:Nat->Chunk}{rest:List ef}
 {d:Option Nat} {op:Op} {ty:ba} {pos:String} {af:Array hH} {v:al} {g:Option (Nat×Bool)} {T:ba} {ρ:bo->al}
theorem r_cap{x:bo}{T E:ba}{f:Nat}{a:Option ks}{l c:Nat}(b:SliceOf P T E f)(e:ρ x=.slice a l c):
  (bl ρ ⟨d,.call {callee:=.builtin .cap,args:= #[x],argTypes:= #[T]},ty,pos,af,g⟩).run P w=.ok (.value (.int .i64 c)) w:=by
 simp[bl,gS,jx,iU,Builtin.cap_,e,cA,b.desc,goInt]
theorem NI(w:ao)(t s ty e:ba)(i:TypeInfo)(z:al)(x:P.underlying t=aj (.slice e))(p:P.underlying s=aj (.int .i64))(y:P.info? e=aj i)(hz:i.zero=aj z)(F:0<i.size)
  (b:ks) (a c:Nat) (d:List al) (o:d.length=a*i.size) (holds:∀j v,d[j]? =aj v->w.cell? (b.add j)=aj v)
  (n:Nat) (C:0<n) (E:c<a+n) (A:((a+n:Nat):Int)<=9223372036854775807) (r:iw (a+n) c*i.bytes<=281474976710656) (B:n*i.bytes<=281474976710656):
  (gA #[t,s] ty #[.slice (aj b) a c,.int .i64 n]).run P w=
   .ok (.slice (aj ⟨w.heap.size,0,aE⟩) (a+n) (gE w (a+n) c e))
    (w.drew.alloc (.cells (d.toArray++cy z.cells n++cy z.cells (gE w (a+n) c e-(a+n))) e)):=by
 have hn:¬(a+n<=c):=by omega
 have f:n≠0:=by omega
 have h:¬(9223372036854775807<((a:Int)+(n:Int))):=by omega
 have g:¬(281474976710656<iw (a+n) c*i.bytes):=by omega
 have u:IntKind.i64.wrap (n:Int)=n:=by rw[IntKind.wrap_i64];omega
 have l:¬(281474976710656<(n:Int)*(i.bytes:Int)):=by
  rw[<-s7];omega
 have k:¬((n:Int)<0):=by omega
 have m:¬(n*i.size=0):=Nat.mul_ne_zero f V;have q:=run_firstCells_some (P:=P) w.drew i.size a b a c d o (by simpa using holds);simp[gA,pj x,pj p,ft,dy,jF,y,hz,asInt,ia,u,hn,f,k,m,h,g,l,Question.forced,q,qS,gE]
theorem wl_growRaw{x y:bo}{E s:ba}{e c gg cap a k:Nat}{b:List al}(N:kJ P T E e c)(O:P.underlying s=aj (.int .i64))(L:Raw w gg cap e E b)(hx:ev n env x=.slice (aj ⟨gg,0,aE⟩) a cap)(X:ev n env y=.int .i64 (k:Nat))(hs:0<e)(t:a<=cap)(hk:0<k)(R:cap<a+k)
    (hb:(a+k)*c<=140737488355328) (K:a+k<=kt)
    (h:∀w' g2 f g,Grow w w'->w.heap.size<=g2->a+k<=f->Raw w' g2 f e E g->g.take (a*e)=b.take (a*e)->WL P ops Q rest n (gG env d (.slice (aj ⟨g2,0,aE⟩) (a+k) f)) w'):
    WL P ops Q (⟨d,.call {callee:=.builtin .append,args:= #[x,y],argTypes:= #[T,s]},ty,pos,af,aE⟩::rest) n env w:=by
  obtain⟨i,z,S,hz,G,l,A⟩:=N.info;have M:a*e<=cap*e:=bd _ t;have I:=L.len;have o:(b.take<|a*e).length=a*e:=by rw[cd];omega
  have holds:∀j u,(b.take<|a*e)[j]? =aj u->w.cell? ((⟨gg,0,aE⟩:ks).add j)=aj u:=by
    intro j u r;rw[addr_add,fX];rw[cf]at r;split at r
    · simp[eV,L.blk,r]
    · cases r
  have v:((a+k:Nat):Int)<=9223372036854775807:=by simp only[kt]at K;omega
  have F:iw (a+k) cap<=2*(a+k):=by
    exact nextslicecap_le V
  have p:iw (a+k) cap*i.bytes<=281474976710656:=by
    have:=bd i.bytes F;rw[Nat.mul_assoc,l]at this;rw[l];omega
  have C:k*i.bytes<=281474976710656:=by
    rw[l];have:k*c<=(a+k)*c:=bd _ V;omega
  have m:=NI (P:=P) w T s ty E i z N.desc O S hz V ⟨gg,0,aE⟩ a cap (b.take (a*e)) (by rw[G];exact o) holds k hk R v p C;have q:(bl (ev n env) ⟨d,.call {callee:=.builtin .append,args:= #[x,y],argTypes:= #[T,s]},ty,pos,af,aE⟩).run P w=.ok (.value<|.slice (aj ⟨w.heap.size,0,aE⟩) (a+k)<|gE w (a+k) cap E) (w.drew.alloc<|.cells ((b.take<|a*e).toArray++cy z.cells k++cy z.cells (gE w (a+k) cap E-(a+k))) E):=by
    simp only[bl,gS,jx,iU,cv,da,bp,fL,ck,ep,hx,X,m]
  have hge:=grownCap_ge w (a+k) cap E;have B:gE w (a+k) cap E<=maxLen:=te w (a+k) cap E K;refine J q<|h _ _ _ ((b.take<|a*e)++(cy z.cells k).toList++(cy z.cells<|gE w (a+k) cap E-(a+k)).toList) ?_ (bt _) hge ⟨?_,?_,B⟩ ?_
  · exact(Grow.drew w).trans<|Grow.alloc _ _
  · have:=heap_alloc_new w.drew<|.cells ((b.take<|a*e).toArray++cy z.cells k++cy z.cells (gE w (a+k) cap E-(a+k))) E;rw[show((b.take (a*e))++(cy z.cells k).toList++(cy z.cells (gE w (a+k) cap E-(a+k))).toList).toArray=((b.take (a*e)).toArray++cy z.cells k++cy z.cells (gE w (a+k) cap E-(a+k))) by apply lf;simp];exact this
  · rw[bc,bc,o,ct,ct,ku,ku,A,<-cj,<-cj];congr 1;omega
  · rw[cg,cX V,ie V]
theorem run_copyN(w:ao)(dT p ty e:ba)(i:TypeInfo)(g o c f:Nat)(a:ks)(d k:Nat)(b:Array al)(t:ba)(cs:List al)
  (n:P.underlying dT=aj (.slice e)) (q:P.info? e=aj i)
  (r:w.heap[g]? =aj (.cells b t (0,0))) (hn:cs.length=iS d c*i.size)
  (h:∀j v,cs[j]? =aj v->w.cell? (a.add j)=aj v) (l:o+cs.length<=b.size) (s:∀v∈cs,v.oneCell'=ar):
  (rB #[dT,p] ty #[.slice (aj ⟨g,o,aE⟩) c f,.slice (aj a) d k]).run P w=
   .ok (goInt (iS d c)) (w.setRow g (b.toList.take o++cs++b.toList.drop (o+cs.length)).toArray):=by
 have u:=tb (P:=P) w a cs h;have m:=nz P g o t cs 0 b w r (by simpa using l) s;simp[rB,pj n,nA,mj,ft,dy,q,<-hn,u,m]
theorem Mg{x y:bo}{E t:ba}{b k gg cap o dl dc m c:Nat}{a news:List al}{ad:ks}(A:kJ P T E b k)(l:Raw w gg cap b E a)(K:ev n env x=.slice (aj ⟨gg,o*b,aE⟩) dl dc)(G:ev n env y=.slice (aj ad) m c)
  (v:news.length=iS m dl*b) (g:∀j u,news[j]? =aj u->w.cell? (ad.add j)=aj u) (I:∀u∈news,u.oneCell'=ar) (p:o+iS m dl<=cap)
  (h:∀w',bL (fun x=>x=gg) w w'->Raw w' gg cap b E (a.take (o*b)++news++a.drop (o*b+news.length))->WL P ops Q rest n (gG env d (.int .i64 (iS m dl:Nat))) w'):
  WL P ops Q (⟨d,.call {callee:=.builtin .copy,args:= #[x,y],argTypes:= #[T,t]},ty,pos,af,aE⟩::rest) n env w:=by
 obtain⟨i,z,C,hz,r,F,B⟩:=A.info;have f:=l.len;have s:o*b+news.length<=cap*b:=by rw[v,<-cj];exact bd _ p
 have e:=run_copyN (P:=P) w T t ty E i gg (o*b) dl dc ad m c a.toArray E news A.desc C l.blk (by rw[r];exact v) g (by simpa[f]using s) I;rw[JA l.blk]at e;have q:(bl (ev n env) ⟨d,.call {callee:=.builtin .copy,args:= #[x,y],argTypes:= #[T,t]},ty,pos,af,aE⟩).run P w=.ok (.value<|.int .i64 (iS m dl:Nat)) (wW w gg<|.cells (a.take (o*b)++news++a.drop (o*b+news.length)).toArray E (0,0)):=by
  simp only[bl,gS,jx,iU,cv,da,bp,fL,ck,ep,K,G,e];rfl
 refine J q<|h _ (bL.wW _ _ _) ⟨vP<|iW l.blk,?_,l.le⟩;rw[bc,bc,cd,cI,f];omega
structure OverFn(P:ca)(f:fS)(T B:ba):Prop where
 out:∀(args:Array al) (w:ao),(callFunc f args).run P w=((Extern.SlicesOverlaps.overlaps #[T,T] #[B] args).run P w).andThen fun v w'=>.ok (.value v) w'
theorem wl_overlaps{x:bo}{xs:Array bo}{A:Array ba}{f:fS}{E B:ba}{j e g1 g2 c2 o1 o2 m1 m2 k1 k2:Nat}{a b:List al}{s:ba}(y:OverFn P f T B)(r:kJ P T E j e)(k:w.heap[g1]? =aj (.cells a.toArray s (0,0)))(q:Raw w g2 c2 j E b)(o:g1≠g2)(p:0<c2*j)
  (C:ev n env x=.func (.func f) #[] #[]) (m:xs.toList.map (ev n env)=[.slice (aj ⟨g1,o1,aE⟩) m1 k1,.slice (aj ⟨g2,o2,aE⟩) m2 k2])
  (h:WL P ops Q rest n (gG env d (.bool aq)) w):
  WL P ops Q (⟨d,.call {callee:=.value x,args:=xs,argTypes:=A},ty,pos,af,aE⟩::rest) n env w:=by
 obtain⟨i,z,u,hz,l,v,t⟩:=r.info;have ho:=Lib.run_overlaps_apart (P:=P) w T B E r.desc j (fun w=>by simp[ft,dy,u,l]) ⟨g1,o1,aE⟩ ⟨g2,o2,aE⟩ m1 k1 m2 k2 o s E a.length b.length (by simp[tf,k]) (by simp[tf,q.blk]) (by rw[q.len];omega) (by simp[oe,k]) (by simp[oe,k]);have g:xs.map (ev n env)= #[.slice (aj ⟨g1,o1,aE⟩) m1 k1,.slice (aj ⟨g2,o2,aE⟩) m2 k2]:=by
  apply lf;simpa using m
 have c:=y.out #[.slice (aj ⟨g1,o1,aE⟩) m1 k1,.slice (aj ⟨g2,o2,aE⟩) m2 k2] w;rw[ho]at c;refine J ?_ h;simp only[bl,gS,C,Deferred.ofValue,jx];simp[g,c]
end
open Go.RowKit
section
variable{β:Type}
theorem ins_l1{C X:List β}{p s:Nat}(a:X.length=s)(hp:p<=C.length):(C.take p++X++C.drop (p+s)).take (p+s)=C.take p++X:=by
 have h:(C.take p++X).length=p+s:=by simp[a];omega
 rw[<-h,iv]
theorem ins_l2{B a R:List β}{p q:Nat}(c:p<=B.length)(b:a.length=q):(B.take p++a++R).take (p+q)=B.take p++a:=by
 have h:(B.take p++a).length=p+q:=by simp[b];omega
 rw[<-h,iv]
theorem ins_l3{C X a R:List β}{p s q:Nat}(b:X.length=s)(hp:p+s<=C.length)(c:a.length=q):
  ((C.take (p+s)++a++R).take p++X++(C.take (p+s)++a++R).drop (p+s)).take (p+s+q)=C.take p++X++a:=by
 have d:(C.take<|p+s).length=p+s:=by simp;omega
 have e:(C.take (p+s)++a++R).take p=C.take p:=by
  rw[cg,cX V,eb,cP V]
 have f:(C.take (p+s)++a++R).drop (p+s)=a++R:=by
  rw[cg];exact sn d
 rw[e,f,<-cg];have g:(C.take p++X++a).length=p+s+q:=by simp[b,c];omega
 rw[<-g,iv]
end
theorem raw_ins{α:Type}{R:lL α}{E:ba}{w w':ao}{A N:BS}{l:List α}{x:α}{gg g2 d i:Nat}{c g m:List al}(z:Raw w' g2 d R.sz E g)(M:bL (fun y=>y=gg) w w')(t:g2<w.heap.size->g2=gg)(S:i<=l.length)(hc:l.length+1<=d)(X:l.length*R.sz<=c.length)
    (u:∀k (h:k<l.length),R.rd w (fun b=>A b\/b=gg) ((c.drop (k*R.sz)).take R.sz) l[k]) (O:R.rd w N m x) (hN:∀b,(A b\/b=gg)->b<w.heap.size->N b) (a0:gg<w.heap.size)
    (Q:g.take (i*R.sz+R.sz+(l.length-i)*R.sz)=c.take (i*R.sz)++m++(c.drop (i*R.sz)).take ((l.length-i)*R.sz)):
    cO R E w' A (.slice (aj ⟨g2,0,aE⟩) (l.length+1) d) (l.take i++[x]++l.drop i):=by
  have e:(l.take i++[x]++l.drop i).length=l.length+1:=by simp;omega
  have o:=R.len O;have T:i*R.sz<=l.length*R.sz:=bd _ S;have n:(l.length-i)*R.sz=l.length*R.sz-i*R.sz:=ns _ _ _;have p:(c.take<|i*R.sz).length=i*R.sz:=by rw[cd];omega
  have L:(l.length+1)*R.sz=i*R.sz+R.sz+(l.length-i)*R.sz:=by rw[cj,n];omega
  have s:∀cs a,R.rd w (fun b=>A b\/b=gg) cs a->R.rd w' (fun b=>A b\/ob (.slice (aj ⟨g2,0,aE⟩) (l.length+1) d) b) cs a:=fun cs a h=>
    R.go h M (fun b f _=>.inr f) (fun b f r=>f.elim .inl (fun f=>.inr (by have:b=g2:=f;subst this;exact t r)))
  have B:R.rd w' (fun b=>A b\/ob (.slice (aj ⟨g2,0,aE⟩) (l.length+1) d) b) m x:=
    R.go O M (fun b f r=>hN b (.inr f) r) (fun b f r=>hN b (f.elim .inl (fun f=>.inr (by have:b=g2:=f;subst this;exact t r))) r)
  refine⟨c.take (i*R.sz)++m++(c.drop<|i*R.sz).take ((l.length-i)*R.sz),⟨?_,.inr ⟨g2,d,g.toArray,?_,fv _,z.blk,?_,z.le,?_,?_⟩⟩,?_⟩
  · rw[e,L,bc,bc,p,o,cd,cI,n];omega
  · rw[e]
  · rw[e];omega
  · simpa using z.len
  · rw[e,L];exact Q
  · intro k G;rw[e]at G;by_cases K:k<i
    · have q:(k+1)*R.sz<=i*R.sz:=bd _ K;rw[cj]at q;have C:=s _ _<|u k V;have v:(l.take i++[x]++l.drop i)[k]'(by rw[e];omega)=l[k]'V:=by
        rw[eN (by simp;omega),eN (by simp;omega),km]
      rw[v,cg,fR V,cX (by rw[cI];omega),eh,eb,cP V];exact C
    · by_cases F:k=i
      · subst F;have v:(l.take k++[x]++l.drop k)[k]'(by rw[e];omega)=x:=by
          rw[eN (by simp;omega),fi (by simp;omega)];simp
        rw[v,cg];have I:(c.take (k*R.sz)++(m++(c.drop<|k*R.sz).take ((l.length-k)*R.sz))).drop (k*R.sz)=m++(c.drop<|k*R.sz).take ((l.length-k)*R.sz):=by
          exact sn p
        rw[I,<-o,iv];exact B
      · obtain⟨j,rfl⟩:∃j,k=i+1+j:=⟨k-i-1,by omega⟩;have C:=s _ _<|u (i+j) V;have v:(l.take i++[x]++l.drop i)[i+1+j]'(by rw[e];omega)=l[i+j]'V:=by
          rw[fi (by simp;omega),mS];congr 1;simp;omega
        have P:(c.take (i*R.sz)++m).length=i*R.sz+R.sz:=by rw[bc,p,o]
        have I:(c.take (i*R.sz)++m++(c.drop<|i*R.sz).take ((l.length-i)*R.sz)).drop ((i+1+j)*R.sz)=((c.drop<|i*R.sz).take ((l.length-i)*R.sz)).drop (j*R.sz):=by
          rw[show(i+1+j)*R.sz=(c.take (i*R.sz)++m).length+j*R.sz by rw[P,cj,cj,nr]];rw[iy];have:(c.take (i*R.sz)++m).drop ((c.take (i*R.sz)++m).length+j*R.sz)=[]:=cC V;rw[this,cQ];congr 1;omega
        have q:(j+1)*R.sz<=(l.length-i)*R.sz:=bd _ V;rw[cj]at q;rw[v,I,eh,eb,cP V,lR,<-cj];exact C
def ins1{α:Type}(l:List α)(i:Int)(m:List α):Option (List α):=if 0<=i/\i<=l.length then aj (l.take i.toNat++m++l.drop i.toNat)else aE
theorem o_ins{α:Type}{l r m:List α}{i:Int}(h:ins1 l i m=aj r):∃a:Nat,i=a/\a<=l.length/\r=l.take a++m++l.drop a:=by
  unfold ins1 at h;by_cases hp:0<=i/\i<=l.length
  · rw[if_pos hp]at h;cases h;exact⟨i.toNat,by omega,by omega,Z⟩
  · rw[if_neg hp]at h;cases h
theorem PD{w:ao}{gg cap c:Nat}{E:ba}{a:List al}(d:Raw w gg cap c E a)(o k:Nat):∀j u,((a.drop o).take k)[j]? =aj u->w.cell? ((⟨gg,o,aE⟩:ks).add j)=aj u:=by
  intro j u b;rw[addr_add];rw[cf]at b;split at b
  · rw[cw]at b;simp[eV,d.blk,b]
  · cases b
theorem cO.srcO{α:Type}{R:lL α}{E:ba}{w:ao}{A:BS}{v:al}{l:List α}(h:cO R E w A v l):eD R w BE (fun b=>A b\/ob v b) v l:=by
  obtain⟨xs,c,d⟩:=h;rcases c.2 with⟨rfl,hn⟩|⟨g,cap,cur,rfl,e1,e2,e3,e4,e5,e6⟩
  · have:l=[]:=cm hn;subst this;exact eD.nil
  · refine⟨aj ⟨g,0,aE⟩,cap,Z,e3,e4,(fun h=>by cases h),fun i a=>⟨g,0,cur,E,(0,0),Z,fun h=>h,e2,?_⟩⟩;have:=d i a;rw[<-e6,eh,eb,cP ?_]at this
    · rw[fX];exact this
    · have:(i+1)*R.sz<=l.length*R.sz:=bd _ a;rw[cj]at this;omega
section
variable{P:ca}{ops:Array ef}{Q:fh->Act->ao->Prop}{n:Nat}{env:Nat->al}{w:ao}{rest:List ef}
 {d:Option Nat} {ty:ba} {pos:String} {af:Array hH} {v:al} {T:ba} {x y:bo}
theorem wl_appO{α:Type}{R:lL α}{E:ba}{e a:Nat}{A:BS}{u:al}{l m:List α}(o:kJ P T E e a)(p:R.sz=e)(t:cO R E w A v l)(f:eD R w BE A u m)(q:ev n env x=v)(j:ev n env y=u)
  (r:∀b,ob v b->A b) (s:(l.length+m.length)*a<=140737488355328) (h:l.length+m.length<=9223372036854775807)
  (k:∀w' c,cO R E w' A c (l++m)->bL (ob v) w w'->(∀b,ob c b->b<w.heap.size->ob v b)->WL P ops Q rest n (gG env d c) w'):
  WL P ops Q (⟨d,.call {callee:=.builtin .append,args:= #[x,y],argTypes:= #[T,T]},ty,pos,af,aE⟩::rest) n env w:=by
 obtain⟨c,w',z,C,B,i⟩:=run_app (d:=d) (ty:=ty) (pos:=pos) (af:=af) (g:=aE) o p q t j f r s h;exact J z<|k w' c C B i
end
theorem ins_av{α β:Type}{R:lL α}{R':lL β}{E g:ba}{w0 w:ao}{M K:BS}{hp:Nat->Chunk}{i j:Nat}{v u:al}{l:List α}{m:List β}(h:SH w0 M K w hp)(c:i≠j)(f:hp i=.own R E v l)(d:hp j=.own R' g u m):∀b,((M b\/rest hp i b)\/ob v b)->b<w.heap.size->(M b\/rest hp j b)\/ob u b:=by
  rintro b((a|⟨k,n,a⟩)|a)_
  · exact .inl<|.inl a
  · by_cases e:k=j
    · subst e;rw[d]at a;exact .inr a
    · exact .inl<|.inr ⟨k,e,a⟩
  · exact .inl (.inr ⟨i,c,by rw[f];exact a⟩)
open Go.RowKit
section
variable{P:ca}{ops:Array ef}
variable{Q:fh->Act->ao->Prop}{n:Nat}{env:Nat->al}{w w0:ao}{M K:BS}{hp:Nat->Chunk}
structure XT(P:ca)(ops:Array ef)(L:BS)(ws:ao)(Q:fh->Act->ao->Prop)(fuel:Nat)(listed:Array Bool)(n:Nat)(env:Nat->al)(w:ao):Prop where
 out:qY P .any ops (pd Q) (bL L ws) fuel listed (act n env) w
theorem jh{L:BS}{id:Nat}{l:List ef}(a:P.follows .mixedOrders=ar)(b:SH w0 M K w hp)
  (h:∀w,SH w0 M K w hp->XT P l.toArray L w Q l.length (nj l.length aq) n env w):WC P (fW id l.toArray ar) Q n env w:=
 ⟨wp_region_noPanic (wp_region_held (S:=bL L w.drew) a (h _ (b.grow (Grow.drew w))).out)⟩
variable{d:Option Nat}{op:Op}{ty:ba}{pos:String}{af:Array hH}{v:al}{g:Option (Nat×Bool)}{i fuel:Nat}{listed:Array Bool}
theorem whk_first{L:BS}{ws:ao}{o:ef}(e:bL L ws w)(d:ops[i]? =aj o)(c:ea ops=ar)(b:eR .any ops listed i=ar)(f:(cN .any ops listed).contains i=ar)
  (a:YieldsIf P ops (bL L ws) o v (act n env)) (h:XT P ops L ws Q fuel (listed.setIfInBounds i ar) n (gG env o.dst v) w):XT P ops L ws Q (fuel+1) listed n env w:=by
 refine⟨wpAnyH_take d c b f (fun _ _ _ h=>h) a e ?_⟩;rw[E8];exact h.out
theorem whk_ok{L:BS}{ws:ao}(i:Nat)(k:bL L ws w)(f:ops[i]? =aj ⟨d,op,ty,pos,af,g⟩)(j:cp ⟨d,op,ty,pos,af,g⟩ (ej ops (act n env).tmps)=ar)(c:ea ops=ar)(b:eR .any ops listed i=ar)(l:(cN .any ops listed).contains i=ar)
  (e:∀a,bL L ws a->(bl (ev n env) ⟨d,op,ty,pos,af,g⟩).run P a=.ok (.value v) a) (h:XT P ops L ws Q fuel (listed.setIfInBounds i ar) n (gG env d v) w):XT P ops L ws Q (fuel+1) listed n env w:=
 whk_first (o:=⟨d,op,ty,pos,af,g⟩) k f c b l (.inl ⟨j,fun a m=>by rw[gX];exact e a m⟩) h
theorem whk_done{L:BS}{ws:ao}(a:cN .any ops listed=[])(h:Q .normal (act n env) w):XT P ops L ws Q fuel listed n env w:=⟨wpAnyH_done a (NoPanic.normal h) fuel⟩
def UN(P:ca)(ops:Array ef)(L:BS)(ws:ao)(Q:fh->Act->ao->Prop)(fuel:Nat)(listed:Array Bool):fh->Act->ao->Prop:=
 selK (fun a' w'=>bL L ws w'/\qY P .any ops (pd Q) (bL L ws) fuel listed a' w') (pd Q)
theorem au{L:BS}{ws:ao}(a:bL L ws w)(h:XT P ops L ws Q fuel listed n env w):UN P ops L ws Q fuel listed .normal (act n env) w:=⟨a,h.out⟩
theorem whk_eff{L:BS}{ws:ao}(i:Nat)(b:cN .any ops listed=[i])(e:ops[i]? =aj ⟨d,op,ty,pos,af,g⟩)(a:cp ⟨d,op,ty,pos,af,g⟩ (ej ops (act n env).tmps)=ar)
  (h:WL P ops (UN P ops L ws Q fuel (listed.setIfInBounds i ar)) [⟨d,op,ty,pos,af,aE⟩] n env w):XT P ops L ws Q (fuel+1) listed n env w:=by
 refine⟨nq b zq3 fun k c=>?_⟩;obtain rfl:k=i:=by simpa using c
 exact Ib e a h
theorem jC{L:BS}{ws:ao}{f:Option Nat}{b:Op}{e:ba}{a:String}{c:Array hH}{o:Option (Nat×Bool)}(i j:Nat)(q:cN .any ops listed=[i,j])(r:ops[i]? =aj ⟨d,op,ty,pos,af,g⟩)(p:cp ⟨d,op,ty,pos,af,g⟩ (ej ops (act n env).tmps)=ar)
    (t:ops[j]? =aj ⟨f,b,e,a,c,o⟩) (l:cp ⟨f,b,e,a,c,o⟩ (ej ops (act n env).tmps)=ar)
    (h:WL P ops (UN P ops L ws Q fuel (listed.setIfInBounds i ar)) [⟨d,op,ty,pos,af,aE⟩] n env w) (s:WL P ops (UN P ops L ws Q fuel (listed.setIfInBounds j ar)) [⟨f,b,e,a,c,aE⟩] n env w):XT P ops L ws Q (fuel+1) listed n env w:=by
  refine⟨nq q zq3 fun k m=>?_⟩;rcases bn.1 m with rfl|m
  · exact Ib r p h
  · obtain rfl:k=j:=by simpa using m
    exact Ib t l s
end
theorem bL.Ga{a b c:ao}{L N:BS}(h:bL L a b)(k:bL N b c)(hN:∀x,N x->a.heap.size<=x):bL L a c:=h.step k (fun x d e=>by have:=hN x d;omega)
theorem bL.same{a b c:ao}{L:BS}(h:bL L a b)(k:bL L b c):bL L a c:=h.step k (fun _ d _=>d)
section
variable{P:ca}{ops:Array ef}{Q:fh->Act->ao->Prop}{n:Nat}{env:Nat->al}{w w' w0:ao}{M K:BS}{hp:Nat->Chunk}{rest:List ef}
 {d:Option Nat} {op:Op} {ty:ba} {pos:String} {af:Array hH} {v:al} {g:Option (Nat×Bool)} {T:ba} {ρ:bo->al} {x y:bo}
theorem w_stOG{α:Type}{R:lL α}{E:ba}{C:Nat}{l:List α}{k:Int}{a a':α}{b off:Nat}{z u:al}(h:SH w0 M K w hp)(i:Nat)(r:hp i=.own R E u l)(I:ob u b)(hs:R.sz=C)(s:l[k.toNat]? =aj a)(hT:One P T z)(c:ev n env x=.pointer (aj ⟨b,k.toNat*C+off,aE⟩))
    (hy:ev n env y=v) (h1:v.oneCell'=ar) (p:nc off C=ar) (hset:∀cs,R.rd w (SH.A M hp) cs a->R.rd w (SH.A M hp) (cs.set off v) a')
    (kk:∀w',SH w0 M K w' (bW hp i (.own R E u (l.set k.toNat a')))->bL (ob u) w w'->WL P ops Q rest n (gG env d fO) w'):
    WL P ops Q (⟨d,.store T x y,ty,pos,af,aE⟩::rest) n env w:=by
  subst hs;rw[lz]at p;have f:k.toNat<l.length:=by
    rcases cD k.toNat l.length with h|h
    · exact h
    · rw[bw h]at s;cases s
  have B:l[k.toNat]=a:=by rw[bh f]at s;exact cM s
  generalize k.toNat=k at*;have e:∀b,ob u b->SH.A M hp b:=fun b I=>.inr ⟨i,by rw[r];exact I⟩;obtain⟨xs,S,X⟩:=h.bH i r;rcases S.2 with⟨rfl,hn⟩|⟨g',cap,cur,rfl,e1,e2,e3,e4,e5,e6⟩
  · omega
  have F:b=g':=I;subst F;have L:(k+1)*R.sz<=l.length*R.sz:=bd _ f;have a0:l.length*R.sz<=cap*R.sz:=bd _ e3;rw[cj]at L;have N:k*R.sz+off<cur.size:=by omega
  have m:=bL.wW w b<|.cells (cur.setIfInBounds (k*R.sz+off) v) E (0,0);refine Bg (SB hT c e2 N hy h1) (kk _ (h.step i m (fun x c _=>by rw[r];exact c) (fun x c _=>by rw[r];exact c) ⟨xs.set (k*R.sz+off) v,⟨?_,.inr ⟨b,cap,cur.setIfInBounds (k*R.sz+off) v,?_,e1,?_,?_,e4,?_,?_⟩⟩,?_⟩) (m.weaken (fun x c _=>c)))
  · rw[cq,cq];exact S.1
  · rw[cq]
  · rw[vP (iW e2)]
  · rw[cq];exact e3
  · simpa using e5
  · rw[cq,jI,mx,e6]
  · intro g G;have t:g<l.length:=by rwa[cq]at G
    have o:=fun cs a(h:R.rd w (SH.A M hp) cs a)=>R.go (A':=fun x=>(M x\/(SH.av hp i (.own R E (.slice (aj ⟨b,0,aE⟩) l.length cap) (l.set k a'))) x)\/ob (.slice (aj ⟨b,0,aE⟩) l.length cap) x) h m (fun x c _=>e x c) (fun x c _=>by
      rcases c with(c|c|c)|c
      · exact .inl c
      · exact .inr<|lM c
      · exact e x c
      · exact e x c)
    have O:=fun j(hj:j<l.length)=>R.go (A':=SH.A M hp) (X j hj) (bL.refl BE w) (fun _ h=>h.elim) fun x c _=>.inl c;by_cases q:g=k
    · subst q;rw[lX,QB rfl];exact o _ _<|hset _<|B▸O g f
    · rw[mz (Ne.symm q),NZ]
      · exact o _ _<|O g t
      · rcases cD k g with h5|h5
        · left;have:(k+1)*R.sz<=g*R.sz:=bd _ h5;rw[cj]at this;omega
        · right;have:(g+1)*R.sz<=k*R.sz:=bd _ V;rw[cj]at this;omega
end
open Go.RowKit
section
variable{w0 w:ao}{M K:BS}{hp:Nat->Chunk}{α:Type}{R:lL α}
theorem SH.gV(h:SH w0 M K w hp)(i:Nat):SH w0 M K w (bW hp i .no):=h.step i (bL.refl BE w) (fun _ h=>h.elim) (fun _ h=>h.elim) U
variable{P:ca}{T T2 ty:ba}{ρ:bo->al}{d:Option Nat}{pos:String}{af:Array hH}{g:Option (Nat×Bool)}{x y:bo}{v:al}{A:BS}{o:Option α}
def PtrTo(P:ca)(T:ba):Prop:=∃E,P.underlying T=aj (.pointer E)
theorem PtrTo.p(a:PtrTo P T):P.underlying T=aj (.pointer (P.pointee T)):=by
 obtain⟨E,a⟩:=a;simp[Program.pointee,a]
end
open Go.RowKit
def Chunk.SN:Chunk->Prop
 | .sr .. =>False
 | .pt .. =>False
 | .two a b=>a.SN/\b.SN
 |_=>True
theorem Chunk.re{c:Chunk}{w:ao}{M O j i:BS}(e:c.SN)(h:c.holds w M O)(d:∀b,j b\/i b->b<w.heap.size->M b\/O b):c.holds w j i:=by
 induction c with
 |no=>trivial
 |rd R v l=>exact eD.sub h d d
 |sr R v l=>exact e.elim
 |pt b o cs=>exact e.elim
 |blk b cs=>exact h
 |own R E v l=>exact cO.go h (bL.refl BE w) (fun _ h=>h.elim) (fun _ h=>h.elim) (fun b f g=>.inl (d b f g))
 |rp R v x=>exact R.go h (bL.refl BE w) (fun _ h=>h.elim) d
 |two a b iha ihb=>exact⟨iha e.1 h.1,ihb e.2 h.2.1,h.2.2⟩
 |eO S=>exact S.go h (bL.refl BE w) (fun _ h=>h.elim) (fun _ h=>h.elim) (fun b f g=>.inl (d b f g))
 |mp b jO=>exact h
section
variable{w0 w w':ao}{M K:BS}{hp:Nat->Chunk}
theorem SH.pair(h:SH w0 M K w hp)(i j:Nat)(l:i≠j):SH w0 M K w (bW (bW hp j .no) i (.two (hp i) (hp j))):=by
  have d:∀x b,(bW (bW hp j .no) i (.two (hp i)<|hp j) x).own' b->(x=i/\((hp i).own' b\/(hp j).own' b))\/(x≠i/\x≠j/\(hp x).own' b):=by
    intro x b a;by_cases e:x=i
    · subst e;rw[cu]at a;exact .inl ⟨Z,a⟩
    · rw[ek e]at a;by_cases f:x=j
      · subst f;rw[cu]at a;exact a.elim
      · rw[ek f]at a;exact .inr ⟨e,f,a⟩
  have c:∀b,iX (bW (bW hp j .no) i<|.two (hp i)<|hp j) b->iX hp b:=by
    rintro b⟨x,k⟩;rcases d x b k with⟨_,h1|h1⟩|⟨_,_,h1⟩
    · exact⟨i,h1⟩
    · exact⟨j,h1⟩
    · exact⟨x,h1⟩
  refine⟨h.keep,h.ltM,fun x b a=>?_,fun x=>?_,fun x y g b k m=>?_,fun x b a=>?_⟩
  · rcases d x b a with⟨_,h1|h1⟩|⟨_,_,h1⟩
    · exact h.apM i b h1
    · exact h.apM j b h1
    · exact h.apM x b h1
  · by_cases e:x=i
    · subst e;rw[cu];exact⟨Chunk.sub (h.ok x) fun b a _=>c b a,Chunk.sub (h.ok j) fun b a _=>c b a,fun b a=>h.apart x j l b a⟩
    · rw[ek e];by_cases f:x=j
      · subst f;rw[cu];trivial
      · rw[ek f];exact Chunk.sub (h.ok x) (fun b a _=>c b a)
  · rcases d x b k with⟨e1,h1⟩|⟨e1,e1',h1⟩<;>rcases d y b m with⟨f,h2⟩|⟨f,e2',h2⟩
    · exact g<|e1.trans f.symm
    · rcases h1 with h1|h1
      · exact h.apart i y (fun e=>f e.symm) b h1 h2
      · exact h.apart j y (fun e=>e2' e.symm) b h1 h2
    · rcases h2 with h2|h2
      · exact h.apart x i e1 b h1 h2
      · exact h.apart x j e1' b h1 h2
    · exact h.apart x y g b h1 h2
  · rcases d x b a with⟨_,h1|h1⟩|⟨_,_,h1⟩
    · exact h.old i b h1
    · exact h.old j b h1
    · exact h.old x b h1
theorem SH.unpair{a c:Chunk}(h:SH w0 M K w hp)(i j:Nat)(s:i≠j)(q:hp i=.two a c)(t:hp j=.no):SH w0 M K w (bW (bW hp i a) j c):=by
  have g:∀x b,(bW (bW hp i a) j c x).own' b->(x=i/\a.own' b)\/(x=j/\c.own' b)\/(x≠i/\x≠j/\(hp x).own' b):=by
    intro x b d;by_cases e:x=j
    · subst e;rw[cu]at d;exact .inr (.inl ⟨Z,d⟩)
    · rw[ek e]at d;by_cases f:x=i
      · subst f;rw[cu]at d;exact .inl ⟨Z,d⟩
      · rw[ek f]at d;exact .inr (.inr ⟨f,e,d⟩)
  have n:∀b,a.own' b->(hp i).own' b:=fun b d=>by rw[q];exact .inl d
  have o:∀b,c.own' b->(hp i).own' b:=fun b d=>by rw[q];exact .inr d
  have l:∀b,iX (bW (bW hp i a) j c) b->iX hp b:=by
    rintro b⟨x,p⟩;rcases g x b p with⟨_,h1⟩|⟨_,h1⟩|⟨_,_,h1⟩
    · exact⟨i,n b h1⟩
    · exact⟨i,o b h1⟩
    · exact⟨x,h1⟩
  have k:=h.ok i;rw[q]at k;refine⟨h.keep,h.ltM,fun x b d=>?_,fun x=>?_,fun x y m b p r=>?_,fun x b d=>?_⟩
  · rcases g x b d with⟨_,h1⟩|⟨_,h1⟩|⟨_,_,h1⟩
    · exact h.apM i b<|n b h1
    · exact h.apM i b<|o b h1
    · exact h.apM x b h1
  · by_cases e:x=j
    · subst e;rw[cu];exact Chunk.sub k.2.1 (fun b d _=>l b d)
    · rw[ek e];by_cases f:x=i
      · subst f;rw[cu];exact Chunk.sub k.1 (fun b d _=>l b d)
      · rw[ek f];exact Chunk.sub (h.ok x) (fun b d _=>l b d)
  · rcases g x b p with⟨e1,h1⟩|⟨e1,h1⟩|⟨e1,e1',h1⟩<;>rcases g y b r with⟨f,h2⟩|⟨f,h2⟩|⟨f,e2',h2⟩
    · exact m<|e1.trans f.symm
    · exact k.2.2 b h1 h2
    · exact h.apart i y (fun e=>f e.symm) b (n b h1) h2
    · exact k.2.2 b h2 h1
    · exact m<|e1.trans f.symm
    · exact h.apart i y (fun e=>f e.symm) b (o b h1) h2
    · exact h.apart x i e1 b h1<|n b h2
    · exact h.apart x i e1 b h1<|o b h2
    · exact h.apart x y m b h1 h2
  · rcases g x b d with⟨_,h1⟩|⟨_,h1⟩|⟨_,_,h1⟩
    · exact h.old i b<|n b h1
    · exact h.old i b<|o b h1
    · exact h.old x b h1
theorem SH.lendC(h:SH w0 M K w hp)(i:Nat)(d:(hp i).SN):(hp i).holds w (fun b=>M b\/rest hp i b) (hp i).own'/\(∀b,(hp i).own' b->¬(M b\/rest hp i b))/\(∀b,(M b\/rest hp i b)->b<w.heap.size):=by
  refine⟨Chunk.re d (h.ok i) fun b a _=>?_,fun b a c=>?_,fun b a=>?_⟩
  · rcases a with(a|a)|a
    · exact .inl a
    · exact .inr<|lM a
    · exact .inr ⟨i,a⟩
  · rcases c with c|⟨j,hj,c⟩
    · exact h.apM i b a c
    · exact h.apart j i hj b c a
  · rcases a with a|⟨j,_,a⟩
    · exact cr (h.ltM b a) h.keep.size
    · exact Chunk.lt (h.ok j) b a
theorem SH.givenC{C:Chunk}(h:SH w0 M K w hp)(i:Nat)(d:C.SN)(e:C.holds w' (fun b=>M b\/rest hp i b) C.own')(c:bL (hp i).own' w w')(hn:∀b,C.own' b->b<w.heap.size->(hp i).own' b):SH w0 M K w' (bW hp i C):=
  h.step i c (fun _ a _=>a) hn (Chunk.re d e (fun b a _=>by
    rcases a with a|a|a
    · exact .inl<|.inl a
    · exact .inl<|.inr a
    · exact .inr a))
theorem SH.yQ{C:Chunk}(n:∀b,M b->b<w.heap.size)(m:C.holds w M C.own')(k:∀b,C.own' b->¬M b):SH w M C.own' w (bW hno 1 C):=by
  have a:∀b,iX (bW hno 1 C) b->C.own' b:=by
    rintro b⟨j,f⟩;by_cases e:j=1
    · subst e;rw[cu]at f;exact f
    · rw[ek e]at f;exact f.elim
  refine⟨bL.refl _ _,n,fun i b c=>k b<|a b ⟨i,c⟩,fun i=>?_,fun i j g b c d=>?_,fun i b c _=>a b ⟨i,c⟩⟩
  · by_cases e:i=1
    · subst e;rw[cu];exact Chunk.sub m (fun b c _=>a b c)
    · rw[ek e];trivial
  · by_cases e:i=1
    · have l:j≠1:=fun h=>g<|e.trans h.symm;rw[ek l]at d;exact d.elim
    · rw[ek e]at c;exact c.elim
theorem SH.outC{C:Chunk}(h:SH w0 M K w hp)(i:Nat)(d:hp i=C)(c:C.SN):C.holds w M C.own'/\bL K w0 w/\(∀b,C.own' b->b<w0.heap.size->K b):=by
 subst d;exact⟨Chunk.re c (h.ok i) fun b a _=>a.imp id fun a=>⟨i,a⟩,h.keep,h.old i⟩
end
structure Val where
 kind:Int
 n:Int
deriving DecidableEq
def bJ:lL Val where
 sz:=2
 rd w A cs x:=cs=[.int .i64 x.kind,.int .i64 x.n]
 len:=by rintro w A cs x rfl;rfl
 one:=by rintro w A cs x rfl u hu;simp only[bn,dh,or_false]at hu;rcases hu with rfl|rfl<;>first|rfl
 pos:=by decide
 go:=fun h _ _ _=>h
structure Tok where
 kind:Int
 n:Int
deriving DecidableEq
def rq:lL Tok where
 sz:=2
 rd w A cs x:=cs=[.int .i64 x.kind,.int .i64 x.n]
 len:=by rintro w A cs x rfl;rfl
 one:=by rintro w A cs x rfl u hu;simp only[bn,dh,or_false]at hu;rcases hu with rfl|rfl<;>first|rfl
 pos:=by decide
 go:=fun h _ _ _=>h
structure fT where
 from_:Int
 jK:Int
 co:Int
 aJ:Int
 taken:Bool
 image:List Int
deriving DecidableEq
def fJ:lL fT where
 sz:=6
 rd w A cs x:=∃qc,cs=[.int .i64 x.from_,.int .i64 x.jK,.int .i64 x.co,.int .i64 x.aJ,.bool x.taken,qc]/\dn bZ w A qc x.image
 len:=by rintro w A cs x ⟨qc,rfl,h0⟩;rfl
 one:=by rintro w A cs x ⟨qc,rfl,h0⟩ u hu;simp only[bn,dh,or_false]at hu;rcases hu with rfl|rfl|rfl|rfl|rfl|rfl<;>first|rfl|exact h0.one
 pos:=by decide
 go:=by rintro w A cs x w2 A2 K ⟨qc,rfl,h0⟩ hk hK hA;exact⟨_,Z,h0.go hk hK hA⟩
theorem Ic{w:ao}{A:BS}{cs:List al}{x:fT}(h:fJ.rd w A cs x):∃a,cs=[.int .i64 x.from_,.int .i64 x.jK,.int .i64 x.co,.int .i64 x.aJ,.bool x.taken,a]/\dn bZ w A a x.image:=h
structure Co where
 kM:Int
 aJ:Int
 image:List Int
 offered:Int
deriving DecidableEq
def Ho:lL Co where
 sz:=4
 rd w A cs x:=∃qc,cs=[.int .i64 x.kM,.int .i64 x.aJ,qc,.int .i64 x.offered]/\dn bZ w A qc x.image
 len:=by rintro w A cs x ⟨qc,rfl,h0⟩;rfl
 one:=by rintro w A cs x ⟨qc,rfl,h0⟩ u hu;simp only[bn,dh,or_false]at hu;rcases hu with rfl|rfl|rfl|rfl<;>first|rfl|exact h0.one
 pos:=by decide
 go:=by rintro w A cs x w2 A2 K ⟨qc,rfl,h0⟩ hk hK hA;exact⟨_,Z,h0.go hk hK hA⟩
theorem lg{w:ao}{A:BS}{cs:List al}{x:Co}(h:Ho.rd w A cs x):∃a,cs=[.int .i64 x.kM,.int .i64 x.aJ,a,.int .i64 x.offered]/\dn bZ w A a x.image:=h
structure Rec where
 kind:Int
 co:Int
 aJ:Int
 place:Int
 says:List Int
 image:List Int
deriving DecidableEq
def SQ:lL Rec where
 sz:=6
 rd w A cs x:=∃Xd,∃qc,cs=[.int .i64 x.kind,.int .i64 x.co,.int .i64 x.aJ,.int .i64 x.place,Xd,qc]/\dn bZ w A Xd x.says/\dn bZ w A qc x.image
 len:=by rintro w A cs x ⟨Xd,qc,rfl,h0,h1⟩;rfl
 one:=by rintro w A cs x ⟨Xd,qc,rfl,h0,h1⟩ u hu;simp only[bn,dh,or_false]at hu;rcases hu with rfl|rfl|rfl|rfl|rfl|rfl<;>first|rfl|exact h0.one|exact h1.one
 pos:=by decide
 go:=by rintro w A cs x w2 A2 K ⟨Xd,qc,rfl,h0,h1⟩ hk hK hA;exact⟨_,_,Z,h0.go hk hK hA,h1.go hk hK hA⟩
theorem PE{w:ao}{A:BS}{cs:List al}{x:Rec}(h:SQ.rd w A cs x):∃b,∃a,cs=[.int .i64 x.kind,.int .i64 x.co,.int .i64 x.aJ,.int .i64 x.place,b,a]/\dn bZ w A b x.says/\dn bZ w A a x.image:=h
theorem eD.mapR{α:Type}{R R':lL α}{w:ao}{B A:BS}{v:al}{l:List α}(k:R.sz=R'.sz)(h:∀cs x,x∈l->R.rd w A cs x->R'.rd w A cs x)(m:eD R w B A v l):eD R' w B A v l:=by
 obtain⟨a,cap,rfl,e,r,n,g⟩:=m;refine⟨a,cap,Z,e,r,n,fun i c=>?_⟩;obtain⟨b,o,cells,E,q,j,p,f,d⟩:=g i c;refine⟨b,o,cells,E,q,j,p,f,?_⟩;rw[<-k];exact h _ _ (List.getElem_mem c) d
structure di where
 kind:Int
 n:Int
 e:List Tok
 f:List Tok
 a:List di
 b:List di
def vT:Nat->{R:lL di // R.sz=6}
 |0=>⟨{sz:=6,rd:=fun _ _ _ _=>False,len:=fun h=>h.elim,one:=fun h=>h.elim,pos:=by decide,go:=fun h=>h.elim},rfl⟩
 |d+1=>⟨{
  sz:=6
  rd:=fun w A cs x=>∃j i c g,cs=[.int .i64 x.kind,.int .i64 x.n,j,i,c,g]/\dn rq w A j x.e/\dn rq w A i x.f/\dn (vT d).1 w A c x.a/\dn (vT d).1 w A g x.b
  len:=by rintro w A cs x ⟨j,i,c,g,rfl,_⟩;rfl
  one:=by rintro w A cs x ⟨j,i,c,g,rfl,o,r,q,p⟩ u s;simp only[bn,dh,or_false]at s;rcases s with rfl|rfl|rfl|rfl|rfl|rfl<;>first|rfl|exact o.one|exact r.one|exact q.one|exact p.one
  pos:=by decide
  go:=by rintro w A cs x t v K ⟨j,i,c,g,rfl,o,r,q,p⟩ m l k;exact⟨_,_,_,_,Z,o.go m l k,r.go m l k,q.go m l k,p.go m l k⟩},Z⟩
theorem N8:∀(d:Nat) {w:ao} {A:BS} {cs:List al} {x:di},(vT d).1.rd w A cs x->(vT (d+1)).1.rd w A cs x
 |0,_,_,_,_,h=>h.elim
 |d+1,_,_,_,_,h=>by
  obtain⟨i,g,c,b,rfl,e,j,f,a⟩:=h;exact⟨i,g,c,b,Z,e,j,f.mapR ((vT d).2.trans (vT<|d+1).2.symm) fun _ _ _ h=>N8 d h,a.mapR ((vT d).2.trans (vT<|d+1).2.symm) fun _ _ _ h=>N8 d h⟩
theorem rStmtN_le{d a:Nat}(b:d<=a){w:ao}{A:BS}{cs:List al}{x:di}(h:(vT d).1.rd w A cs x):(vT a).1.rd w A cs x:=by
 induction b with
 |refl=>exact h
 |step _ ih=>exact N8 _ ih
def jc:lL di where
 sz:=6
 rd w A cs x:=∃d,(vT d).1.rd w A cs x
 len:=by rintro w A cs x ⟨d,h⟩;exact((vT d).1.len h).trans (vT d).2
 one:=by rintro w A cs x ⟨d,h⟩;exact(vT d).1.one h
 pos:=by decide
 go:=by rintro w A cs x w2 A2 K ⟨d,h⟩ hk hK hA;exact⟨d,(vT d).1.go h hk hK hA⟩
theorem max_of{P:Nat->Nat->Prop}(b:∀d a i,d<=a->P d i->P a i):∀n,(∀i,i<n->∃d,P d i)->∃d,∀i,i<n->P d i
  |0,_=>⟨0,fun i c=>absurd c (eM _)⟩
  |n+1,h=>by
    obtain⟨d,g⟩:=max_of b n fun i c=>h i V;obtain⟨a,f⟩:=h n V;refine⟨max d a,fun i c=>?_⟩;by_cases e:i=n
    · subst e;exact b _ _ _ (so _ _) f
    · exact b _ _ _ (s8 _ _)<|g i V
theorem Yh{w:ao}{A:BS}{v:al}{l:List di}(h:dn jc w A v l):∃d,∀j,d<=j->dn (vT j).1 w A v l:=by
 obtain⟨a,cap,rfl,r,u,s,q⟩:=h;have t:=max_of (P:=fun d i=>∀h:i<l.length,∃b o cells E c,a=aj ⟨b,o,aE⟩/\¬A b/\w.heap[b]? =aj (.cells cells E c)/\(vT d).1.rd w A ((cells.toList.drop<|o+i*6).take 6) l[i])
  (fun d j i n hp h=>let ⟨b,o,cells,E,c,g,k,e,f⟩:=hp h;⟨b,o,cells,E,c,g,k,e,rStmtN_le n f⟩) l.length
  (fun i m=>by obtain⟨b,o,cells,E,c,g,k,e,d,f⟩:=q i m;exact⟨d,fun _=>⟨b,o,cells,E,c,g,k,e,f⟩⟩)
 obtain⟨d,n⟩:=t;refine⟨d,fun j p=>⟨a,cap,Z,r,u,s,fun i m=>?_⟩⟩;obtain⟨b,o,cells,E,c,g,k,e,f⟩:=n i m m;exact⟨b,o,cells,E,c,g,k,e,by rw[(vT j).2];exact rStmtN_le p f⟩
theorem Mh{w:ao}{A:BS}{cs:List al}{x:di}(h:jc.rd w A cs x):∃j i g c,cs=[.int .i64 x.kind,.int .i64 x.n,j,i,g,c]/\dn rq w A j x.e/\dn rq w A i x.f/\dn jc w A g x.a/\dn jc w A c x.b:=by
 obtain⟨d,h⟩:=h;cases d with
 |zero=>exact h.elim
 |succ d=>
  obtain⟨j,i,g,c,rfl,l,o,m,k⟩:=h;exact⟨j,i,g,c,Z,l,o,m.mapR (vT d).2 fun _ _ _ h=>⟨d,h⟩,k.mapR (vT d).2 fun _ _ _ h=>⟨d,h⟩⟩
theorem rStmt_mk{w:ao}{A:BS}{cs:List al}{x:di}(h:∃j i g c,cs=[.int .i64 x.kind,.int .i64 x.n,j,i,g,c]/\dn rq w A j x.e/\dn rq w A i x.f/\dn jc w A g x.a/\dn jc w A c x.b):jc.rd w A cs x:=by
 obtain⟨j,i,g,c,rfl,p,r,q,m⟩:=h;obtain⟨d,l⟩:=Yh q;obtain⟨o,k⟩:=Yh m;exact⟨max d o+1,j,i,g,c,Z,p,r,l _<|s8 _ _,k _<|so _ _⟩
structure ji where
 params:Int
 locals:Int
 body:List di
def mY:lL ji where
 sz:=3
 rd w A cs x:=∃Xe,cs=[.int .i64 x.params,.int .i64 x.locals,Xe]/\dn jc w A Xe x.body
 len:=by rintro w A cs x ⟨Xe,rfl,h0⟩;rfl
 one:=by rintro w A cs x ⟨Xe,rfl,h0⟩ u hu;simp only[bn,dh,or_false]at hu;rcases hu with rfl|rfl|rfl<;>first|rfl|exact h0.one
 pos:=by decide
 go:=by rintro w A cs x w2 A2 K ⟨Xe,rfl,h0⟩ hk hK hA;exact⟨_,Z,h0.go hk hK hA⟩
theorem BU{w:ao}{A:BS}{cs:List al}{x:ji}(h:mY.rd w A cs x):∃a,cs=[.int .i64 x.params,.int .i64 x.locals,a]/\dn jc w A a x.body:=h
section
variable{α β σ ρ:Type}
theorem lh{l:List α}{i:Nat}:idx l (i:Int)=l[i]? :=by simp[idx]
theorem xh{l:List α}{i:Nat}(h:i<l.length):idx l (i:Int)=aj l[i]:=by rw[lh,bh h]
theorem kC{p:Prop} [Decidable p]{x:Option β}(h:p):iK p x=x:=if_pos h
theorem ru{b:Nat}{a:List α}(h:a.length*b<=140737488355328)(c:a.length<=9223372036854775807):clone b a=aj a:=by
 unfold clone;exact kC<|Room.mk (by simpa using h) (by simpa using c)
theorem SS{l:List α}{a b:Nat}(h:a<=b)(c:b<=l.length):sub? l (a:Int) (b:Int)=aj ((l.take b).drop a):=by
 unfold sub? cut;rw[if_pos ⟨by omega,by omega,by omega⟩];simp
theorem del_s{l:List α}{a b:Nat}(h:a<b)(c:b<=l.length):del1 l (a:Int) (b:Int)=aj (l.take a++l.drop b):=by
 unfold del1;rw[if_pos ⟨by omega,by omega,by omega⟩];simp
theorem one_at{l:List α}{n:Nat}(h:n<l.length):(l.take (n+1)).drop n=[l[n]]:=by
 rw[eh,cS h,show n+1-n=1 by omega];rfl
def all2(p:α->β->Bool):List α->List β->Bool
 |[],[]=>ar
 |x::xs,y::ys=>p x y&&all2 p xs ys
 |_,_=>aq
theorem Mi [DecidableEq α]{p:α->α->Bool}(hp:∀x y,p x y=ab (x=y)):∀(a b:List α),all2 p a b=ab (a=b)
 |[],[]=>by simp[all2]
 |[],_::_=>by simp[all2]
 |_::_,[]=>by simp[all2]
 |x::xs,y::ys=>by simp[all2,hp,Mi hp xs ys]
theorem UO{body:Int->Unit->(Unit->Option Bool)->Option Bool}{c:Unit->Option Bool}(p:α->β->Bool)(a:List α)(b:List β)(k:a.length=b.length)(g:c ()=aj ar)
  (j:∀(i:Nat) x y nx,a[i]? =aj x->b[i]? =aj y->body (i:Int) () nx=bif p x y then nx ()else aj aq):upto body c 0 a.length ()=aj (all2 p a b):=by
 have d:∀(m i:Nat),i+m=a.length->upto body c (i:Int) m ()=aj (all2 p (a.drop i)<|b.drop i):=by
  intro m;induction m with
  |zero=>
   intro i h;rw[cC V,cC V];exact g
  |succ m ih=>
   intro i h;have f:i<a.length:=by omega
   have e:i<b.length:=by omega
   rw[cS f,cS e];show body (i:Int) () (upto body c ((i:Int)+1) m)=_;rw[j i a[i] b[i] _ (bh f) (bh e)];cases hp:p a[i] b[i]with
   |true=>simp only[cond_true,all2,hp,mQ];exact ih (i+1) V
   |false=>simp[all2,hp]
 simpa using d a.length 0 V
theorem QU{body:Int->α->Unit->(Unit->Option Bool)->Option Bool}{c:Unit->Option Bool}(p:α->β->Bool)(a:List α)(b:List β)(j:a.length=b.length)(f:c ()=aj ar)
  (g:∀(i:Nat) x y nx,b[i]? =aj y->body (i:Int) x () nx=bif p x y then nx ()else aj aq):ic body c 0 a ()=aj (all2 p a b):=by
 have d:∀(l:List α) (i:Nat),i+l.length=b.length->ic body c (i:Int) l ()=aj (all2 p l<|b.drop i):=by
  intro l;induction l with
  |nil=>
   intro i h;rw[cC (by simp at h;omega)];exact f
  |cons x l ih=>
   intro i h;simp only[bq]at h;have e:i<b.length:=by omega
   rw[cS e];show body (i:Int) x () (ic body c ((i:Int)+1) l)=_;rw[g i x b[i] _ (bh e)];cases hp:p x b[i]with
   |true=>simp only[cond_true,all2,hp,mQ];exact ih (i+1) V
   |false=>simp[all2,hp]
 simpa using d a 0 V
theorem upto_eachI{body:Int->σ->(σ->ρ)->ρ}{g:Int->α->σ->(σ->ρ)->ρ}{k:σ->ρ}(l:List α)(c:∀(i:Nat) x s nx,l[i]? =aj x->body (i:Int) s nx=g (i:Int) x s nx)(s:σ):upto body k 0 l.length s=ic g k 0 l s:=by
 have a:∀(m i:Nat),i+m=l.length->∀s,upto body k (i:Int) m s=ic g k (i:Int) (l.drop i) s:=by
  intro m;induction m with
  |zero=>intro i h s;rw[cC V];rfl
  |succ m ih=>
   intro i h s;have b:i<l.length:=by omega
   rw[cS b];show body (i:Int) s (upto body k ((i:Int)+1) m)=g (i:Int) l[i] s (ic g k ((i:Int)+1)<|l.drop<|i+1);rw[c i l[i] s _ (bh b)];congr 1;funext s';exact ih (i+1) V s'
 simpa using a l.length 0 V s
theorem UQ{body:Int->Unit->(Unit->ρ)->ρ}{a:Unit->ρ}(p:α->Bool)(F:Int->ρ)(l:List α)(d:∀(i:Nat) x nx,l[i]? =aj x->body (i:Int) () nx=bif p x then F i else nx ()):
  upto body a 0 l.length ()=match l.findIdx? p with|some n=>F (n:Int)|none=>a ():=by
 have b:∀(m i:Nat),i+m=l.length->upto body a (i:Int) m ()=match (l.drop i).findIdx? p with|some n=>F ((i+n:Nat):Int)|none=>a ():=by
  intro m;induction m with
  |zero=>intro i h;rw[cC V];rfl
  |succ m ih=>
   intro i h;have c:i<l.length:=by omega
   rw[cS c,List.findIdx?_cons];show body (i:Int) () (upto body a ((i:Int)+1) m)=_;rw[d i l[i] _ (bh c)];cases hp:p l[i]with
   |true=>rfl
   |false=>
    simp only[cond_false,cJ,if_false];have:=ih (i+1) V;rw[show((i+1:Nat):Int)=(i:Int)+1 from rfl]at this;rw[this];cases (l.drop (i+1)).findIdx? p with
    |none=>rfl
    |some n=>simp only[db];congr 1;omega
 have:=b l.length 0 V;simp only[kf,fX]at this;exact this
theorem del_s1{l:List α}{a:Nat}(h:a<l.length):del1 l (a:Int) ((a:Int)+1)=aj (l.take a++l.drop (a+1)):=by
 have:=del_s (l:=l) (a:=a) (b:=a+1) V V;exact this
theorem dT{p:Prop} [Decidable p](h:p):decide p=true:=decide_eq_true h
theorem dF{p:Prop} [Decidable p](h:¬p):decide p=false:=decide_eq_false h
theorem gI{x:Int}{y:Option β}(b: -9223372036854775808<=x:=by omega)(a:x<=9223372036854775807:=by omega):iK (kN x) y=y:=kC (kN.mk b a)
end
open Go.RowKit
def iR:lL UInt8 where
 sz:=1
 rd _ _ cs x:=cs=[.int .u8 (x.toNat:Int)]
 len:=by rintro w A cs x rfl;rfl
 one:=by rintro w A cs x rfl u hu;simp at hu;subst hu;rfl
 pos:=by decide
 go:=fun h _ _ _=>h
def IsErr(v:al)(b:Bool):Prop:=(b=aq/\v=.nilIface)\/(b=ar/\∃t p,v=.iface t p)
structure IfaceT(P:ca)(T:ba):Prop where
 desc:P.underlying T=aj (.interface (P.methodsAt T))
def QD{α:Type}(a:Nat)(k:Int):Option (List α):=iK (0<=k/\k*a<=140737488355328) (aj [])
section
variable{P:ca}{ops:Array ef}{Q:fh->Act->ao->Prop}{n:Nat}{env:Nat->al}{w w' w0:ao}{M K:BS}{hp:Nat->Chunk}{rest:List ef}
 {d:Option Nat} {op:Op} {ty:ba} {pos:String} {af:Array hH} {v:al} {g:Option (Nat×Bool)} {T:ba} {ρ:bo->al} {x y:bo}
theorem UR{a b:Str}{T2:ba}(e:ρ x=bF a)(c:ρ y=bF b):(bl ρ ⟨d,.binOp .eql T x y T2,ty,pos,af,g⟩).run P w=.ok (.value (.bool (ab (a=b)))) w:=by
 simp[bl,kq,e,c,bF,Op.stringOp,gj];rw[ey];simp
theorem QV{a b:Str}{T2:ba}(e:ρ x=bF a)(c:ρ y=bF b):(bl ρ ⟨d,.binOp .neq T x y T2,ty,pos,af,g⟩).run P w=.ok (.value (.bool (ab (a≠b)))) w:=by
 simp[bl,kq,e,c,bF,Op.stringOp,gj];rw[ey];simp
theorem uy{a b:Str}{T2:ba}(i:ρ x=bF a)(e:ρ y=bF b)(h:a.length+b.length<=9223372036854775807):(bl ρ ⟨d,.binOp .add T x y T2,ty,pos,af,g⟩).run P w=.ok (.value (bF (a++b))) w:=by
 have c:=run_string_add_sum (P:=P) (w:=w) ⟨a.toArray⟩ ⟨b.toArray⟩ (by simpa[lb]using h);have f:(⟨a.toArray⟩++⟨b.toArray⟩:ByteArray)=⟨(a++b).toArray⟩:=by
  apply qq;simp
 rw[f]at c;simp[bl,kq,i,e,bF,gj,c]
theorem r_neqnilI{b:Bool}{T2:ba}(c:IfaceT P T)(e:ρ x=v)(f:IsErr v b)(a:ρ (.const .nilIface)=.nilIface):(bl ρ ⟨d,.binOp .neq T x (.const .nilIface) T2,ty,pos,af,g⟩).run P w=.ok (.value (.bool b)) w:=by
  rcases f with⟨rfl,rfl⟩|⟨rfl,t,p,rfl⟩
  · simp[bl,kq,e,a,gj,run_equal_nil_nil w T c.desc]
  · simp[bl,kq,e,a,gj,tg w T t p c.desc]
theorem r_eqlnilI{b:Bool}{T2:ba}(c:IfaceT P T)(e:ρ x=v)(f:IsErr v b)(a:ρ (.const .nilIface)=.nilIface):(bl ρ ⟨d,.binOp .eql T x (.const .nilIface) T2,ty,pos,af,g⟩).run P w=.ok (.value (.bool !b)) w:=by
  rcases f with⟨rfl,rfl⟩|⟨rfl,t,p,rfl⟩
  · simp[bl,kq,e,a,gj,run_equal_nil_nil w T c.desc]
  · simp[bl,kq,e,a,gj,tg w T t p c.desc]
theorem w_makeSl{α:Type}{R:lL α}{E:ba}{c:Nat}{k:Int}{z:al}{a:α}(h:SH w0 M K w hp)(i:Nat)(s:kJ P T E 1 c)(hz:One P E z)(t:R.sz=1)(g:0<c)(hx:ev n env x=.int .i64 k)(hy:ev n env y=.int .i64 k)
    (hk:0<=k/\k*c<=140737488355328) (L:∀w A,R.rd w A [z] a)
    (I:∀w' u,SH w0 M K w' (bW hp i (.own R E u (cc k.toNat a)))->WL P ops Q rest n (gG env d u) w'):
    WL P ops Q (⟨d,.makeSlice T x y,ty,pos,af,aE⟩::rest) n env w:=by
  obtain⟨F,S⟩:=hk;obtain⟨m,rfl⟩:=bs F;obtain⟨j,z',r,C,o,l,N⟩:=s.info;have e:=hz.info;rw[r]at e;simp only[db,eI,iq]at e;have a1:m<=m*c:=lj _ g;have X:m*c<=140737488355328:=by
    have:((m*c:Nat):Int)<=140737488355328:=by rw[s7];exact S
    omega
  obtain⟨w',G,ho,O⟩:=run_make_full (P:=P) w 0 T E j z 1 s.desc r e.1 o .i64 .i64 m (by rw[l,nd];omega) (by unfold kt;omega) (fv _);have p:Grow w w':=(Bh (v:=.slice aE 0 0) O).weaken fun _ h _=>h.elim;have f:(bl (ev n env) ⟨d,.makeSlice T x y,ty,pos,af,aE⟩).run P w=.ok (.value<|.slice (aj ⟨w.heap.size,0,aE⟩) m m) w':=by
    simp only[bl,cv,da,bp,hx,hy,G]
  refine J f<|I w' _<|h.vO i p ⟨(madeCells z.cells<|m*1).toList,?_,?_⟩ ?_
  · rw[t,jt];exact ho
  · intro q B;simp only[jt]at B;have a0:q<m:=B;rw[t,hz.cell,toList_madeCells_one];have:(ml (q*1)<|cc (m*1) z).take 1=[z]:=by
      rw[List.drop_replicate,List.take_replicate,show min 1 (m*1-q*1)=1 by omega];rfl
    rw[this];simp only[List.getElem_replicate];exact L _ _
  · intro b g;have:b=w.heap.size:=g;omega
theorem run_appS{E u:ba}{A:BS}{l s:Str}(t:kJ P T E 1 1)(hz:One P E (.int .u8 0))(B:P.underlying u=aj .string)(hx:ρ x=v)(hv:cO iR E w A v l)(X:ρ y=bF s)
    (o:(l.length+s.length)*1<=140737488355328) (hm:l.length+s.length<=9223372036854775807):
    ∃m w',(bl ρ ⟨d,.call {callee:=.builtin .append,args:= #[x,y],argTypes:= #[T,u]},ty,pos,af,g⟩).run P w=.ok (.value m) w'/\cO iR E w' A m (l++s)/\bL (ob v) w w'/\(∀b,ob m b->b<w.heap.size->ob v b):=by
  obtain⟨xs,ho,N⟩:=hv;obtain⟨i,z',n,M,k,h,O⟩:=t.info;have c:=hz.info;rw[n]at c;simp only[db,eI,iq]at c;have e:(nF s.toArray).size=s.length:=by simp[lb]
  obtain⟨m,w',f,h2,h3,R⟩:=Lib.run_append_own_string (P:=P) w 0 T u ty E i t.desc B n c.1 k h v l.length xs ho ⟨s.toArray⟩ (by rw[e];unfold kt;omega) (by rw[e];omega) (fv _);have S:=Bh h3;have z:xs.length=l.length:=by simpa[iR]using ho.1
  have r:(bl ρ ⟨d,.call {callee:=.builtin .append,args:= #[x,y],argTypes:= #[T,u]},ty,pos,af,g⟩).run P w=.ok (.value m) w':=by
    simp only[bl,gS,jx,iU,cv,da,bp,fL,ck,ep,hx,X];rw[show(gA #[T,u] ty #[v,bF s]).run P w=_ from f];rfl
  have F:pk ⟨s.toArray⟩=s.map fun b=>dp .u8 (b.toNat:Int):=by simp[pk]
  refine⟨m,w',r,⟨xs++pk ⟨s.toArray⟩,?_,?_⟩,S,?_⟩
  · rw[bc,<-e];exact h2
  · intro q Q;show hY 1 (ml (q*1) _)=_;rw[mm,F];by_cases p:q<l.length
    · have:=N q p;have L:hY 1 (ml (q*1) xs)=[.int .u8 (l[q].toNat:Int)]:=this;rw[mm]at L;rw[fR V,cX (by rw[cI];omega),L,eN p]
    · rw[bc]at Q;rw[fi V,iy,cC V,cQ,z,cS (by simp;omega)];simp
  · intro b o hl;rcases ho.2 with⟨rfl,hn⟩|⟨gg,cap,cur,rfl,_,hgg,hc,hcm,hcs',htake⟩
    · by_cases I:s.length=0
      · have C:s=[]:=cm I;subst C;have:m=.slice aE 0 0:=R.2 ⟨Z,e⟩;subst this;exact o
      · have a:=run_append_nil_string (P:=P) w T u ty E i (.int .u8 0) t.desc B n c.1 ⟨s.toArray⟩ V V (by rw[h];omega);rw[a]at f;cases f;simp[ob]at o;omega
    · by_cases G:l.length+s.length<=cap
      · have K:cur.size=cap:=by simpa[iR]using hcs'
        have a:=Lib.run_append_room_string (P:=P) w T u ty E i t.desc B n k gg l.length cap cur hgg ⟨s.toArray⟩ V V;rw[a]at f;cases f;exact o
      · have holds:∀j u,xs[j]? =aj u->w.cell? ((⟨gg,0,aE⟩:ks).add j)=aj u:=ho.cells (g:=gg) Z;have a:=Lib.run_append_grow_string (P:=P) w T u ty E i (.int .u8 0) t.desc B n c.1 ⟨gg,0,aE⟩ l.length cap xs (by rw[k];simpa using z) holds ⟨s.toArray⟩ V V (by rw[h];exact growslice_fits V V);rw[a]at f;cases f;simp[ob]at o;omega
theorem r_b2s{E e:ba}{B A:BS}{l:Str}(n:P.underlying T=aj (.slice E))(i:P.underlying E=aj (.int .u8))(m:P.underlying e=aj .string)(z:ρ x=v)(C:eD iR w B A v l):
    (bl ρ ⟨d,.convert T e x,ty,pos,af,g⟩).run P w=.ok (.value (bF l)) w:=by
  obtain⟨a,cap,rfl,I,N,K,q⟩:=C;have h:(convert T e<|.slice a l.length cap).run P w=.ok (bF l) w:=by
    cases l with
    |nil=>
      cases a with
      |none=>
        rw[run_convert_bytes_string w T e E aE _ _ n i m];simp[Conv.bytesToString,bF];rfl
      |some a=>
        exact ra w T e E a cap [] n i m fun j k=>absurd k<|eM _
    |cons c r=>
      obtain⟨b,o,cells,L,M,rfl,_,_,_⟩:=q 0 zq3;refine ra w T e E ⟨b,o,aE⟩ cap (c::r) n i m fun j k=>?_;obtain⟨b',O,f,G,u,t,_,F,s⟩:=q j k;cases t;have p:hY 1 (ml (o+j*1) f.toList)=[.int .u8 ((c::r)[j].toNat:Int)]:=s;rw[mm]at p;have y:f.toList[o+j]? =aj (.int .u8 ((c::r)[j].toNat:Int)):=by
        have:=congrArg (·[0]?) p;simpa[cf,cw]using this
      rw[addr_add];simpa[eV,F]using y
  simp only[bl,cv,da,z,h,bp]
theorem str_ex(s:Str)(a b:Nat):(nF s.toArray).extract a b=⟨((s.take b).drop a).toArray⟩:=by
 apply qq;simp[ByteArray.data_extract,eh]
theorem vU(s:Str):(nF s.toArray).size=s.length:=by simp[lb]
def subs?(s:Str)(a b:Int):Option Str:=iK (0<=a/\a<=b/\b<=s.length) (aj (cut s a b))
theorem r_sls{s:Str}{k j:Option bo}{a b:Int}(f:P.underlying T=aj .string)(p:ρ x=bF s)(m:Qz (k.map ρ) a 0)(i:Qz (j.map ρ) b s.length)(n:0<=a)(l:a<=b)(t:b<=s.length):
    (bl ρ ⟨d,.slice T x k j aE,ty,pos,af,g⟩).run P w=.ok (.value (bF (cut s a b))) w:=by
  obtain⟨a,rfl⟩:=bs n;obtain⟨b,rfl⟩:=bs<|Int.le_trans n l;have o:a<=b:=by omega
  have q:b<=s.length:=by omega
  have r:cut s (a:Int) (b:Int)=(s.take b).drop a:=by simp[cut]
  have h:(jj T (bF s) (k.map ρ) (j.map ρ) aE).run P w=.ok (bF ((s.take b).drop a)) w:=by
    unfold bF;rcases m with⟨e1,e2⟩|e1<;>rcases i with⟨e3,e4⟩|e3
    · have c:a=0:=by omega
      have e:b=s.length:=by omega
      subst c e;rw[e1,e3,run_slice_string_all w T _ f,str_ex,vU]
    · have c:a=0:=by omega
      subst c;rw[e1,e3,run_slice_string_to_if w T _ _ _ f,if_pos ⟨by omega,by rw[vU];omega⟩,str_ex];simp
    · have e:b=s.length:=by omega
      subst e;rw[e1,e3,run_slice_string_from_if w T _ _ _ f,if_pos ⟨by omega,by rw[vU];omega⟩,str_ex,vU];simp
    · rw[e1,e3,run_slice_string w T _ _ _ _ _ f V V (by rw[vU];omega),str_ex];simp
  rw[r];simp only[bl,cv,da,p,Option.map_none,run_sliceAt_string w T _ _ _ _ f,h,bp]
theorem r_slsE{s r:Str}{i h:Option bo}{a b:Int}(k:r=cut s a b)(j:P.underlying T=aj .string)(l:ρ x=bF s)(f:Qz (i.map ρ) a 0)(c:Qz (h.map ρ) b s.length)(m:0<=a)(e:a<=b)(n:b<=s.length):
  (bl ρ ⟨d,.slice T x i h aE,ty,pos,af,g⟩).run P w=.ok (.value (bF r)) w:=by
 subst k;exact r_sls j l f c m e n
theorem o_subs{s r:Str}{a b:Int}(h:subs? s a b=aj r):0<=a/\a<=b/\b<=s.length/\r=cut s a b:=by
 obtain⟨c,d⟩:=bG h;exact⟨c.1,c.2.1,c.2.2,(cM d).symm⟩
theorem Yi{α:Type}{R:lL α}{E c:ba}{l a:Nat}{A:BS}{k:Nat}(m:kJ P T E l a)(C:R.sz=l)(o:P.underlying c=aj (.int .i64))(F:ev n env x=.slice aE 0 0)(B:ev n env y=.int .i64 (k:Nat))(u:0<k)(r:0<a)
    (t:k*a<=140737488355328)
    (h:∀w' gg cap,Grow w w'->w.heap.size<=gg->gg<w'.heap.size->k<=cap->cO R E w' A (.slice (aj ⟨gg,0,aE⟩) 0 cap) ([]:List α)->WL P ops Q rest n (gG env d (.slice (aj ⟨gg,0,aE⟩) k cap)) w'):
    WL P ops Q (⟨d,.call {callee:=.builtin .append,args:= #[x,y],argTypes:= #[T,c]},ty,pos,af,aE⟩::rest) n env w:=by
  obtain⟨i,z,q,hz,s,f,e⟩:=m.info;have j:=R.pos;have v:k<=k*a:=lj _ r;have p:=Lib.run_append_nil_zeros (P:=P) w T c ty E i z .i64 .i64 m.desc o q hz k u V V (by rw[f];omega);have b:(bl (ev n env) ⟨d,.call {callee:=.builtin .append,args:= #[x,y],argTypes:= #[T,c]},ty,pos,af,aE⟩).run P w=.ok (.value<|.slice (aj ⟨w.heap.size,0,aE⟩) k<|gE w k 0 E) (w.drew.alloc<|.cells (cy z.cells k++cy z.cells (gE w k 0 E-k)) E):=by
    simp only[bl,gS,jx,iU,cv,da,bp,fL,ck,ep,F,B,p]
  have hge:=grownCap_ge w k 0 E;have g:gE w k 0 E<=maxLen:=te w k 0 E (by unfold kt;omega);refine J b<|h _ _ _ ((Grow.drew w).trans<|Grow.alloc _ _) (bt _) ?_ hge ⟨[],⟨by simp,.inr ⟨w.heap.size,_,_,Z,fv _,heap_alloc_new w.drew _,fv _,g,?_,by simp⟩⟩,fun i h=>absurd h<|eM _⟩
  · show w.heap.size<(w.drew.alloc _).heap.size;rw[alloc_size];exact sk _
  · rw[Array.size_append,ku,ku,e,C,<-cj];congr 1;omega
end
open Go.RowKit
structure qH(P:ca)(g:Nat)(w:ao):Prop where
 pow:oc P w "internal/strconv.uint64pow10" .u64 Lib.pow10Tab
 syn:∃t p,w.var? P "strconv.ErrSyntax" =aj #[.iface t p]
 ran:∃t p,w.var? P "strconv.ErrRange" =aj #[.iface t p]
 max:∃m,w.cell? ⟨g,0,aE⟩=aj (.int .i64 m)
 many:P.globals.size<=w.heap.size
 gmax:g<P.globals.size
 asc:∀q,P.globalNamed "strings.asciiSpace" =aj q->oc P w "strings.asciiSpace" .u8 Lib.asciiSpaceTab
theorem Yj{P:ca}{s:String}{i:Nat}(h:P.globalNamed s=aj i):i<P.globals.size:=by
  unfold Program.globalNamed at h;split at h
  · rename_i g a;cases h;have:i∈(List.range P.globals.size).filter fun g=>(P.globals[g]?).any (·.name==s):=by rw[a];simp
    exact List.mem_range.1 (List.mem_filter.1 this).1
  · cases h
theorem bL.var{P:ca}{K:BS}{w w':ao}{s:String}{cs:Array al}(a:bL K w w')(c:∀b,K b->P.globals.size<=b)(h:w.var? P s=aj cs):w'.var? P s=aj cs:=by
 unfold World.var? at h⊢;cases hg:P.globalNamed s with
 |none=>simp[hg]at h
 |some g=>
  have e:=Yj hg;simp only[hg,cH]at h⊢;cases hb:w.heap[g]? with
  |none=>simp[hb]at h
  |some o=>rw[a.blk hb (fun d=>absurd (c _ d) V)];rw[hb]at h;exact h
theorem qH.SV{P:ca}{g:Nat}{K:BS}{w w':ao}(h:qH P g w)(a:bL K w w')(c:∀b,K b->P.globals.size<=b):qH P g w':=by
 obtain⟨r,⟨n,l,j⟩,⟨k,i,s⟩,⟨m,d⟩,t,f,p⟩:=h;refine⟨a.var c r,⟨n,l,a.var c j⟩,⟨k,i,a.var c s⟩,⟨m,?_⟩,dv t a.size,f,fun q e=>a.var c<|p q e⟩;unfold eV at d⊢;cases hb:w.heap[g]? with
 |none=>simp[hb]at d
 |some o=>rw[a.blk hb (fun e=>absurd (c _ e) V)];rw[hb]at d;exact d
theorem qH.go{P:ca}{g:Nat}{w w':ao}(h:qH P g w)(a:Grow w w'):qH P g w':=h.SV a (fun _ h=>h.elim)
theorem SH.AL{P:ca}{g:Nat}{w0 w:ao}{M K:BS}{hp:Nat->Chunk}{C:Chunk}(h:SH w0 M K w hp)(a:qH P g w0)(c:∀b,K b->P.globals.size<=b)(i:Nat)(d:hp i=C):∀b,C.own' b->P.globals.size<=b:=by
  subst d;intro b e;rcases cD b w0.heap.size with hl|hl
  · exact c b<|h.old i b e hl
  · exact dv a.many hl
theorem Grow.drewN(w:ao)(k:Nat):Grow w (w.drewN k):=⟨rfl,rfl,rfl,bt _,fun _ _ _=>rfl⟩
theorem Grow.QD{w:ao}{os:Array Obj}:Grow w (Sort.grow w os):=⟨rfl,rfl,rfl,by simp[Sort.grow],fun b _ a=>by simp[Sort.grow,Array.getElem?_append_left a]⟩
def N9(n:Int):Option Str:=iK (kN n) (aj (dr n))
def JD(s:Str):Option (Int×Bool):=iK (s.length<=281474976710656) (aj (match ew s with| .ok v=>(v,aq)| .range=>(pS s,ar)|_=>(0,ar)))
def parseS(s:Str):Option (Int×Bool):=iK (s.length<=281474976710656) (aj (match Lib.parseIntB 64 s with| .ok v=>(v,aq)| .range=>(Lib.intSat 64 s,ar)|_=>(0,ar)))
def Yk(l:List Str)(a:Str):Option Str:=iK (l.length<=140737488355328/\(oi l a).length<=140737488355328) (aj (oi l a))
def QW(s a:Str):Option (List Str):=iK (s.length<4294967281/\1<=a.length) (aj (sq s a))
def cutS(s a:Str):Option (Str×Str×Bool):=iK (s.length<4294967281) (aj (mR s a))
section
variable{P:ca}{g:Nat}{w0:ao}{f:fS}{M:BS}
theorem itoa_w(d:∀n,-9223372036854775808<=n->n<=9223372036854775807->∀w,oc P w "internal/strconv.uint64pow10" .u64 Lib.pow10Tab->bD P f #[.int .i64 n] w fun e w'=>e=.returned (.string ⟨(dr n).toArray⟩)/\∃k os,w'=Sort.grow (w.drewN k) os)
  (c:qH P g w0) {a:Int} {r:Str} (b:N9 a=aj r):bD P f #[.int .i64 a] w0 (fun e w'=>Grow w0 w'/\e=.returned (bF r)):=by
 obtain⟨h,b⟩:=bG b;cases b;refine(d a h.1 h.2 w0 c.pow).mono ?_;rintro e w'⟨rfl,k,os,rfl⟩;exact⟨(Grow.drewN w0 k).trans Grow.QD,Z⟩
theorem bw_grow(w:ao)(t:ba)(s:ByteArray):Grow w (th w t s):=⟨rfl,rfl,rfl,by rw[Lib.bytesWorld_size];omega,fun b _ a=>Lib.bytesWorld_at_old w t _ b a⟩
theorem atoi_w{l a b:ba}{nm:ByteArray}(n:∀s:ByteArray,s.size<=9223372036854775806->∀v,ew s.data.toList=.ok v->∀w,bD P f #[.string s] w fun e w'=>e=.returned (.tuple #[.int .i64 v,.nilIface])/\(w'=w\/∃t,w'=th w l t))
    (x:∀s:ByteArray,s.size<=281474976710656->∀e,ew s.data.toList=e->(∀v,e≠ .ok v)->e≠ .range->∀d p w,w.var? P "strconv.ErrSyntax" =aj #[.iface d p]->bD P f #[.string s] w fun e w'=>∃N,e=.returned (.tuple #[.int .i64 0,.iface a (.pointer (aj ⟨N,0,aE⟩))])/\w.heap.size<=N/\w'.heap[N]? =aj (.cells #[.string nm,.string s,.iface d p] b (0,0))/\Below w.heap.size w w')
    (o:∀s:ByteArray,s.size<=281474976710656->ew s.data.toList=.range->∀d p w,w.var? P "strconv.ErrRange" =aj #[.iface d p]->bD P f #[.string s] w fun e w'=>∃N,e=.returned (.tuple #[.int .i64 (pS s.data.toList),.iface a (.pointer (aj ⟨N,0,aE⟩))])/\w.heap.size<=N/\w'.heap[N]? =aj (.cells #[.string nm,.string s,.iface d p] b (0,0))/\Below w.heap.size w w')
    (k:qH P g w0) {s:Str} {r:Int×Bool} (c:JD s=aj r):bD P f #[bF s] w0 (fun e w'=>Grow w0 w'/\∃u,e=.returned (.tuple #[.int .i64 r.1,u])/\IsErr u r.2):=by
  obtain⟨h,c⟩:=bG c;have q:=vU s;cases hq:ew s with
  |ok v=>
    rw[hq]at c;cases c;refine(n ⟨s.toArray⟩ V v (by simpa using hq) w0).mono ?_;rintro e w'⟨rfl,m⟩;refine⟨?_,_,Z,.inl ⟨Z,Z⟩⟩;rcases m with rfl|⟨t,rfl⟩
    · exact bL.refl _ _
    · exact bw_grow _ _ _
  |range=>
    rw[hq]at c;cases c;obtain⟨t,p,j⟩:=k.ran;refine(o ⟨s.toArray⟩ V (by simpa using hq) t p w0 j).mono ?_;rintro e w'⟨N,rfl,_,_,i⟩;refine⟨Grow.of_below i,.iface a<|.pointer<|some ⟨N,0,aE⟩,by simp,.inr ⟨Z,_,_,Z⟩⟩
  |_=>
    rw[hq]at c;cases c;obtain⟨t,p,j⟩:=k.syn;refine(x ⟨s.toArray⟩ V _ (by simpa using hq) (fun v=>by simp) zq3 t p w0 j).mono ?_;rintro e w'⟨N,rfl,_,_,i⟩;exact⟨Grow.of_below i,_,Z,.inr ⟨Z,_,_,Z⟩⟩
theorem rdStr_at{A B:BS}{a:Option ks}{n c:Nat}{l:List Str}(s:eD uK w0 B A (.slice a n c) l)(v:0<l.length):∃f o,a=aj ⟨f,o,aE⟩/\f<w0.heap.size/\∀j x,l[j]? =aj x->w0.cell? ⟨f,o+j,aE⟩=aj (bF x):=by
  obtain⟨a',cap,g,z,w,C,k⟩:=s;cases g;obtain⟨b,o,cells,E,F,rfl,_,t,_⟩:=k 0 v;refine⟨b,o,Z,iW t,fun j x p=>?_⟩;obtain⟨h,e⟩:=List.getElem?_eq_some_iff.1 p;obtain⟨b',G,d,y,q,g,_,u,m⟩:=k j h;cases g;have i:hY 1 (ml (o+j*1) d.toList)=[bF l[j]]:=m;rw[mm]at i;have r:d.toList[o+j]? =aj (bF l[j]):=by
    have:=congrArg (·[0]?) i;simpa[cf,cw]using this
  rw[<-e];simpa[eV,u]using r
theorem join_w(q:∀(a:Option ks) (c:Nat) (b:ByteArray) (w:ao),bD P f #[.slice a 0 c,.string b] w fun e w'=>e=.returned (.string ⟨#[]⟩)/\w'=w)
    (t:∀(g o c:Nat) (xs:List ByteArray) (b:ByteArray) (w:ao),(∀(j:Nat) x,xs[j]? =aj x->w.cell? ⟨g,o+j,aE⟩=aj (.string x))->g<w.heap.size->xs.length<=140737488355328->xs.length<=c->(oi (xs.map (·.data.toList)) b.data.toList).length<=140737488355328->
      bD P f #[.slice (aj ⟨g,o,aE⟩) xs.length c,.string b] w fun e w'=>e=.returned (.string ⟨(oi (xs.map (·.data.toList)) b.data.toList).toArray⟩)/\Below w.heap.size w w')
    {v:al} {A B:BS} {l:List Str} {b r:Str} (n:eD uK w0 B A v l) (k:Yk l b=aj r):bD P f #[v,bF b] w0 (fun e w'=>Grow w0 w'/\e=.returned (bF r)):=by
  obtain⟨h,k⟩:=bG k;cases k;have i:=n;obtain⟨a,cap,rfl,k1,k2,C,E⟩:=n;cases l with
  |nil=>
    refine(q a cap _ w0).mono ?_;rintro e w'⟨rfl,rfl⟩;exact⟨bL.refl _ _,Z⟩
  |cons x l=>
    obtain⟨g,o,rfl,u,z⟩:=rdStr_at i zq3;have m:((x::l).map fun s=>(⟨s.toArray⟩:ByteArray)).map (·.data.toList)=x::l:=by simp[Function.comp_def]
    have:=t g o cap ((x::l).map fun s=>⟨s.toArray⟩) ⟨b.toArray⟩ w0 (fun j y d=>by
      rw[eg]at d;cases hq:(x::l)[j]? with
      |none=>rw[hq]at d;cases d
      |some s=>rw[hq]at d;cases d;exact z j s hq) u (by simpa using h.1) (by simpa using k1) (by rw[m];simpa using h.2)
    rw[m,cF]at this;refine this.mono ?_;rintro e w'⟨rfl,p⟩;exact⟨Grow.of_below p,by simp[bF]⟩
theorem strs_rd{E:ba}{l:List ByteArray}{A:BS}{cells:Array al}{cap:Nat}(w:ao)(i:∀b,A b->b<w.heap.size)(c:l.length<=cap)(g:cap<=kt)(a:∀j (h:j<l.length),cells[j]? =aj (.string l[j])):dn uK (w.alloc (.cells cells E)) A (.slice (aj ⟨w.heap.size,0,aE⟩) l.length cap) (l.map (·.data.toList)):=by
  refine⟨aj ⟨w.heap.size,0,aE⟩,cap,by simp,by simpa using c,g,(fun h=>by cases h),fun j k=>⟨w.heap.size,0,cells,E,(0,0),Z,?_,Py w _,?_⟩⟩
  · intro m;exact Nat.lt_irrefl _ (i _ m)
  · have f:j<l.length:=by simpa using k
    show hY 1 (ml (0+j*1) cells.toList)=_;have e:=a j f;have d:j<cells.toList.length:=by
      rw[ct];rcases cD j cells.size with q|q
      · exact q
      · rw[la q]at e;cases e
    rw[fX,mm,cS d];have:cells.toList[j]=.string l[j]:=by
      have:=e;rw[<-iu,bh d]at this;exact cM this
    rw[this];simp[bF]
theorem split_w{E:ba}(v:∀(s a:ByteArray) (m:Int) (w:ao),s.size<4294967281->w.cell? ⟨g,0,aE⟩=aj (.int .i64 m)->1<=a.size->
  bD P f #[.string s,.string a] w fun e w'=>e=.returned (.slice (aj ⟨w.heap.size,0,aE⟩) (gd s a+1) (gd s a+1))/\w'=w.alloc (.cells ((rb a 0 (gd s a) s).map lp).toArray E))
  (p:∀b,M b->b<w0.heap.size) (o:qH P g w0) {s a:Str} {r:List Str} (c:QW s a=aj r):bD P f #[bF s,bF a] w0 (fun e w'=>Grow w0 w'/\∃u,e=.returned u/\dn uK w' M u r):=by
 obtain⟨h,c⟩:=bG c;cases c;obtain⟨m,i⟩:=o.max;refine(v ⟨s.toArray⟩ ⟨a.toArray⟩ m w0 (by rw[vU];exact h.1) i (by rw[vU];exact h.2)).mono ?_;rintro e w'⟨rfl,rfl⟩;refine⟨Grow.alloc _ _,_,Z,?_⟩;have d:=Lib.splitB_all ⟨a.toArray⟩ (by rw[vU];exact h.2) 0 _ ⟨s.toArray⟩ Z;have t:=Lib.splitB_data ⟨a.toArray⟩ 0 (gd ⟨s.toArray⟩ ⟨a.toArray⟩) ⟨s.toArray⟩;have q:gd ⟨s.toArray⟩ ⟨a.toArray⟩=Lib.count s a:=by simp[gd]
 have n:=Lib.countB_le ⟨a.toArray⟩ (by rw[vU];exact h.2) _ ⟨s.toArray⟩ (bt _);rw[vU]at n;have:=strs_rd (E:=E) (l:=rb ⟨a.toArray⟩ 0 (gd ⟨s.toArray⟩ ⟨a.toArray⟩) ⟨s.toArray⟩) (cap:=gd ⟨s.toArray⟩ ⟨a.toArray⟩+1) (cells:=((rb ⟨a.toArray⟩ 0 (gd ⟨s.toArray⟩ ⟨a.toArray⟩) ⟨s.toArray⟩).map lp).toArray) w0 p (by rw[d];exact bt _) (by unfold kt;omega) (fun j k=>by simp[k]);rw[d,t]at this;simpa[sq,q]using this
theorem cut_w(i:∀(s a:ByteArray) (m:Int) (w:ao),s.size<4294967281->w.cell? ⟨g,0,aE⟩=aj (.int .i64 m)->bD P f #[.string s,.string a] w fun e w'=>e=.returned (.tuple #[.string ⟨(mR s.data.toList a.data.toList).1.toArray⟩,.string ⟨(mR s.data.toList a.data.toList).2.1.toArray⟩,.bool (mR s.data.toList a.data.toList).2.2])/\∃n,w'=w.drewN n)
  (d:qH P g w0) {s a:Str} {r:Str×Str×Bool} (b:cutS s a=aj r):bD P f #[bF s,bF a] w0 (fun e w'=>Grow w0 w'/\e=.returned (.tuple #[bF r.1,bF r.2.1,.bool r.2.2])):=by
 obtain⟨h,b⟩:=bG b;cases b;obtain⟨m,c⟩:=d.max;refine(i ⟨s.toArray⟩ ⟨a.toArray⟩ m w0 (by rw[vU];exact h) c).mono ?_;rintro e w'⟨rfl,n,rfl⟩;exact⟨Grow.drewN _ _,by simp[bF]⟩
end
open Go.RowKit
section
variable{P:ca}{ops:Array ef}{Q:fh->Act->ao->Prop}{n:Nat}{env:Nat->al}{w w' w0:ao}{M K:BS}{hp:Nat->Chunk}{rest:List ef}
 {d:Option Nat} {op:Op} {ty:ba} {pos:String} {af:Array hH} {v:al} {g:Option (Nat×Bool)} {T:ba} {ρ:bo->al} {x y:bo} {i fuel:Nat} {listed:Array Bool}
theorem SH.mi{c:Chunk}(h:SH w0 M K w hp)(i:Nat)(e:hp i=c)(d:bL c.own' w w'):SH w0 M K w' (bW hp i .no):=
 h.step i d (fun b a _=>by rw[e];exact a) (fun b a=>a.elim) U
theorem SH.CK{c e:Chunk}(h:SH w0 M K w hp)(i j:Nat)(a:i≠j)(g:hp i=c)(f:hp j=e)(d:bL (fun b=>c.own' b\/e.own' b) w w'):SH w0 M K w' (bW (bW (bW hp j .no) i (.two (hp i) (hp j))) i .no):=by
 refine(h.pair i j a).mi i (c:=.two (hp i)<|hp j) (cu _ _ _) ?_;rw[g,f];exact d
theorem l9{zs:List al}(h:SH w0 M K w hp)(i:Nat)(a:vN P T zs)(k:∀w' b,SH w0 M K w' (bW hp i (.blk b zs))->Grow w w'->w.heap.size<=b->WL P ops Q rest n (gG env d (.pointer (aj ⟨b,0,aE⟩))) w'):WL P ops Q (⟨d,.alloc T,ty,pos,af,aE⟩::rest) n env w:=
 J (r_allocN a) (k _ _ (h.newB i zs T) (Grow.alloc _ _) (bt _))
theorem fA{z:al}{b o:Nat}{cs:List al}(h:SH w0 M K w hp)(i:Nat)(a:List al)(c:hp i=.blk b cs)(l:One P T z)(m:ev n env x=.pointer (aj ⟨b,o,aE⟩))(j:ev n env y=v)(ho:cs.set o v=a)(e:nc o cs.length=ar)(p:v.oneCell'=ar)
  (k:∀w',SH w0 M K w' (bW hp i (.blk b a))->bL (fun x=>x=b) w w'->WL P ops Q rest n (gG env d fO) w'):
  WL P ops Q (⟨d,.store T x y,ty,pos,af,aE⟩::rest) n env w:=by
 obtain⟨E,f⟩:=h.Av i c;have:=h.putB i c a E;subst ho;have q:=SB (d:=d) (ty:=ty) (pos:=pos) (af:=af) (g:=aE) l m f (by rw[lz]at e;simpa using e) j p;refine Bg q<|k _ ?_<|bL.wW _ _ _;simpa using this
theorem ma{zs vs:List al}{b o:Nat}{cs:List al}(h:SH w0 M K w hp)(i:Nat)(a:List al)(e:hp i=.blk b cs)(l:vN P T zs)(m:ev n env x=.pointer (aj ⟨b,o,aE⟩))(j:ev n env y=.agg vs.toArray)(g:vs.length=zs.length)(ho:Ma cs o vs=a)(f:ld (o+vs.length) cs.length=ar)(p:∀v∈vs,v.oneCell'=ar)
  (k:∀w',SH w0 M K w' (bW hp i (.blk b a))->bL (fun x=>x=b) w w'->WL P ops Q rest n (gG env d fO) w'):
  WL P ops Q (⟨d,.store T x y,ty,pos,af,aE⟩::rest) n env w:=by
 obtain⟨E,c⟩:=h.Av i e;subst ho;exact Bg (SC l m c j g (gn f) p)<|k _ (h.putB i e _ E)<|bL.wW _ _ _
theorem mD{α:Type}{R:lL α}{E:ba}{o c:Nat}{u:al}{l m:List α}(h:SH w0 M K w hp)(i:Nat)(f:hp i=.own R E v l)(q:eD R w BE (SH.A M hp) u m)(z:kJ P T E o c)(B:R.sz=o)(C:ev n env x=v)(t:ev n env y=u)
    (a:(l.length+m.length)*c<=140737488355328) (r:l.length+m.length<=9223372036854775807)
    (k:∀w' e,SH w0 M K w' (bW hp i (.own R E e (l++m)))->bL (ob v) w w'->(∀b,ob e b->b<w.heap.size->ob v b)->WL P ops Q rest n (gG env d e) w'):
    WL P ops Q (⟨d,.call {callee:=.builtin .append,args:= #[x,y],argTypes:= #[T,T]},ty,pos,af,aE⟩::rest) n env w:=by
  obtain⟨e,w',F,G,p,j⟩:=run_app (d:=d) (ty:=ty) (pos:=pos) (af:=af) (g:=aE) z B C (h.bH i f) t q (fun b a=>.inr ⟨i,by rw[f];exact a⟩) a r;refine J F (k w' e (h.step i p (fun b a _=>by rw[f];exact a) (fun b a s=>by rw[f];exact j b a s) ?_) p j);refine cO.go G (bL.refl BE w') (fun _ h=>h.elim) (fun _ h=>h.elim) fun b a _=>?_;rcases a with a|a|a
  · exact .inl<|.inl a
  · exact .inl<|.inr<|lM a
  · exact .inr a
theorem XU{E u:ba}{l s:Str}(h:SH w0 M K w hp)(i:Nat)(c:hp i=.own iR E v l)(r:kJ P T E 1 1)(hz:One P E (.int .u8 0))(p:P.underlying u=aj .string)(t:ev n env x=v)(q:ev n env y=bF s)
  (m:(l.length+s.length)*1<=140737488355328) (j:l.length+s.length<=9223372036854775807)
  (k:∀w' a,SH w0 M K w' (bW hp i (.own iR E a (l++s)))->bL (ob v) w w'->(∀b,ob a b->b<w.heap.size->ob v b)->WL P ops Q rest n (gG env d a) w'):
  WL P ops Q (⟨d,.call {callee:=.builtin .append,args:= #[x,y],argTypes:= #[T,u]},ty,pos,af,aE⟩::rest) n env w:=by
 obtain⟨a,w',o,z,f,e⟩:=run_appS (d:=d) (ty:=ty) (pos:=pos) (af:=af) (g:=aE) r hz p t (h.giveO i c) q m j;exact J o<|k w' a (h.given i c z f e) f e
theorem fK{f:sg}{R:mg->ao->Prop}{u a:Tmp}{T:ba}{v2:al}{zs vs:List al}{b:Nat}(j:f.results= #[.cell a T,.tmp u])(k:ev n env (.tmp a)=.pointer (aj ⟨b,0,aE⟩))(p:ev n env (.tmp u)=v2)
  (g:SH w0 M K w hp) (i:Nat) (l:hp i=.blk b vs) (o:vN P T zs) (m:vs.length=zs.length) (h:R (.returned (.tuple #[.agg vs.toArray,v2])) w):jn P f R .ret (act n env) w:=by
 refine⟨Z,_,?_,h⟩;have d:=congrFun (gX n env)<|.tmp u;have c:=congrFun (gX n env)<|.tmp a;rw[p]at d;rw[k]at c;simp only[hS]at d c;rw[cV]at d c;have e:=CJ (P:=P) g l o m Z;unfold results;rw[j];simp[d,c,asAddr,e]
theorem SX{g:sg}{R:mg->ao->Prop}{t u a:Tmp}{T:ba}{v2 v3:al}{zs vs:List al}{b:Nat}(l:g.results= #[.cell a T,.tmp t,.tmp u])(o:ev n env (.tmp a)=.pointer (aj ⟨b,0,aE⟩))(q:ev n env (.tmp t)=v2)(r:ev n env (.tmp u)=v3)
  (k:SH w0 M K w hp) (i:Nat) (p:hp i=.blk b vs) (m:vN P T zs) (j:vs.length=zs.length) (h:R (.returned (.tuple #[.agg vs.toArray,v2,v3])) w):jn P g R .ret (act n env) w:=by
 refine⟨Z,_,?_,h⟩;have d:=congrFun (gX n env)<|.tmp t;have e:=congrFun (gX n env)<|.tmp u;have c:=congrFun (gX n env)<|.tmp a;rw[q]at d;rw[r]at e;rw[o]at c;simp only[hS]at d e c;rw[cV]at d e c;have f:=CJ (P:=P) k p m j Z;unfold results;rw[l];simp[d,e,c,asAddr,f]
theorem fin3{e:sg}{R:mg->ao->Prop}{t u a:Tmp}{v1 v2 v3:al}(i:e.results= #[.tmp t,.tmp u,.tmp a])(f:ev n env (.tmp t)=v1)(j:ev n env (.tmp u)=v2)(g:ev n env (.tmp a)=v3)(h:R (.returned (.tuple #[v1,v2,v3])) w):jn P e R .ret (act n env) w:=by
 refine⟨Z,_,?_,h⟩;have c:=congrFun (gX n env)<|.tmp t;have d:=congrFun (gX n env)<|.tmp u;have b:=congrFun (gX n env)<|.tmp a;rw[f]at c;rw[j]at d;rw[g]at b;simp only[hS]at c d b;rw[cV]at c d b;unfold results;rw[i];simp[c,d,b]
theorem At.grow{b o:Nat}{cs:List al}(h:At w b o cs)(a:Grow w w'):At w' b o cs:=by
 obtain⟨cells,E,d,c,e⟩:=h;exact⟨cells,E,d,a.blk c,e⟩
theorem yg{ws w:ao}{v u:al}(hz:ws.heap.size<=w.heap.size)(d:∀b,ob v b->ws.heap.size<=b)(hn:∀b,ob u b->b<w.heap.size->ob v b):∀b,ob u b->ws.heap.size<=b:=
 fun b c=>sf fun a=>Nat.not_lt_of_le (d b (hn b c (cr a hz))) a
def EffOk(P:ca)(ops:Array ef)(Q1:Nat->fh->Act->ao->Prop)(n:Nat)(env:Nat->al)(w:ao)(i:Nat):Prop:=
 ∃d op ty pos af g,ops[i]? =aj ⟨d,op,ty,pos,af,g⟩/\cp ⟨d,op,ty,pos,af,g⟩ (ej ops (act n env).tmps)=ar/\WL P ops (Q1 i) [⟨d,op,ty,pos,af,aE⟩] n env w
theorem UT{Q1:Nat->fh->Act->ao->Prop}(i:Nat)(b:ops[i]? =aj ⟨d,op,ty,pos,af,g⟩)(a:cp ⟨d,op,ty,pos,af,g⟩ (ej ops (act n env).tmps)=ar)(h:WL P ops (Q1 i) [⟨d,op,ty,pos,af,aE⟩] n env w):EffOk P ops Q1 n env w i:=⟨_,_,_,_,_,_,b,a,h⟩
def EffAll(P:ca)(ops:Array ef)(Q1:Nat->fh->Act->ao->Prop)(n:Nat)(env:Nat->al)(w:ao):List Nat->Prop
 |[]=>True
 |i::r=>EffOk P ops Q1 n env w i/\EffAll P ops Q1 n env w r
theorem Yl{Q1:Nat->fh->Act->ao->Prop}:∀{l:List Nat},EffAll P ops Q1 n env w l->∀k∈l,EffOk P ops Q1 n env w k
  |i::r,⟨h1,h2⟩,k,hk=>by
    rcases bn.1 hk with rfl|hk
    · exact h1
    · exact Yl h2 k hk
theorem whk_effs{L:BS}{ws:ao}(l:List Nat)(b:cN .any ops listed=l)(j:l≠[])
  (h:EffAll P ops (fun i=>UN P ops L ws Q fuel (listed.setIfInBounds i ar)) n env w l):XT P ops L ws Q (fuel+1) listed n env w:=by
 refine⟨nq b j fun k c=>?_⟩;obtain⟨d,op,ty,pos,af,g,e,a,f⟩:=Yl h k c;exact Ib e a f
end
open Go.RowKit Go.ChangeShapes
theorem returns_laid{b:Type}{enc:ba×al->b}{a:Assume}{C:Checked}{os:Os}{f:fS}{p:sg}{s:ChangeSpec}{l:List PathCond}{d fresh k again:Bool}{X:ao->Array al->Prop}
  (M:∀(w w':ao) (args:Array al),w.heap=w'.heap->X w args->X w' args)
  (own:ownKnob C.prog.godebug=aE) (o:os.Started) (q:C.prog.inits.idxOf? f=aE) (G:C.prog.funcs[f]? =aj p)
  (n:∃(w:ao) (g:Tape) (i:Input),w.os=os/\(w.forCall g i).Shaped C.prog/\i.vars=[]/\Input.okWide C.prog (w.forCall g i) .any w.heap.size f i/\
   ((s.pre enc C.prog p l d (w.forCall g i).memory i.args/\X (w.forCall g i).memory i.args)/\sizedMet enc C.prog p (OpenSpec.ofChange s) d (w.forCall g i).memory i.args)/\a.holds C.prog (lone (Frame.enter C.prog f i.args .normal) [] (w.forCall g i)))
  (m:∀(c:ao) (y:Nat) (args:Array al) (z A:List (DataW b)) (h:List ph),
   (∀(j:Nat) t v,p.params[j]? =aj t->args[j]? =aj v->Value.okWide C.prog c .any y t v)->
   DataW.Whole enc C.prog p.params.toList s.vars d c args.toList z A h->
   l.all (PathCond.test C.prog ⟨p.params.toList,z,s.plain.varTypes C.prog,A⟩)=ar->X c args->c.ShapedOpen C.prog->
   bD C.prog f args c fun e K=>∃v,e=.returned v/\s.post enc C.prog p d fresh k again c args v K):
  ReturnsInHanded a C os f .any (fun w args=>(s.pre enc C.prog p l d w args/\X w args)/\sizedMet enc C.prog p (OpenSpec.ofChange s) d w args) (s.post enc C.prog p d fresh k again):=by
 refine returnsInHanded_of_calls own o q n ?_;intro w g i _ F _ E x _;obtain⟨_,_,_,I,u,_,_,_,_,r⟩:=E;have e:I=p:=cM<|u.symm.trans G;subst e;obtain⟨⟨⟨z,A,h,L,P⟩,O⟩,_⟩:=x;have B:=DataW.Whole.of_heap (w':=w.forCall g i) (by rfl) L;refine(m (w.forCall g i) w.heap.size i.args z A h r B P (M _ _ _ (by rfl) O) F).mono fun e K⟨v,N,hp⟩=>?_;subst N;exact ChangeSpec.post_blind hp
def laidIn(w:ao)(g:Nat)(a:Array al):World:=
 {w with heap:=w.heap.modify g fun| .cells _ t fz=>.cells a t fz|o=>o}
def tabCells:DataW Unit->Array al
 | .agg l=>(l.map fun| .lit (.int k z)=>dp k z|_=>Value.nilIface).toArray
 |_=> #[]
structure iI where
 safe:List UInt8
 wait:List UInt8
deriving DecidableEq
theorem puint_app(a:Nat)(c:UInt8):∀(l:Str),fk a (l++[c])=match fk a l with| .ok m=>fk m [c]|e=>e:=by
  intro l;induction l generalizing a with
  |nil=>simp[fk]
  |cons b r ih=>
    simp only[et,fk];split
    · split
      · rfl
      · split
        · rfl
        · rw[ih];rfl
    · rfl
theorem PG{k:Nat}(h:k<10):(UInt8.ofNat (48+k)).toNat=48+k:=by
 have:(48+k)%256=48+k:=Nat.mod_eq_of_lt V;simpa[UInt8.toNat_ofNat']using this
theorem puint_dec:∀(u:Nat),u<18446744073709551616->fk 0 (hF u)=.ok u:=by
  intro u;induction u using lE with
  |ind u ih=>
    intro b;rw[hF];split
    · rename_i h;simp only[fk];rw[PG h,if_pos V,if_neg V,if_neg V];congr 1;omega
    · rename_i h;have a:u%10<10:=mN _ zq1;rw[puint_app,ih (u / 10) V V];simp only[fk];rw[PG a,if_pos V,if_neg V,if_neg V];congr 1;omega
theorem dec_head:∀(u:Nat),∃c r,hF u=c::r/\48<=c.toNat/\c.toNat<=57:=by
  intro u;induction u using lE with
  |ind u ih=>
    rw[hF];split
    · rename_i h;exact⟨_,[],Z,by rw[PG h];omega,by rw[PG h];omega⟩
    · rename_i h;obtain⟨c,r,a,d,b⟩:=ih (u / 10) V;exact⟨c,r++[UInt8.ofNat (48+u%10)],by rw[a];rfl,d,b⟩
theorem dec_chars:∀(u:Nat),∀c∈hF u,48<=c.toNat/\c.toNat<=57:=by
  intro u;induction u using lE with
  |ind u ih=>
    rw[hF];split
    · rename_i h;intro c a;simp only[eS]at a;subst a;rw[PG h];omega
    · rename_i h;have b:u%10<10:=mN _ zq1;intro c a;rcases cR.1 a with a|a
      · exact ih (u / 10) V c a
      · simp only[eS]at a;subst a;rw[PG b];omega
theorem itoa_chars(n:Int):∀c∈dr n,45<=c.toNat/\c.toNat<=57:=by
  intro c a;unfold dr at a;split at a
  · rcases bn.1 a with rfl|a
    · decide
    · have:=dec_chars _ c a;omega
  · have:=dec_chars _ c a;omega
theorem itoa_free{n:Int}{c:UInt8}(h:c.toNat<45):c∉dr n:=fun a=>by have:=itoa_chars n c a;omega
theorem mag_dec{u:Nat}(h:u<18446744073709551616):Lib.parseMag (hF u)=.ok u:=by
 obtain⟨c,r,a,_,_⟩:=dec_head u;unfold Lib.parseMag;rw[if_neg (by rw[a];simp),puint_dec u h]
theorem atoi_itoa{n:Int}(h:kN n):ew (dr n)=.ok n:=by
  obtain⟨b,f⟩:=h;unfold dr;split
  · rename_i hn;unfold ew;simp only;rw[if_pos (.inr zq1),mag_dec V];simp only;rw[if_neg zq3,if_neg V];simp;omega
  · rename_i hn;obtain⟨c,r,e,d,a⟩:=dec_head n.toNat;rw[e];unfold ew;simp only;rw[if_neg V,<-e,mag_dec V];simp only;rw[if_neg V,if_neg V,if_neg V];congr 1;omega
def numOf(w:Str):Option Int:=match ew w with| .ok v=>if dr v=w then aj v else aE|_=>aE
theorem numOf_itoa{n:Int}(h:kN n):numOf (dr n)=aj n:=by simp[numOf,atoi_itoa h]
theorem numOf_some{w:Str}{n:Int}(h:numOf w=aj n):w=dr n/\kN n:=by
  unfold numOf at h;cases e:ew w with
  |ok v=>
    rw[e]at h;simp only at h;split at h
    · rename_i a;cases h;have:=Lib.atoiAll_bounds e;exact⟨a.symm,this⟩
    · cases h
  |_=>rw[e]at h;cases h
theorem itoa_len{n:Int}(h:kN n):(dr n).length<=21:=Lib.itoa_length_le n h.1 h.2
def jT(c:UInt8):Str->List Str
 |[]=>[[]]
 |b::r=>if b=c then []::jT c r else match jT c r with|x::xs=>(b::x)::xs|[]=>[[b]]
theorem Hq(c:UInt8):∀(s:Str),jT c s≠[]
  |[]=>by simp[jT]
  |b::r=>by
    unfold jT;split
    · simp
    · split<;>simp
theorem JE{c:UInt8}:∀{x:Str},c∉x->jT c x=[x]
 |[],_=>rfl
 |b::r,h=>by
  have a:¬b=c:=fun e=>h (by rw[e];exact eW);rw[jT,if_neg a,JE (x:=r) (fun e=>h (bk _ e))]
theorem BC{c:UInt8}{r:Str}:∀{x:Str},c∉x->jT c (x++c::r)=x::jT c r
 |[],_=>by simp[jT]
 |b::x,h=>by
  have a:¬b=c:=fun e=>h (by rw[e];exact eW);rw[et,jT,if_neg a,BC (x:=x) (fun e=>h (bk _ e))]
theorem idx1(c:UInt8):∀(s:Str),(ka s [c]= -1/\c∉s)\/∃x r,s=x++c::r/\c∉x/\ka s [c]=x.length
  |[]=>by left;exact⟨by simp[ka],by simp⟩
  |b::l=>by
    by_cases h:b=c
    · subst h;right;exact⟨[],l,Z,by simp,by simp[ka,nt]⟩
    · have a:¬c=b:=fun e=>h e.symm;have hp:nt [c] (b::l)=false:=by simp[nt,a]
      rcases idx1 c l with⟨h1,h2⟩|⟨x,r,h1,h2,h3⟩
      · left;refine⟨by rw[ka,hp,h1];simp,?_⟩;simp[h2,a]
      · right;refine⟨b::x,r,by rw[h1];rfl,by simp[h2,a],?_⟩;have:¬(ka l [c]== -1)=true:=by rw[h3];simp
        rw[ka,hp,if_neg zq3,if_neg this,h3];simp
theorem splitK_C(c:UInt8):∀(k:Nat) (s:Str),Lib.count s [c]=k->Lib.splitK [c] 0 k s=jT c s:=by
  intro k;induction k with
  |zero=>
    intro s a;rcases idx1 c s with⟨h1,h2⟩|⟨x,r,h1,h2,h3⟩
    · rw[JE h2];rfl
    · rw[Lib.count_hit zq3 h3]at a;omega
  |succ k ih=>
    intro s a;rcases idx1 c s with⟨h1,h2⟩|⟨x,r,h1,h2,h3⟩
    · rw[Lib.count_miss h1]at a;omega
    · have b:¬(ka s [c]== -1)=true:=by rw[h3];simp
      rw[Lib.count_hit zq3 h3]at a;have d:s.drop (x.length+[c].length)=r:=by rw[h1];simp
      rw[Lib.splitK,if_neg b,h3];simp only[Int.toNat_natCast,Nat.add_zero];rw[d]at a⊢;rw[ih r V,h1,BC h2,iv]
theorem split_C(c:UInt8)(s:Str):sq s [c]=jT c s:=splitK_C c _ s Z
def vV(c:UInt8)(l:List Str):Str:=oi l [c]
theorem BV(c:UInt8)(x:Str):vV c [x]=x:=Lib.join_one x [c]
theorem yR(c:UInt8)(x y:Str)(l:List Str):vV c (x::y::l)=x++c::vV c (y::l):=by
 unfold vV;rw[Lib.join_cons,Lib.join_cons];simp[Lib.joinTail]
theorem BX(c:UInt8):∀(s:Str),vV c (jT c s)=s
  |[]=>BV c []
  |b::r=>by
    have a:=BX c r;unfold jT;split
    · rename_i h;subst h;cases e:jT b r with
      |nil=>exact absurd e (Hq b r)
      |cons y l=>rw[yR,<-e,a];rfl
    · split
      · rename_i x xs e;rw[e]at a;cases xs with
        |nil=>rw[BV]at a⊢;rw[a]
        |cons y l=>rw[yR]at a⊢;rw[et,a]
      · rename_i e;exact absurd e<|Hq c r
theorem Xf(c:UInt8):∀(l:List Str),l≠[]->(∀x∈l,c∉x)->jT c (vV c l)=l
 |[],h,_=>absurd Z h
 |[x],_,h=>by rw[BV];exact JE (h x zq3)
 |x::y::l,_,h=>by
  rw[yR,BC (h x zq3),Xf c (y::l) zq3 (fun z hz=>h z (bk _ hz))]
theorem Mj(c:UInt8):∀(s:Str),(jT c s).length<=s.length+1
  |[]=>by simp[jT]
  |b::r=>by
    have a:=Mj c r;unfold jT;split
    · simp;omega
    · split
      · rename_i x xs e;rw[e]at a;simp at a⊢;omega
      · simp
theorem Ep(c:UInt8):∀(s x:Str),x∈jT c s->x.length<=s.length/\c∉x
  |[],x,h=>by simp[jT]at h;subst h;simp
  |b::r,x,h=>by
    unfold jT at h;split at h
    · rcases bn.1 h with rfl|h
      · simp
      · have:=Ep c r x h;exact⟨by simp;omega,this.2⟩
    · rename_i d;split at h
      · rename_i y f e;rcases bn.1 h with rfl|h
        · have:=Ep c r y (by rw[e];exact eW);refine⟨by simp;exact this.1,?_⟩;intro a;rcases bn.1 a with a|a
          · exact d a.symm
          · exact this.2 a
        · have:=Ep c r x (by rw[e];exact bk _ h);exact⟨by simp;omega,this.2⟩
      · rename_i e;exact absurd e<|Hq c r
theorem UU(c:UInt8)(m:Nat):∀(l:List Str),(∀x∈l,x.length<=m)->(vV c l).length<=l.length*(m+1)
 |[],_=>by simp[vV,Lib.join_nil]
 |[x],h=>by rw[BV];have:=h x zq3;simp;omega
 |x::y::l,h=>by
  have a:=h x zq3;have b:=UU c m (y::l) fun z hz=>h z<|bk _ hz;rw[yR,bc,bq,bq,Nat.succ_mul];omega
def Xg(c:UInt8)(s:Str):Option (List Int):=(jT c s).mapM numOf
theorem mapM_num_of{l:List Int}(h:∀x∈l,kN x):(l.map dr).mapM numOf=aj l:=by
 induction l with
 |nil=>rfl
 |cons x l ih=>
  rw[ck,mu,numOf_itoa (h x zq3),ih (fun y a=>h y (bk _ a))];rfl
theorem J7:∀{w:List Str} {l:List Int},w.mapM numOf=aj l->w=l.map dr/\∀x∈l,kN x
  |[],l,h=>by cases h;exact⟨Z,by simp⟩
  |x::w,l,h=>by
    rw[mu]at h;cases e:numOf x with
    |none=>rw[e]at h;cases h
    |some v=>
      rw[e]at h;cases e2:w.mapM numOf with
      |none=>rw[e2]at h;cases h
      |some m=>
        rw[e2]at h;cases h;obtain⟨c,f⟩:=J7 e2;obtain⟨d,b⟩:=numOf_some e;refine⟨by rw[ck,<-c,<-d],?_⟩;intro y a;rcases bn.1 a with rfl|a
        · exact b
        · exact f y a
theorem nums_join{c:UInt8}(d:c.toNat<45){l:List Int}(b:l≠[])(h:∀x∈l,kN x):Xg c (vV c (l.map dr))=aj l:=by
 unfold Xg;rw[Xf c _ (by simpa using b) (by intro x a;obtain⟨y,_,rfl⟩:=dL.1 a;exact itoa_free d)];exact mapM_num_of h
theorem join_nums{c:UInt8}{s:Str}{l:List Int}(h:Xg c s=aj l):s=vV c (l.map dr)/\(∀x∈l,kN x)/\l≠[]:=by
 obtain⟨a,b⟩:=J7 h;refine⟨by rw[<-a,BX],b,?_⟩;rintro rfl;exact Hq c s a
theorem Ym{n:Int}(h:kN n):N9 n=aj (dr n):=by unfold N9;rw[kC h]
theorem atoiS_eq{w:Str}(h:w.length<=281474976710656):JD w=aj (match ew w with| .ok v=>(v,aq)| .range=>(pS w,ar)|_=>(0,ar)):=by unfold JD;rw[kC h];all_goals (cases ew w<;>rfl)
theorem parseS_eq{w:Str}(h:w.length<=281474976710656):parseS w=aj (match ew w with| .ok v=>(v,aq)| .range=>(Lib.intSat 64 w,ar)|_=>(0,ar)):=by unfold parseS;rw[kC h,Lib.parseIntB_64];all_goals (cases ew w<;>rfl)
theorem splitS_eq{s:Str}(c:UInt8)(h:s.length<4294967281):QW s [c]=aj (jT c s):=by unfold QW;rw[kC ⟨h,bt _⟩,split_C]
theorem joinS_eq{l:List Str}(c:UInt8)(h:l.length<=140737488355328)(a:(vV c l).length<=140737488355328):Yk l [c]=aj (vV c l):=by unfold Yk;rw[kC ⟨h,a⟩];rfl
end Go.LX