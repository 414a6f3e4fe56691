/-
  What the law StoryMoves needs of our own library and of the walks, no more.
-/
import Derived.WalkKit
import Derived.Laws.StructEq
import Derived.ChangeKeysEq
import Derived.StillTail
import Derived.LoopN
import Derived.Deep.Quiet
import Derived.OrdersHeld
import Derived.Deep.RegionHeld3
import Derived.Deep.Slices
import Derived.MapKept
import Derived.Lib.Bytealg
import Derived.ChangeArms
import Derived.Lib.AppendZeros
import Derived.Lib.Overlaps
import Derived.Laws.CopyRow
import Derived.Shelf.SlSortCmp.SmallK
import Derived.Laws.Pointers
import Derived.Laws.OwnMore
import Derived.Laws.Concat
import Derived.Laws.Strings2
import Derived.Laws.Strings3
import Derived.Laws.IdiomStrings
import Derived.Lib.AppendStr
import Derived.Lib.ConvBytes
import Derived.Lib.LaidTab
import Derived.Lib.ItoaNum
import Derived.WideLaws
import Derived.Lib.SplitLaws
import Derived.Lib.JoinLaws
import Derived.Lib.AtoiAll
import Derived.Lib.ParseIntB
import Derived.Laws.NewFold
import Derived.Lib.Join
import Derived.Lib.Strings
import Derived.Sort.Grow
import Derived.Lib.Space
import Derived.Handed
import Derived.LaidMore
import Derived.LaidHandle
import Derived.Stop.LaidErr
import Derived.Shelf.Vars
import Derived.WideShapes
import Derived.Lib.ParseIntBTie
import Derived.Lib.ItoaLen
import Derived.Lib.AtoiAllCases
open Array renaming ext'->lE,ext_getElem?->qh,foldl_toList->qk,getD_eq_getD_getElem?->cV,getElem?_eq_getElem->ox,getElem?_eq_none->ly,getElem?_modify->gi,getElem?_setIfInBounds->nO,getElem?_toList->iP,length_toList->cx,range->mv,replicate->nG,toList_push->qS,toList_setIfInBounds->kf,toList_zipIdx->pS
open Bool renaming eq_false_iff->kA,eq_iff_iff->ez,false_eq_true->cv,true_and->nj,false->aq,true->aT
open ByteArray renaming ext->qT,mk->ot,size->lz
open Decidable renaming decide->ab
open Go renaming Addr->lj,Calls->bw,Edge->hY,Ending->mb,Exit->fl,Func->sy,FuncId->fY,MapEntry->sv,MemPlace->pA,NoPanic->ps,Oper->ei,Operand->bo,Program->ca,TypeId->ba,Value->al,World->ao,asIntOf->iz,binOp->lf,bodyPost->jF,builtin->jz,eqGuard->gx,execOp->bk,getObj->lb,grownCap->hP,grownCap_le_maxLen->tp,invoke->ka,loadVar->rj,maxLen->lo,newRow->rk,resolve->hU,run_convert_bytes_back->rB,run_equal_held_nil->ts,run_loadCells_list->tl,run_part_plain->fW,run_program->fS,run_storeCells_at->oe,run_underlying->pB,sizeOf->fE,size_zeroCells->lp,typeInfo->dG,undef->gf,underlying->cF,wpAnyH->rn,wpAnyH_all->nP,wpList->nM,wpList_plain->rh,wpQuiet->po,wp_region_still_tail->sA,yielded->eI,zeroValue->kc
open Go.Act renaming eval->ik
open Go.Addr renaming add->hQ
open Go.Builtin renaming append_->hB,copy_->sd,firstCells->mz,lenOf->oi,len_->sq,nextslicecap->jn,zeroCells->cD
open Go.Code renaming cond->pf,loop->sb,region->gd,rounds->pX
open Go.Exit renaming inBlock->ix
open Go.Instr renaming fill->kh,findKey->ju,findNow->tg,indexAt->td,keyThatStays->ki,loadAt->ph,lookup->tn,mapUpdate->lL,sameBits->sC,sameNow->th,slice->jE,sliceAt->js,sliceBound->eC,sliceBounds->de,storeAt->te,sureAddr->ir
open Go.Lib renaming TabIs->oy,atoiAll->ey,atoiSat->qq,bytesWorld->tt,countB->gj,cut->nk,decDigits->hX,index->kl,itoa->dt,join->oR,parseUint10->ft,split->sR,splitB->rI,strCells->pC
open Go.Op renaming equalIn->pb,intCmp->mS
open Go.Oper renaming quietUpon->tf,wp->ri
open Go.Region renaming free->fi,lexTailB->rl,noSelect->en,ready->cX,wanted->cw
open Go.Result renaming andThen_ok->bp,ok->qG
open Go.Sem renaming run->kq,run_bind->cy,run_ite->qn,run_pure->db
open Go.Value renaming cells->px,int->dq,oneCell'->fc,ownBlock->od,string->lO
open Go.World renaming alloc->kp,alloc_eq->iu,cell?->eS,cells?_some->qI,frozen?->oE,shape?->tr
open Int renaming eq_ofNat_of_zero_le->bs,natCast_mul->ti,natCast_nonneg->ie
open List renaming append_assoc->ck,cons_append->ew,drop->mA,drop_append->jt,drop_append_of_le_length->fX,drop_drop->mw,drop_eq_getElem_cons->cS,drop_eq_nil_of_le->cG,drop_left'->sE,drop_set->tm,drop_take->eo,drop_zero->ga,eq_nil_of_length_eq_zero->cl,ext_getElem?->dp,flatten_cons->kO,getElem?_append->gR,getElem?_drop->cC,getElem?_eq_getElem->bc,getElem?_eq_none->bt,getElem?_map->ej,getElem?_set->fh,getElem?_take->cf,getElem_append_left->eN,getElem_append_right->fm,getElem_drop->nq,getElem_set_ne->nb,getElem_set_self->mx,getElem_take->la,isPrefixOf->oa,length->fb,length_append->bj,length_cons->bq,length_drop->cN,length_map->cH,length_replicate->jI,length_set->cp,length_take->cd,mapM_cons->mL,map_cons->cg,map_nil->et,map_toArray->fV,mem_append->cE,mem_cons->bm,mem_cons_of_mem->bl,mem_cons_self->eV,mem_map->ec,mem_singleton->eR,nil_append->cr,not_mem_nil->di,replicate->cc,take->iv,take_append_of_le_length->cY,take_left->kj,take_of_length_le->iA,take_set->mT,take_take->ef,zipIdx_cons->sc
open Nat renaming add_assoc->kb,add_mul->cj,beq->fL,ble->lA,blt->nv,blt_eq->ma,div_lt_of_lt_mul->qi,eq_of_beq_eq_true->gw,le_max_left->tj,le_max_right->sL,le_mul_of_pos_right->lK,le_of_ble_eq_true->gE,le_of_eq->mc,le_of_not_lt->sx,le_refl->bE,le_trans->dv,lt_of_lt_of_le->cq,lt_or_ge->cI,lt_succ_self->sB,min->jx,min_eq_left->cR,mod_lt->nh,mul_comm->nw,mul_le_mul_right->bd,mul_one->mC,not_lt_zero->eM,one_mul->nQ,strongRecOn->mj,sub_mul->nT,zero_add->fa,zero_le->fN,zero_mul->py
open Option renaming bind_some->cM,getD_some->dw,map_some->dd,none->ar,some->ak
open Option.some renaming inj->cQ,injEq->eJ
open Prod.mk renaming injEq->iC
namespace Go
theorem Z3.{u}{c:Prop}{h:Decidable c}(q:¬c){α:Sort u}{t e:α}:ite c t e=e:=if_neg q
theorem Z2.{u}{c:Prop}{h:Decidable c}(q:c){α:Sort u}{t e:α}:ite c t e=t:=if_pos q
theorem Z1.{u}{α:Sort u}(a b:α):cond aq a b=b:=rfl
theorem ZS.{u}{α:Sort u}(a b:α):cond aT a b=a:=rfl
theorem ZL.{u,v}{α:Sort u}{β:Sort v}{a b:α}(f:α->β)(h:a=b):f a=f b:=congrArg f h
theorem ZJ{a:Prop}{b:Prop}(h:a)(q:¬a):b:=absurd h q
abbrev ZD.{u}(α:Type u):Type u:=List α
abbrev Zs.{u}(α:Type u):Type u:=Option α
abbrev Ys:Type:=Bool
end Go
namespace Go
theorem Z.{u} {α : Sort u} {a : α} : a = a := rfl
theorem U : True := trivial
theorem V {p : Prop} (h : p := by omega) : p := h
theorem zq1 {p : Prop} (h : p := by decide) : p := h
theorem zq2 {p : Prop} (h : p := by kernel_rfl) : p := h
theorem zq3 {p : Prop} (h : p := by simp) : p := h
end Go
set_option linter.unusedSimpArgs false
set_option linter.unusedVariables false
set_option maxRecDepth 10000
namespace Go.LX
open Go.RowKit
def act(n:Nat)(env:Nat->al):Act:={tmps:=Array.ofFn (n:=n) fun i=>env i.val,defers:=[]}
def upd(env:Nat->al)(d:Nat)(v:al):Nat->Value:=fun i=>bif fL i d then v else env i
def ev(n:Nat)(env:Nat->al):bo->al
 | .tmp t=>bif nv t n then env t else gf
 | .const v=>v
 | .global g=>.pointer (ak ⟨g,0,ar⟩)
 | .func f=>.func (.func f) #[] #[]
def gH(env:Nat->al):Zs Nat->al->(Nat->al)
 |some d,v=>upd env d v
 |none,_=>env
theorem gX(n:Nat)(env:Nat->al):(act n env).eval=ev n env:=by
  funext x;cases x with
  |tmp t=>
    by_cases h:t<n
    · have a:nv t n=true:=by rw[ma];exact h
      simp[ik,act,ev,h,a]
    · have a:nv t n=false:=by rw[kA,ne_eq,ma];exact h
      simp[ik,act,ev,h,a]
  |_=>rfl
theorem FJ(n:Nat)(env:Nat->al)(d:Zs Nat)(v:al):(act n env).put d v=act n (gH env d v):=by
  cases d with
  |none=>rfl
  |some d=>
    simp only[Act.put,act,gH,Act.mk.injEq,and_true];apply Array.ext
    · simp
    · intro i b f;simp at b;have c:i<(Array.ofFn (n:=n) fun i=>env i.val).size:=by simp;exact b
      rw[Array.getElem_setIfInBounds c];by_cases a:d=i
      · subst a;simp[upd,Nat.beq_refl]
      · have e:fL i d=false:=by rw[kA];intro h;exact a (gw h).symm
        simp[a,upd,e]
def VB(args:ZD al):Nat->Value:=fun i=>args.getD i gf
theorem act_init(n:Nat)(args:ZD al)(h:args.length<=n):({tmps:=args.toArray++nG (n-args.toArray.size) gf,defers:=[]}:Act)=act n (VB args):=by
  simp only[act,Act.mk.injEq,and_true];apply Array.ext
  · simp;omega
  · intro i c b;simp[Array.getElem_append,VB,List.getD];by_cases a:i<args.length
    · simp[a]
    · simp[a]
structure WL(P:ca)(ops:Array ei)(Q:fl->Act->ao->Prop)(l:List ei)(n:Nat)(env:Nat->al)(w:ao):Prop where
 out:nM P ops Q l (act n env) w
structure WC(P:ca)(c:Code)(Q:fl->Act->ao->Prop)(n:Nat)(env:Nat->al)(w:ao):Prop where
 out:c.wp P Q (act n env) w
section
variable{P:ca}{ops:Array ei}{Q:fl->Act->ao->Prop}{n:Nat}{env:Nat->al}{w w':ao}{rest:ZD ei}
 {d:Zs Nat} {op:Op} {ty:ba} {pos:String} {af:Array hY} {v:al} {g:Zs (Nat×Ys)}
theorem J(a:(bk (ev n env) ⟨d,op,ty,pos,af,ar⟩).run P w=.ok (.value v) w')(h:WL P ops Q rest n (gH env d v) w'):
  WL P ops Q (⟨d,op,ty,pos,af,ar⟩::rest) n env w:=by
 refine⟨rh Z fun K b=>?_⟩;unfold ri;rw[gX,a];show K _ _;rw[FJ];exact b _ _ h.out
theorem BJ(a:(bk (ev n env) ⟨d,op,ty,pos,af,ar⟩).run P w=.ok .skip w')(h:WL P ops Q rest n (gH env d gf) w'):
  WL P ops Q (⟨d,op,ty,pos,af,ar⟩::rest) n env w:=by
 refine⟨rh Z fun K b=>?_⟩;unfold ri;rw[gX,a];show K _ _;rw[FJ];exact b _ _ h.out
theorem wl_enter{f:fY}{args:Array al}{R:mb->ao->Prop}(g:(bk (ev n env) ⟨d,op,ty,pos,af,ar⟩).run P w=.ok (.enter f args) w)(b:bw P f args w R)
  (h:∀e w',R e w'->∃v,e=.returned v/\WL P ops Q rest n (gH env d v) w'):
  WL P ops Q (⟨d,op,ty,pos,af,ar⟩::rest) n env w:=by
 refine⟨rh Z fun K a=>?_⟩;unfold ri;rw[gX,g];show bw P f args w _;refine b.mono fun e w' c=>?_;obtain⟨v,rfl,hv⟩:=h e w' c;show K _ _;rw[FJ];exact a _ _ hv.out
theorem MW{j dj:Nat}{b:Ys}(c:(ops[j]?).bind (·.dst)=ak dj)(hv:ev n env (.tmp dj)=.bool b):eI ops (act n env).tmps j=ak b:=by
  unfold eI;have a:(act n env).eval (.tmp dj)=.bool b:=by rw[gX];exact hv
  simp only[c,cM];simp only[ik]at a;cases h2:(act n env).tmps[dj]? with
  |none=>simp[cV,h2,gf]at a
  |some x=>simp[cV,h2]at a;subst a;rfl
theorem X7{j dj:Nat}{b:Ys}(f:(ops[j]?).bind (·.dst)=ak dj)(hv:ev n env (.tmp dj)=.bool b)
    (h:WL P ops Q (⟨d,op,ty,pos,af,ar⟩::rest) n env w):WL P ops Q (⟨d,op,ty,pos,af,ak (j,b)⟩::rest) n env w:=by
  have c:=MW (ops:=ops) f hv;have e:cw ⟨d,op,ty,pos,af,ak (j,b)⟩ (eI ops (act n env).tmps)=true:=by simp[cw,c]
  have a:cw ⟨d,op,ty,pos,af,ar⟩ (eI ops (act n env).tmps)=true:=rfl;obtain⟨h⟩:=h;refine⟨?_⟩;unfold nM at h⊢;rw[Z2 a]at h;rw[Z2 e];exact h
theorem jW{j dj:Nat}{b b':Ys}(f:(ops[j]?).bind (·.dst)=ak dj)(hv:ev n env (.tmp dj)=.bool b')(c:(b'==b)=aq)
    (h:WL P ops Q rest n (gH env d gf) w):WL P ops Q (⟨d,op,ty,pos,af,ak (j,b)⟩::rest) n env w:=by
  have a:=MW (ops:=ops) f hv;have e:cw ⟨d,op,ty,pos,af,ak (j,b)⟩ (eI ops (act n env).tmps)=false:=by simpa[cw,a]using c
  refine⟨?_⟩;unfold nM;rw[Z3 (by rw[e];decide),FJ];exact h.out
theorem ah(h:Q .normal (act n env) w):WL P ops Q [] n env w:=⟨h⟩
end
section
variable{P:ca}{Q:fl->Act->ao->Prop}{n:Nat}{env:Nat->al}{w:ao}{x y:Code}
theorem ay{id:Nat}{l:ZD ei}(h:WL P l.toArray Q l n env w):WC P (gd id l.toArray aq) Q n env w:=⟨wp_region_lit h.out⟩
theorem aC(h:WC P x (Exit.then (y.wp P Q) Q) n env w):WC P (Code.seq x y) Q n env w:=⟨wp_seq h.out⟩
theorem aH{id:Nat}(h:WC P x (ix id Q) n env w):WC P (Code.block id x) Q n env w:=⟨wp_block h.out⟩
theorem ax(h:Q .normal (act n env) w):WC P .skip Q n env w:=⟨wp_skip h⟩
theorem Ce(h:Q .ret (act n env) w):WC P .ret Q n env w:=⟨wp_ret h⟩
theorem iZ{id:Nat}(h:Q (.exit id) (act n env) w):WC P (.exit id) Q n env w:=⟨wp_exit h⟩
theorem fe{c:bo}{t:Ys}(d:ev n env c=.bool t)(b:t=aT->WC P x Q n env w)(a:t=aq->WC P y Q n env w):
 WC P (pf c x y) Q n env w:=⟨wp_cond_split (by rw[gX];exact d) (fun h=>(b h).out) (fun h=>(a h).out)⟩
theorem wc_ift{c:bo}(b:ev n env c=.bool aT)(a:WC P x Q n env w):WC P (pf c x y) Q n env w:=⟨wp_cond_true (by rw[gX];exact b) a.out⟩
theorem wc_iff{c:bo}(b:ev n env c=.bool aq)(a:WC P y Q n env w):WC P (pf c x y) Q n env w:=⟨wp_cond_false (by rw[gX];exact b) a.out⟩
theorem ae{Q':fl->Act->ao->Prop}(h:WC P y Q n env w):Exit.then (y.wp P Q) Q' .normal (act n env) w:=h.out
def hav(mod:Nat->Ys)(b a:Nat->al):Nat->Value:=fun i=>bif mod i then b i else a i
def upds(e:Nat->al):ZD (Nat×al)->Nat->al
 |[]=>e
 |(i,v)::r=>upd (upds e r) i v
def Holds(e:Nat->al):ZD (Nat×al)->Prop
 |[]=>True
 |(i,v)::r=>e i=v/\Holds e r
def JY(mod:Nat->Ys)(e a:Nat->al):Prop:=∀i,mod i=aq->e i=a i
theorem JY.refl(mod:Nat->Ys)(e:Nat->al):JY mod e e:=fun _ _=>rfl
theorem JY.hav(mod:Nat->Ys)(j e:Nat->al):JY mod (hav mod j e) e:=fun i h=>by simp[LX.hav,h]
theorem JY.upd{mod:Nat->Ys}{e a:Nat->al}{d:Nat}{v:al}(f:mod d=aT)(h:JY mod e a):JY mod (upd e d v) a:=fun i b=>by
 have:i≠d:=fun e=>by rw[e,f]at b;exact Bool.noConfusion b
 have c:fL i d=false:=by rw[kA];intro h;exact this (gw h)
 simp[LX.upd,c,h i b]
theorem upd_self(e:Nat->al){i:Nat}{v:al}(h:e i=v):upd e i v=e:=by
  funext k;by_cases a:fL k i=aT
  · have:=gw a;subst this;simp[upd,h]
  · simp[upd,a]
theorem hav_self{mod:Nat->Ys}{e a:Nat->al}(h:JY mod e a):hav mod e a=e:=by
 funext i;cases hm:mod i with
 |true=>simp[hav,hm]
 |false=>simp[hav,hm,h i hm]
theorem VC{e:Nat->al}:∀(l:ZD (Nat×al)),Holds e l->upds e l=e
 |[],_=>rfl
 |(i,v)::r,h=>by
  show upd (upds e r) i v=e;rw[VC r h.2];exact upd_self e h.1
theorem wc_loop{σ:Type}{c:Code}(mod:Nat->Ys)(live:σ->ZD (Nat×al))(J:σ->ao->Prop)(u:σ->Nat)(z:σ)
  (K:Holds env (live z)) (O:J z w)
  (round:∀s F I,J s F->WC P c (Exit.then (fun a' w'=>∃o p,a'=act n p/\JY mod p env/\Holds p (live o)/\J o w'/\u o<u s) Q) n (upds (hav mod I env) (live s)) F):
  WC P (sb c) Q n env w:=by
 refine⟨?_⟩;intro b k cs;have v:∀m s e w,u s=m->JY mod e env->Holds e (live s)->J s w->
   ∃j a' w',Q j a' w'/\Arrives P (lone (b.at (act n e) (.code c:: .inLoop c::k)) cs w) b k cs j a' w':=by
  intro m;induction m using mj with
  |_ m ih=>
   intro s e w R M L N;have G:=(round s w e N).out;have y:upds (hav mod e env) (live s)=e:=by rw[hav_self M];exact VC _ L
   rw[y]at G;obtain⟨j,f,d,h,a⟩:=G b (.inLoop c::k) cs;cases j with
   |normal=>
    obtain⟨o,p,rfl,B,E,A,C⟩:=h;obtain⟨t,r,q,i,g⟩:=ih (u o) (R▸C) o p d Z B E A;exact⟨t,r,q,i,.of_steps (Steps.trans a<|.one step_inLoop) g⟩
   |exit id=>exact⟨_,f,d,h,.pass (x:=.inLoop c) Z (fun _ _=>.inl zq3) a⟩
   |goto l=>exact⟨_,f,d,h,.pass (x:=.inLoop c) Z (fun _ _=>.inl zq3) a⟩
   |ret=>exact⟨_,f,d,h,.pass (x:=.inLoop c) Z (fun _ _=>.inl zq3) a⟩
   |panic ch=>exact⟨_,f,d,h,.pass (x:=.inLoop c) Z (fun _ _=>.inl zq3) a⟩
   |outgrown=>exact⟨_,f,d,h,.pass (x:=.inLoop c) Z (fun _ _=>.inl zq3) a⟩
 obtain⟨j,a',w',h,a⟩:=v _ z env w Z (JY.refl _ _) K O;exact⟨j,a',w',h,.of_steps (.one step_loop) a⟩
end
open Go.RowKit
structure One(P:ca)(T:ba)(z:al):Prop where
 desc:∃d,P.underlying T=ak d/\(match d with| .struct _| .array _ _=>False|_=>True)
 info:(P.info? T).map (fun i=>(i.zero,i.size))=ak (ak z,1)
 cell:z.cells= #[z]
structure xy(P:ca)(T:ba)(zs:List al):Prop where
 desc:∃d,P.underlying T=ak d/\(match d with| .struct _| .array _ _=>True|_=>False)
 info:(P.info? T).map (fun i=>(i.zero,i.size))=ak (ak (.agg zs.toArray),zs.length)
structure SliceOf(P:ca)(T E:ba)(sz:Nat):Prop where
  desc:P.underlying T=ak (.slice E)
  info:(P.info? E).map (·.size)=ak sz
structure dX(P:ca)(T:ba)(k off:Nat):Prop where
  desc:∃fs f s,P.underlying T=ak (.struct fs)/\fs[k]? =ak f/\f.offset=off/\(P.info? f.type).map (·.size)=ak (s+1)
section
variable{P:ca}{w:ao}{ρ:bo->al}{d:Zs Nat}{ty:ba}{pos:String}{af:Array hY}{g:Zs (Nat×Ys)}
theorem bO{x:bo}{v:al}(a:ρ x=v):(bk ρ ⟨d,.move x,ty,pos,af,g⟩).run P w=.ok (.value v) w:=by subst a;rfl
theorem fD{x:bo}{v:al}(a:ρ x=v):(bk ρ ⟨d,.assign x,ty,pos,af,g⟩).run P w=.ok (.value v) w:=by subst a;rfl
theorem oq{c x y:bo}{b:Ys}{v:al}(a:ρ c=.bool b)(hv:(if b then ρ x else ρ y)=v):(bk ρ ⟨d,.pick c x y,ty,pos,af,g⟩).run P w=.ok (.value v) w:=by
 subst hv;simp[bk,a,asBool]
theorem r_not{x:bo}{T:ba}{b:Ys}(a:ρ x=.bool b):(bk ρ ⟨d,.unOp .not T x,ty,pos,af,g⟩).run P w=.ok (.value (.bool !b)) w:=by
 simp[bk,a,Op.unary]
theorem wrap_in{x:Int}(b: -9223372036854775808<=x)(a:x<=9223372036854775807):IntKind.i64.wrap x=x:=IntWalk.i64_in x ⟨b,a⟩
theorem wE{x y:bo}{T T2:ba}{p q:Int}(a:ρ x=.int .i64 p)(b:ρ y=.int .i64 q):(bk ρ ⟨d,.binOp .lss T x y T2,ty,pos,af,g⟩).run P w=.ok (.value (.bool (ab (p<q)))) w:=by
 simp[bk,a,b,gx,lf,mS]
theorem TK{x y:bo}{T T2:ba}{p q:Int}(a:ρ x=.int .i64 p)(b:ρ y=.int .i64 q):(bk ρ ⟨d,.binOp .leq T x y T2,ty,pos,af,g⟩).run P w=.ok (.value (.bool (ab (p<=q)))) w:=by
 simp[bk,a,b,gx,lf,mS]
theorem iE{x y:bo}{T T2:ba}{p q:Int}(a:ρ x=.int .i64 p)(b:ρ y=.int .i64 q):(bk ρ ⟨d,.binOp .gtr T x y T2,ty,pos,af,g⟩).run P w=.ok (.value (.bool (ab (q<p)))) w:=by
 simp[bk,a,b,gx,lf,mS]
theorem mh{x y:bo}{T T2:ba}{p q:Int}(a:ρ x=.int .i64 p)(b:ρ y=.int .i64 q):(bk ρ ⟨d,.binOp .geq T x y T2,ty,pos,af,g⟩).run P w=.ok (.value (.bool (ab (q<=p)))) w:=by
 simp[bk,a,b,gx,lf,mS]
theorem pE{x y:bo}{T T2:ba}{p q:Int}{k:IntKind}(a:ρ x=.int k p)(b:ρ y=.int k q):(bk ρ ⟨d,.binOp .eql T x y T2,ty,pos,af,g⟩).run P w=.ok (.value (.bool (ab (p=q)))) w:=by
 simp[bk,a,b,gx,lf,mS];rfl
theorem Cw{x y:bo}{T T2:ba}{p q:Int}{k:IntKind}(a:ρ x=.int k p)(b:ρ y=.int k q):(bk ρ ⟨d,.binOp .neq T x y T2,ty,pos,af,g⟩).run P w=.ok (.value (.bool (ab (p≠q)))) w:=by
 simp[bk,a,b,gx,lf,mS];rfl
theorem Lf{x y:bo}{T T2:ba}{p q:Int}(a:ρ x=.int .i64 p)(b:ρ y=.int .i64 q)(h: -9223372036854775808<=p+q/\p+q<=9223372036854775807):
  (bk ρ ⟨d,.binOp .add T x y T2,ty,pos,af,g⟩).run P w=.ok (.value (.int .i64 (p+q))) w:=by
 simp[bk,a,b,gx,lf,Op.intArith,wrap_in h.1 h.2]
theorem nL{x y:bo}{T T2:ba}{p q:Int}(a:ρ x=.int .i64 p)(b:ρ y=.int .i64 q)(h: -9223372036854775808<=p-q/\p-q<=9223372036854775807):
  (bk ρ ⟨d,.binOp .sub T x y T2,ty,pos,af,g⟩).run P w=.ok (.value (.int .i64 (p-q))) w:=by
 simp[bk,a,b,gx,lf,Op.intArith,wrap_in h.1 h.2]
theorem qw{x:bo}{T E:ba}{e:Nat}{a:Zs lj}{l c:Nat}(f:SliceOf P T E e)(b:ρ x=.slice a l c):
  (bk ρ ⟨d,.call {callee:=.builtin .len,args:= #[x],argTypes:= #[T]},ty,pos,af,g⟩).run P w=.ok (.value (.int .i64 l)) w:=by
 simp[bk,hU,ka,jz,sq,b,cF,f.desc,goInt]
theorem r_load1{x:bo}{T:ba}{z v:al}{b o:Nat}{cs:Array al}{E:ba}{c:Nat×Nat}(f:One P T z)(i:ρ x=.pointer (ak ⟨b,o,ar⟩))(e:w.heap[b]? =ak (.cells cs E c))(hv:cs[o]? =ak v):
  (bk ρ ⟨d,.load T x,ty,pos,af,g⟩).run P w=.ok (.value v) w:=by
 obtain⟨a,j,h⟩:=f.desc;have k:w.cell? ⟨b,o,ar⟩=ak v:=by simp[eS,e,hv]
 cases a<;>simp_all[bk,ph,ir,rj,isAgg,cF]
end
open Go.RowKit
abbrev BS:=Nat->Prop
abbrev BE:BS:=fun _=>False
structure bL(K:BS)(w w':ao):Prop where
 os:w'.os=w.os
 tape:w'.tape=w.tape
 output:w'.output=w.output
 size:w.heap.size<=w'.heap.size
 block:∀b,¬K b->b<w.heap.size->w'.heap[b]? =w.heap[b]?
abbrev Grow(w w':ao):Prop:=bL BE w w'
abbrev XS(w:ao)(v:al)(e:mb)(w':ao):Prop:=Grow w w'/\e=.returned v
theorem bL.refl(K:BS)(w:ao):bL K w w:=⟨rfl,rfl,rfl,bE _,fun _ _ _=>rfl⟩
theorem bL.step{K N:BS}{a b c:ao}(h:bL K a b)(k:bL N b c)(hN:∀x,N x->x<a.heap.size->K x):bL K a c:=
 ⟨k.os.trans h.os,k.tape.trans h.tape,k.output.trans h.output,dv h.size k.size,fun i e d=>(k.block i (fun hn=>e (hN i hn d)) (cq d h.size)).trans (h.block i e d)⟩
theorem bL.grow{K:BS}{a b c:ao}(h:bL K a b)(k:Grow b c):bL K a c:=h.step k (fun _ h=>h.elim)
theorem bL.weaken{K N:BS}{a b:ao}(h:bL K a b)(d:∀x,K x->x<a.heap.size->N x):bL N a b:=⟨h.os,h.tape,h.output,h.size,fun i e c=>h.block i (fun hn=>e (d i hn c)) c⟩
theorem Grow.keep{K:BS}{a b:ao}(h:Grow a b):bL K a b:=h.weaken (fun _ h=>h.elim)
theorem iR{w:ao}{b:Nat}{o:Obj}(a:w.heap[b]? =ak o):b<w.heap.size:=by
  rcases cI b w.heap.size with h1|h1
  · exact h1
  · rw[ly h1]at a;cases a
theorem bL.blk{K:BS}{w w':ao}(h:bL K w w'){b:Nat}{o:Obj}(a:w.heap[b]? =ak o)(c:¬K b):w'.heap[b]? =ak o:=by
 rw[h.block b c (iR a),a]
theorem Grow.blk{w w':ao}(h:Grow w w'){b:Nat}{o:Obj}(a:w.heap[b]? =ak o):w'.heap[b]? =ak o:=bL.blk h a (fun h=>h)
theorem Grow.below{w w':ao}(h:Grow w w'):Below w.heap.size w w':=⟨h.os,h.tape,h.output,h.size,fun k a=>h.block k (fun h=>h) a⟩
theorem Grow.of_below{w w':ao}(h:Below w.heap.size w w'):Grow w w':=⟨h.os,h.tape,h.output,h.size,fun k _ a=>h.block k a⟩
theorem Grow.alloc(w:ao)(o:Obj):Grow w (w.alloc o):=Grow.of_below ((Below.refl _ _).alloc (bE _) o)
theorem Ql(w:ao)(o:Obj):(w.alloc o).heap[w.heap.size]? =ak o:=by show(w.heap.push o)[w.heap.size]? =ak o;simp
theorem alloc_size(w:ao)(o:Obj):(w.alloc o).heap.size=w.heap.size+1:=by show(w.heap.push o).size=_;simp
theorem Grow.drew(w:ao):Grow w w.drew:=⟨rfl,rfl,rfl,bE _,fun _ _ _=>rfl⟩
theorem Grow.trans{a b c:ao}(h:Grow a b)(k:Grow b c):Grow a c:=h.grow k
structure lT(α:Type)where
 sz:Nat
 rd:ao->BS->List al->α->Prop
 len:∀{w A cs x},rd w A cs x->cs.length=sz
 one:∀{w A cs x},rd w A cs x->∀u∈cs,u.oneCell'=aT
 pos:0<sz
 go:∀{w A cs x w' A' K},rd w A cs x->bL K w w'->(∀b,K b->b<w.heap.size->A b)->(∀b,A' b->b<w.heap.size->A b)->rd w' A' cs x
def eO{α:Type}(R:lT α)(w:ao)(B A:BS)(v:al)(l:ZD α):Prop:=
 ∃a cap,v=.slice a l.length cap/\l.length<=cap/\cap<=lo/\(a=ar->cap=0)/\
  ∀i (h:i<l.length),∃b o cells E c,a=ak ⟨b,o,ar⟩/\¬B b/\w.heap[b]? =ak (.cells cells E c)/\R.rd w A ((cells.toList.drop (o+i*R.sz)).take R.sz) l[i]
abbrev dx{α:Type}(R:lT α)(w:ao)(A:BS)(v:al)(l:ZD α):Prop:=eO R w A A v l
theorem eO.go{α:Type}{R:lT α}{w w':ao}{B f A A' K:BS}{v:al}{l:ZD α}(h:eO R w B A v l)(g:bL K w w')(c:∀b,K b->b<w.heap.size->B b)(j:∀b,K b->b<w.heap.size->A b)(t:∀b,f b->b<w.heap.size->B b)(r:∀b,A' b->b<w.heap.size->A b):eO R w' f A' v l:=by
 obtain⟨a,cap,rfl,u,k,p,s⟩:=h;refine⟨a,cap,Z,u,k,p,fun i x=>?_⟩;obtain⟨b,o,cells,E,n,m,e,d,q⟩:=s i x;exact⟨b,o,cells,E,n,m,fun h=>e<|t b h<|iR d,g.blk d fun h=>e<|c b h<|iR d,R.go q g j r⟩
theorem eO.sub{α:Type}{R:lT α}{w:ao}{B a A A':BS}{v:al}{l:ZD α}(h:eO R w B A v l)(c:∀b,a b->b<w.heap.size->B b)(d:∀b,A' b->b<w.heap.size->A b):eO R w a A' v l:=
 h.go (bL.refl BE w) (fun _ h=>h.elim) (fun _ h=>h.elim) c d
theorem eO.src{α:Type}{R:lT α}{w:ao}{B A:BS}{v:al}{l:ZD α}(h:eO R w B A v l):eO R w BE A v l:=h.sub (fun _ h=>h.elim) (fun _ h _=>h)
theorem dx.go{α:Type}{R:lT α}{w w':ao}{A A' K:BS}{v:al}{l:ZD α}(h:dx R w A v l)(d:bL K w w')(a:∀b,K b->b<w.heap.size->A b)(c:∀b,A' b->b<w.heap.size->A b):dx R w' A' v l:=
 eO.go h d a a c c
theorem eO.one{α:Type}{R:lT α}{w:ao}{B A:BS}{v:al}{l:ZD α}(h:eO R w B A v l):v.oneCell'=true:=by
 obtain⟨a,cap,rfl,_⟩:=h;rfl
theorem eO.nil{α:Type}{R:lT α}{w:ao}{B A:BS}:eO R w B A (.slice ar 0 0) ([]:ZD α):=⟨ar,0,rfl,bE _,by unfold lo;omega,fun _=>rfl,fun i a=>ZJ a (eM _)⟩
theorem eO.bK{α:Type}{R:lT α}{w:ao}{B A:BS}{v:al}{l:ZD α}(h:eO R w B A v l):l.length<=9223372036854775807:=by
 obtain⟨a,cap,_,c,b,_⟩:=h;unfold lo at b;omega
def yE{α:Type}(R:lT α):lT (ZD α) where
 sz:=1
 rd w A cs l:=∃v,cs=[v]/\dx R w A v l
 len:=by rintro w A cs x ⟨v,rfl,_⟩;rfl
 one:=by
  rintro w A cs x⟨v,rfl,h⟩u hu;simp at hu;subst hu;exact h.one
 pos:=by decide
 go:=by
  rintro w A cs x w' A' K⟨v,rfl,h⟩hk hK hA;exact⟨v,Z,h.go hk hK hA⟩
def dm:lT Int where
 sz:=1
 rd _ _ cs x:=cs=[.int .i64 x]
 len:=by rintro w A cs x rfl;rfl
 one:=by rintro w A cs x rfl u hu;simp at hu;subst hu;rfl
 pos:=by decide
 go:=fun h _ _ _=>h
abbrev Str:=ZD UInt8
def bF(s:Str):Value:=.string ⟨s.toArray⟩
def uZ:lT Str where
 sz:=1
 rd _ _ cs x:=cs=[bF x]
 len:=by rintro w A cs x rfl;rfl
 one:=by rintro w A cs x rfl u hu;simp at hu;subst hu;rfl
 pos:=by decide
 go:=fun h _ _ _=>h
def ob:al->Nat->Prop| .slice (ak a) _ _=>fun b=>b=a.block|_=>fun _=>False
theorem ob_row{v:al}{k:Nat}:ob v k↔v.ownBlock=ak k:=by
 cases v with
 |slice a l c=>cases a with
  |none=>simp[ob,od]
  |some a=>simp[ob,od];exact eq_comm
 |_=>simp[ob,od]
def cK{α:Type}(R:lT α)(E:ba)(w:ao)(A:BS)(v:al)(l:ZD α):Prop:=
 ∃xs,w.ownsRow 0 E R.sz v l.length xs/\∀i (h:i<l.length),R.rd w (fun b=>A b\/ob v b) ((xs.drop (i*R.sz)).take R.sz) l[i]
theorem cK.nil{α:Type}{R:lT α}{E:ba}{w:ao}{A:BS}:cK R E w A (.slice ar 0 0) ([]:ZD α):=
 ⟨[],World.ownsRow_nil _ _ _ _,fun i h=>ZJ h (eM _)⟩
theorem cK.lt{α:Type}{R:lT α}{E:ba}{w:ao}{A:BS}{v:al}{l:ZD α}(h:cK R E w A v l):∀k,ob v k->k<w.heap.size:=by
 obtain⟨xs,b,_⟩:=h;intro k a;exact(b.lt k<|ob_row.1 a).2
theorem cK.go{α:Type}{R:lT α}{E:ba}{w w':ao}{A A' K:BS}{v:al}{l:ZD α}(h:cK R E w A v l)(e:bL K w w')(f:∀b,K b->b<w.heap.size->A b)(d:∀b,K b->¬ob v b)(n:∀b,A' b->b<w.heap.size->A b\/ob v b):cK R E w' A' v l:=by
  obtain⟨xs,c,m⟩:=h;refine⟨xs,?_,fun i o=>R.go (m i o) e (fun b c j=>.inl<|f b c j) fun b a k=>?_⟩
  · refine⟨c.1,?_⟩;rcases c.2 with h|⟨g,cap,cur,rfl,e1,e2,e3⟩
    · exact .inl h
    · exact .inr ⟨g,cap,cur,Z,e1,e.blk e2 (fun h=>d g h (by simp[ob])),e3⟩
  · rcases a with a|a
    · exact n b a k
    · exact .inr a
theorem cK.one{α:Type}{R:lT α}{E:ba}{w:ao}{A:BS}{v:al}{l:ZD α}(h:cK R E w A v l):v.oneCell'=true:=by
 obtain⟨xs,a,_⟩:=h;rcases a.2 with⟨rfl,_⟩|⟨g,cap,cur,rfl,_⟩<;>rfl
theorem cK.rd{α:Type}{R:lT α}{E:ba}{w:ao}{A A':BS}{v:al}{l:ZD α}(h:cK R E w A v l)(c:∀b,ob v b->¬A' b)(e:∀b,A' b->b<w.heap.size->A b\/ob v b):dx R w A' v l:=by
  obtain⟨xs,f,d⟩:=h;rcases f.2 with⟨rfl,hn⟩|⟨g,cap,cur,rfl,e1,e2,e3,e4,e5,e6⟩
  · have:l=[]:=cl hn;subst this;exact eO.nil
  · refine⟨ak ⟨g,0,ar⟩,cap,Z,e3,e4,(fun h=>by cases h),fun i a=>⟨g,0,cur,E,(0,0),Z,c g (by simp[ob]),e2,?_⟩⟩;have:=R.go (A':=A') (d i a) (bL.refl BE w) (fun _ h=>h.elim) e;rw[<-e6,eo,ef,cR ?_]at this
    · rw[fa];exact this
    · have:(i+1)*R.sz<=l.length*R.sz:=bd _ a;rw[cj]at this;omega
def MX(b:Array sv)(a:Nat):Prop:=(∀e∈b.toList,e.born<a)/\(b.toList.map (·.born)).Nodup
def J8(w:ao)(b:Nat)(jM:ZD (Int×al)):Prop:=
 ∃c a,w.heap[b]? =ak (.map c a)/\c.toList.map (fun e=>(e.key,e.val))=jM.map (fun p=>(dq .i64 p.1,p.2))/\MX c a
structure Pce where
 own:BS
 P:ao->BS->Prop
 lt:∀{w A b},P w A->own b->b<w.heap.size
 go:∀{w w' A A' K},P w A->bL K w w'->(∀b,K b->b<w.heap.size->A b)->(∀b,K b->¬own b)->(∀b,A' b->b<w.heap.size->A b\/own b)->P w' A'
inductive Chunk:Type 1 where
 |no
 |rd {α:Type} (R:lT α) (v:al) (l:List α)
 |sr {α:Type} (R:lT α) (v:al) (l:List α)
 |pt (b o:Nat) (cs:List al)
 |blk (b:Nat) (cs:List al)
 |own {α:Type} (R:lT α) (E:ba) (v:al) (l:List α)
 |mp (b:Nat) (jM:List (Int×al))
 |rp {α:Type} (R:lT α) (v:al) (x:α)
 |two (a b:Chunk)
 |eY (S:Pce)
def Chunk.own':Chunk->BS
 | .blk b _=>fun x=>x=b
 | .own _ _ v _=>ob v
 | .mp b _=>fun x=>x=b
 | .two a b=>fun x=>a.own' x\/b.own' x
 | .eY S=>S.own
 |_=>BE
def Chunk.holds(w:ao)(M O:BS):Chunk->Prop
 | .no=>True
 | .rd R v l=>dx R w (fun b=>M b\/O b) v l
 | .sr R v l=>eO R w O (fun b=>M b\/O b) v l
 | .pt b o cs=>¬O b/\∃cells E c,w.heap[b]? =ak (.cells cells E c)/\(cells.toList.drop o).take cs.length=cs
 | .blk b cs=>∃E,w.heap[b]? =ak (.cells cs.toArray E (0,0))
 | .own R E v l=>cK R E w (fun b=>M b\/O b) v l
 | .mp b jM=>J8 w b jM
 | .rp R v x=>R.rd w (fun b=>M b\/O b) [v] x
 | .two a b=>a.holds w M O/\b.holds w M O/\∀x,a.own' x->¬b.own' x
 | .eY S=>S.P w (fun b=>M b\/O b)
theorem Chunk.go{c:Chunk}{w w':ao}{M O k N:BS}(h:c.holds w M O)(g:bL N w w')(hN:∀b,N b->b<w.heap.size->O b)(f:∀b,N b->¬c.own' b)(i:∀b,k b->b<w.heap.size->M b\/O b)(j:∀b,k b->b<w.heap.size->O b):c.holds w' M k:=by
 induction c with
 |no=>trivial
 |rd R v l=>exact dx.go h g (fun b d e=>.inr (hN b d e)) (fun b d e=>d.elim .inl (fun d=>i b d e))
 |sr R v l=>exact eO.go h g hN (fun b d e=>.inr (hN b d e)) j (fun b d e=>d.elim .inl (fun d=>i b d e))
 |pt b o cs=>
  obtain⟨p,cells,E,r,m,s⟩:=h;exact⟨fun h=>p<|j b h<|iR m,cells,E,r,g.blk m fun h=>p<|hN b h<|iR m,s⟩
 |blk b cs=>
  obtain⟨E,h⟩:=h;exact⟨E,g.blk h fun d=>f b d Z⟩
 |own R E v l=>exact cK.go h g (fun b d e=>.inr (hN b d e)) f (fun b d e=>.inl (d.elim .inl (fun d=>i b d e)))
 |rp R v x=>exact R.go h g (fun b d e=>.inr (hN b d e)) (fun b d e=>d.elim .inl (fun d=>i b d e))
 |two a b iha ihb=>exact⟨iha h.1 (fun x n q=>f x n (.inl q)),ihb h.2.1 (fun x n d=>f x n (.inr d)),h.2.2⟩
 |eY S=>exact S.go h g (fun b d e=>.inr (hN b d e)) f (fun b d e=>.inl (d.elim .inl (fun d=>i b d e)))
 |mp b jM=>
  obtain⟨u,c,h,t⟩:=h;exact⟨u,c,g.blk h fun d=>f b d Z,t⟩
theorem Chunk.sub{c:Chunk}{w:ao}{M O d:BS}(h:c.holds w M O)(a:∀b,d b->b<w.heap.size->O b):c.holds w M d:=
 Chunk.go h (bL.refl BE w) (fun _ h=>h.elim) (fun _ h=>h.elim) (fun b f e=>.inr (a b f e)) a
theorem Chunk.lt{c:Chunk}{w:ao}{M O:BS}(h:c.holds w M O):∀b,c.own' b->b<w.heap.size:=by
 intro b d;induction c with
 |no=>exact d.elim
 |rd=>exact d.elim
 |sr=>exact d.elim
 |pt=>exact d.elim
 |blk b' cs=>
  cases d;exact iR h.choose_spec
 |own R E v l=>exact cK.lt h b d
 |rp=>exact d.elim
 |two a c iha ihc=>exact d.elim (fun d=>iha h.1 d) (fun d=>ihc h.2.1 d)
 |eY S=>exact S.lt h d
 |mp b' jM=>
  cases d;obtain⟨_,_,h,_⟩:=h;exact iR h
def bY(hp:Nat->Chunk)(i:Nat)(c:Chunk):Nat->Chunk:=fun j=>bif fL j i then c else hp j
theorem bZ(hp:Nat->Chunk)(i:Nat)(c:Chunk):bY hp i c i=c:=by simp[bY,Nat.beq_refl]
theorem eD{hp:Nat->Chunk}{i j:Nat}{c:Chunk}(h:j≠i):bY hp i c j=hp j:=by
 have:fL j i=false:=by rw[kA];intro e;exact h (gw e)
 simp[bY,this]
def hno:Nat->Chunk:=fun _=>.no
def iT(hp:Nat->Chunk):BS:=fun b=>∃j,(hp j).own' b
structure SH(w0:ao)(M K:BS)(w:ao)(hp:Nat->Chunk):Prop where
 keep:bL K w0 w
 ltM:∀b,M b->b<w0.heap.size
 apM:∀i b,(hp i).own' b->¬M b
 ok:∀i,(hp i).holds w M (iT hp)
 apart:∀i j,i≠j->∀b,(hp i).own' b->¬(hp j).own' b
 old:∀i b,(hp i).own' b->b<w0.heap.size->K b
section
variable{w0 w w':ao}{M K:BS}{hp:Nat->Chunk}{i:Nat}{c:Chunk}
def rest(hp:Nat->Chunk)(i:Nat):BS:=fun b=>∃j,j≠i/\(hp j).own' b
theorem lU{hp:Nat->Chunk}{i b:Nat}(h:rest hp i b):iT hp b:=let ⟨j,_,h⟩:=h;⟨j,h⟩
abbrev SH.av(hp:Nat->Chunk)(i:Nat)(c:Chunk):BS:=fun b=>rest hp i b\/c.own' b
theorem SH.step{N:BS}(h:SH w0 M K w hp)(i:Nat)(r:bL N w w')(hN:∀b,N b->b<w.heap.size->(hp i).own' b)
    (ho:∀b,c.own' b->b<w.heap.size->(hp i).own' b) (t:c.holds w' M (SH.av hp i c)):SH w0 M K w' (bY hp i c):=by
  have u:∀b,M b->b<w.heap.size:=fun b a=>cq (h.ltM b a) h.keep.size;have m:∀b,iT (bY hp i c) b->rest hp i b\/c.own' b:=by
    rintro b⟨j,o⟩;by_cases e:j=i
    · subst e;rw[bZ]at o;exact .inr o
    · rw[eD e]at o;exact .inl ⟨j,e,o⟩
  have g:∀b,iT (bY hp i c) b->b<w.heap.size->iT hp b:=fun b a f=>(m b a).elim lU fun h=>⟨i,ho b h f⟩;refine⟨?_,h.ltM,?_,?_,?_,?_⟩
  · exact h.keep.step r (fun x q f=>by
      have n:=cq f h.keep.size;exact h.old i x (hN x q n) f)
  · intro j b a;by_cases e:j=i
    · subst e;rw[bZ]at a;intro s;exact h.apM j b (ho b a<|u b s) s
    · rw[eD e]at a;exact h.apM j b a
  · intro j;by_cases e:j=i
    · subst e;rw[bZ];exact Chunk.sub t fun b a _=>m b a
    · rw[eD e];have f:=h.ok j;refine Chunk.go f (r.weaken (N:=fun b=>N b/\b<w.heap.size) fun b a f=>⟨a,f⟩) ?_ ?_ ?_ ?_
      · intro b a n;exact⟨i,hN b a.1 n⟩
      · intro b a o;exact h.apart j i e b o<|hN b a.1 a.2
      · exact fun b a f=>.inr<|g b a f
      · exact g
  · intro j k l b a d;have lt:∀x,x≠i->(hp x).own' b->b<w.heap.size:=fun x _ q=>Chunk.lt (h.ok x) b q;by_cases e:j=i
    · subst e;have p:k≠j:=fun e=>l e.symm;rw[bZ]at a;rw[eD p]at d;exact h.apart j k l b (ho b a<|lt k p d) d
    · rw[eD e]at a;by_cases p:k=i
      · subst p;rw[bZ]at d;exact h.apart j k l b a<|ho b d<|lt j e a
      · rw[eD p]at d;exact h.apart j k l b a d
  · intro j b a f;by_cases e:j=i
    · subst e;rw[bZ]at a;exact h.old j b (ho b a<|cq f h.keep.size) f
    · rw[eD e]at a;exact h.old j b a f
abbrev SH.A(M:BS)(hp:Nat->Chunk):BS:=fun b=>M b\/iT hp b
theorem SH.lt(h:SH w0 M K w hp):∀b,SH.A M hp b->b<w.heap.size:=by
  rintro b(a|⟨j,a⟩)
  · exact cq (h.ltM b a) h.keep.size
  · exact Chunk.lt (h.ok j) b a
theorem SH.learn(h:SH w0 M K w hp)(i:Nat)(e:Grow w w')(ho:∀b,c.own' b->w.heap.size<=b)(d:c.holds w' M (fun b=>iT hp b\/c.own' b)):SH w0 M K w' (bY hp i c):=
 h.step i e (fun _ h=>h.elim) (fun b a f=>ZJ (ho b a) V) (Chunk.sub d (fun b a _=>a.imp lU id))
theorem SH.grow(h:SH w0 M K w hp)(c:Grow w w'):SH w0 M K w' hp:=
 ⟨h.keep.grow c,h.ltM,h.apM,fun i=>Chunk.go (h.ok i) c (fun _ h=>h.elim) (fun _ h=>h.elim) (fun b a _=>.inr a) (fun b a _=>a),h.apart,h.old⟩
theorem SH.know(h:SH w0 M K w hp)(i:Nat)(ho:∀b,¬c.own' b)(d:c.holds w M (iT hp)):SH w0 M K w (bY hp i c):=
 h.learn i (bL.refl BE w) (fun b a=>ZJ a (ho b)) (Chunk.sub d (fun b a _=>a.elim id (fun a=>ZJ a (ho b))))
theorem SH.freeze{α:Type}{R:lT α}{E:ba}{v:al}{l:ZD α}(h:SH w0 M K w hp)(i:Nat)(f:hp i=.own R E v l):SH w0 M K w (bY hp i (.rd R v l)):=by
  refine h.step i (bL.refl BE w) (fun _ h=>h.elim) (fun b a=>a.elim) ?_;have e:=h.ok i;rw[f]at e;refine cK.rd e (fun b a c=>?_) fun b a e=>?_
  · have d:(hp i).own' b:=by rw[f];exact a
    rcases c with c|⟨j,hj,c⟩|c
    · exact h.apM i b d c
    · exact h.apart j i hj b c d
    · exact c
  · rcases a with a|a|a
    · exact .inl<|.inl a
    · exact .inl<|.inr<|lU a
    · exact a.elim
def hset:ZD (Nat×Chunk)->Nat->Chunk
 |[]=>hno
 |(i,c)::r=>bY (hset r) i c
def HoldsC(hp:Nat->Chunk):ZD (Nat×Chunk)->Prop
 |[]=>True
 |(i,c)::r=>hp i=c/\HoldsC hp r
theorem hset_is{hp:Nat->Chunk}:∀{l:ZD (Nat×Chunk)},HoldsC hp l->∀j,hset l j=hp j\/hset l j=.no
  |[],_,_=>.inr Z
  |(i,c)::r,h,j=>by
    by_cases e:j=i
    · subst e;left;show bY _ _ _ _=_;rw[bZ];exact h.1.symm
    · show bY _ _ _ _=_\/bY _ _ _ _=_;rw[eD e];exact hset_is h.2 j
theorem SH.canon(h:SH w0 M K w hp)(l:ZD (Nat×Chunk))(k:HoldsC hp l):SH w0 M K w (hset l):=by
  have c:=hset_is k;have own:∀j b,(hset l j).own' b->(hp j).own' b:=by
    intro j b a;rcases c j with e|e
    · rw[e]at a;exact a
    · rw[e]at a;exact a.elim
  refine⟨h.keep,h.ltM,fun i b a=>h.apM i b<|own i b a,fun i=>?_,fun i j d b a f=>h.apart i j d b (own i b a)<|own j b f,fun i b a=>h.old i b<|own i b a⟩;rcases c i with e|e
  · rw[e];exact Chunk.sub (h.ok i) fun b⟨j,g⟩_=>⟨j,own j b g⟩
  · rw[e];trivial
theorem SH.init{w:ao}{M:BS}(a:∀b,M b->b<w.heap.size):SH w M BE w hno:=
 ⟨bL.refl _ _,a,fun _ _ h=>h.elim,fun _=>trivial,fun _ _ _ _ h=>h.elim,fun _ _ h=>h.elim⟩
theorem SH.wF{α:Type}{R:lT α}{E:ba}{v:al}{l:ZD α}(h:SH w0 M K w hp)(i:Nat)(c:Grow w w')(ho:cK R E w' (SH.A M hp) v l)(a:∀b,ob v b->w.heap.size<=b):SH w0 M K w' (bY hp i (.own R E v l)):=
 h.learn i c a (cK.go ho (bL.refl BE w') (fun _ h=>h.elim) (fun _ h=>h.elim) (fun b d _=>d.elim (fun h=>.inl (.inl h)) (fun h=>h.elim (fun h=>.inl (.inr h)) .inr)))
theorem SH.wG{α:Type}{R:lT α}{v:al}{l:ZD α}(h:SH w0 M K w hp)(i:Nat)(c:Grow w w')(ho:dx R w' (SH.A M hp) v l):SH w0 M K w' (bY hp i (.rd R v l)):=
 h.learn i c (fun _ h=>h.elim) (dx.go ho (bL.refl BE w') (fun _ h=>h.elim) (fun b a _=>a.elim .inl (fun h=>h.elim .inr (fun h=>h.elim))))
theorem SH.aK{α:Type}{R:lT α}{v:al}{l:ZD α}(h:SH w0 M K w hp)(i:Nat)(ho:dx R w (SH.A M hp) v l):SH w0 M K w (bY hp i (.rd R v l)):=h.wG i (bL.refl BE w) ho
theorem SH.II{α:Type}{R:lT α}{v:al}{l:ZD α}(h:SH w0 M K w hp)(i:Nat)(ho:dx R w M v l)(hn:∀b,¬iT hp b):SH w0 M K w (bY hp i (.rd R v l)):=
 h.aK i (ho.go (bL.refl BE w) (fun _ h=>h.elim) (fun b a _=>a.elim id (fun h=>ZJ h (hn b))))
theorem SH.dM{α:Type}{R:lT α}{v:al}{l:ZD α}(h:SH w0 M K w hp)(i:Nat)(ho:eO R w BE M v l)(hn:∀b,¬iT hp b):SH w0 M K w (bY hp i (.sr R v l)):=
 h.know i (fun _ h=>h) (ho.sub (fun b a _=>ZJ a (hn b)) (fun b a _=>a.elim id (fun h=>ZJ h (hn b))))
theorem SH.bz{α:Type}{R:lT α}{v:al}{l:ZD α}(h:SH w0 M K w hp)(i:Nat)(a:hp i=.rd R v l):dx R w (SH.A M hp) v l:=by
 have:=h.ok i;rw[a]at this;exact this
theorem SH.srAt{α:Type}{R:lT α}{v:al}{l:ZD α}(h:SH w0 M K w hp)(i:Nat)(a:hp i=.sr R v l):eO R w (iT hp) (SH.A M hp) v l:=by
 have:=h.ok i;rw[a]at this;exact this
theorem SH.bI{α:Type}{R:lT α}{E:ba}{v:al}{l:ZD α}(h:SH w0 M K w hp)(i:Nat)(a:hp i=.own R E v l):cK R E w (SH.A M hp) v l:=by
 have:=h.ok i;rw[a]at this;exact this
theorem SH.A7{b:Nat}{cs:ZD al}(h:SH w0 M K w hp)(i:Nat)(a:hp i=.blk b cs):∃E,w.heap[b]? =ak (.cells cs.toArray E (0,0)):=by
 have:=h.ok i;rw[a]at this;exact this
theorem SH.ptAt{b o:Nat}{cs:ZD al}(h:SH w0 M K w hp)(i:Nat)(c:hp i=.pt b o cs):∃cells E a,w.heap[b]? =ak (.cells cells E a)/\(cells.toList.drop o).take cs.length=cs:=by
 have:=h.ok i;rw[c]at this;exact this.2
theorem SH.mpAt{b:Nat}{a:ZD (Int×al)}(h:SH w0 M K w hp)(i:Nat)(c:hp i=.mp b a):J8 w b a:=by
 have:=h.ok i;rw[c]at this;exact this
theorem SH.grown(h:SH w0 M BE w hp):Grow w0 w:=h.keep
theorem Xw{α:Type}{e:α}(h:SH w0 M BE w hp):Grow w0 w/\e=e:=⟨h.grown,rfl⟩
theorem SH.fresh(h:SH w0 M BE w hp)(i:Nat):∀b,(hp i).own' b->w0.heap.size<=b:=fun b c=>sx (fun a=>h.old i b c a)
theorem SH.kT{α:Type}{R:lT α}{v:al}{l:ZD α}(h:SH w0 M K w hp)(i:Nat)(a:hp i=.rd R v l):eO R w BE (SH.A M hp) v l:=(h.bz i a).src
theorem SH.gu{α:Type}{R:lT α}{v:al}{l:ZD α}(h:SH w0 M K w hp)(i:Nat)(a:hp i=.sr R v l):eO R w BE (SH.A M hp) v l:=(h.srAt i a).src
theorem cK.src{α:Type}{R:lT α}{E:ba}{w:ao}{A:BS}{v:al}{l:ZD α}(h:cK R E w A v l):eO R w BE A v l:=by
  obtain⟨xs,e,d⟩:=h;rcases e.2 with⟨rfl,hn⟩|⟨g,cap,cur,rfl,e1,e2,e3,e4,e5,e6⟩
  · have:l=[]:=cl hn;subst this;exact eO.nil
  · refine⟨ak ⟨g,0,ar⟩,cap,Z,e3,e4,(fun h=>by cases h),fun i a=>⟨g,0,cur,E,(0,0),Z,fun h=>h,e2,?_⟩⟩;have:=R.go (A':=A) (d i a) (bL.refl BE w) (fun _ h=>h.elim) fun b c _=>.inl c;rw[<-e6,eo,ef,cR ?_]at this
    · rw[fa];exact this
    · have:(i+1)*R.sz<=l.length*R.sz:=bd _ a;rw[cj]at this;omega
theorem SH.dL{α:Type}{R:lT α}{E:ba}{v:al}{l:ZD α}(h:SH w0 M K w hp)(i:Nat)(a:hp i=.own R E v l):eO R w BE (SH.A M hp) v l:=(h.bI i a).src
theorem aO:∀b,¬iT hno b:=fun _⟨_,h⟩=>h
theorem xG{α:Type}{R:lT α}{v:al}{l:ZD α}{i:Nat}(h:∀b,¬iT hp b):∀b,¬iT (bY hp i (.rd R v l)) b:=by
  rintro b⟨j,a⟩;by_cases e:j=i
  · subst e;rw[bZ]at a;exact a
  · rw[eD e]at a;exact h b ⟨j,a⟩
theorem aU{α:Type}{R:lT α}{v:al}{l:ZD α}{i:Nat}(h:∀b,¬iT hp b):∀b,¬iT (bY hp i (.sr R v l)) b:=by
  rintro b⟨j,a⟩;by_cases e:j=i
  · subst e;rw[bZ]at a;exact a
  · rw[eD e]at a;exact h b ⟨j,a⟩
end
open Go.RowKit
def gv(c:Ys)(v:al):Value:=(bif c then [v]else []).headD gf
theorem fC{c:Ys}{v:al}(h:c=aT):gv c v=v:=by rw[h];rfl
theorem gl{a b:Ys}(h:(a&&b)=aT):a=true:=by cases a<;>simp_all
theorem gr{a b:Ys}(h:(a&&b)=aT):b=true:=by cases a<;>simp_all
structure kM(P:ca)(T E:ba)(sz bytes:Nat):Prop where
 desc:P.underlying T=ak (.slice E)
 info:∃i z,P.info? E=ak i/\i.zero=ak z/\i.size=sz/\i.bytes=bytes/\z.cells.size=sz
theorem TL{P:ca}{T:ba}{z:Zs al}{s:Nat}(h:(P.info? T).map (fun i=>(i.zero,i.size))=ak (z,s)):∃i,P.info? T=ak i/\i.zero=z/\i.size=s:=by
 cases hi:P.info? T with
 |none=>simp[hi]at h
 |some i=>simp[hi]at h;exact⟨i,Z,h.1,h.2⟩
def xz(w:ao)(b:Nat)(o:Obj):World:={w with heap:=w.heap.setIfInBounds b o}
theorem wH{w:ao}{b:Nat}{o:Obj}(h:b<w.heap.size):(xz w b o).heap[b]? =ak o:=by simp[xz,h]
theorem bL.xz(w:ao)(b:Nat)(o:Obj):bL (fun x=>x=b) w (xz w b o):=
 ⟨rfl,rfl,rfl,by simp[LX.xz],fun k a _=>by
  have:b≠k:=fun e=>a (by simp[e]);show(w.heap.setIfInBounds b o)[k]? =_;rw[Array.getElem?_setIfInBounds_ne this]⟩
theorem setCell_putb{w:ao}{b o:Nat}{cs:Array al}{E:ba}{d:Nat×Nat}{v:al}(c:w.heap[b]? =ak (.cells cs E d)):w.setCell ⟨b,o,ar⟩ v=xz w b (.cells (cs.setIfInBounds o v) E d):=by
  simp only[World.setCell,xz];congr 1;have a:=iR c;apply qh;intro i;simp only[gi,nO];by_cases e:b=i
  · subst e;rw[Z2 rfl,Z2 rfl,Z2 a,c];rfl
  · simp[e]
theorem J9{w:ao}{b:Nat}{cs a:Array al}{E:ba}{e:Nat×Nat}(d:w.heap[b]? =ak (.cells cs E e)):w.setRow b a=xz w b (.cells a E e):=by
  simp only[World.setRow,xz];congr 1;have c:=iR d;apply qh;intro i;simp only[gi,nO];by_cases f:b=i
  · subst f;rw[Z2 rfl,Z2 rfl,Z2 c,d];rfl
  · simp[f]
def MU(cs:ZD al)(o:Nat)(vs:ZD al):ZD Value:=cs.take o++vs++cs.drop (o+vs.length)
def At(w:ao)(b o:Nat)(cs:ZD al):Prop:=∃cells E a,w.heap[b]? =ak (.cells cells E a)/\(cells.toList.drop o).take cs.length=cs
section
variable{P:ca}{ops:Array ei}{Q:fl->Act->ao->Prop}{n:Nat}{env:Nat->al}{w w' w0:ao}{M K:BS}{hp:Nat->Chunk}{rest:ZD ei}
 {d:Zs Nat} {op:Op} {ty:ba} {pos:String} {af:Array hY} {v:al} {g:Zs (Nat×Ys)} {T:ba} {ρ:bo->al} {x y:bo}
theorem qj{j dj:Nat}{b a:Ys}(c:Ys)(i:(ops[j]?).bind (·.dst)=ak dj)(hv:ev n env (.tmp dj)=gv c (.bool b))
    (q:(c&&(b==a))=aT->(bk (ev n env) ⟨d,op,ty,pos,af,ar⟩).run P w=.ok (.value v) w) (h:WL P ops Q rest n (gH env d (gv (c&&(b==a)) v)) w):
    WL P ops Q (⟨d,op,ty,pos,af,ak (j,a)⟩::rest) n env w:=by
  by_cases f:(c&&(b==a))=aT
  · have k:=gl f;have g:=gr f;rw[fC k]at hv;rw[fC f]at h;have p:b=a:=by simpa using g
    subst p;exact X7 i hv<|J (q f) h
  · have e:(c&&(b==a))=false:=by simpa using f
    rw[e]at h;cases c with
    |true=>
      refine jW i hv ?_ h;simpa using e
    |false=>
      have l:ev n env (.tmp dj)=undef:=hv;have m:eI ops (act n env).tmps j=none:=by
        unfold eI;have g:(act n env).eval (.tmp dj)=undef:=by rw[gX];exact l
        simp only[i,cM];simp only[ik]at g;cases h2:(act n env).tmps[dj]? with
        |none=>rfl
        |some x=>simp[cV,h2]at g;subst g;rfl
      have o:cw ⟨d,op,ty,pos,af,ak (j,a)⟩ (eI ops (act n env).tmps)=false:=by simp[cw,m]
      refine⟨?_⟩;unfold nM;rw[Z3 (by rw[o];decide),FJ];exact h.out
theorem aQ{j dj:Nat}{b a:Ys}(e:(ops[j]?).bind (·.dst)=ak dj)(hv:ev n env (.tmp dj)=.bool b)
    (c:(b==a)=aT->(bk (ev n env) ⟨d,op,ty,pos,af,ar⟩).run P w=.ok (.value v) w) (h:WL P ops Q rest n (gH env d (gv (b==a) v)) w):
    WL P ops Q (⟨d,op,ty,pos,af,ak (j,a)⟩::rest) n env w:=
  qj aT e hv (fun h=>c (by simpa using h)) (by simpa using h)
theorem fT{c a:bo}{b p:Ys}(e:ρ c=.bool b)(f:ρ a=gv (b==aq) (.bool p))(h:∀v,ρ (.const v)=v):(bk ρ ⟨d,.pick c (.const (.bool aT)) a,ty,pos,af,g⟩).run P w=.ok (.value (.bool (b||p))) w:=by
 cases b<;>simp_all[bk,asBool,gv]
theorem iI{c a:bo}{b p:Ys}(e:ρ c=.bool b)(f:ρ a=gv (b==aT) (.bool p))(h:∀v,ρ (.const v)=v):(bk ρ ⟨d,.pick c a (.const (.bool aq)),ty,pos,af,g⟩).run P w=.ok (.value (.bool (b&&p))) w:=by
 cases b<;>simp_all[bk,asBool,gv]
theorem ng{n:Nat}{env:Nat->al}:∀v,ev n env (.const v)=v:=fun _=>rfl
theorem iU{T:ba}{b:Ys}(a:ρ x=.bool b):(bk ρ ⟨d,.unOp .not T x,ty,pos,af,g⟩).run P w=.ok (.value (.bool !b)) w:=r_not a
theorem r_neqb{T2:ba}{p q:Ys}(c:P.underlying T=ak .bool)(a:ρ x=.bool p)(b:ρ y=.bool q):(bk ρ ⟨d,.binOp .neq T x y T2,ty,pos,af,g⟩).run P w=.ok (.value (.bool (p !=q))) w:=by
 simp[bk,a,b,gx,lf,run_equal_bool w T p q c,bne]
theorem cz{z:al}{b o:Nat}{cs:ZD al}(h:SH w0 M K w hp)(i:Nat)(f:hp i=.blk b cs)(e:One P T z)(a:ρ x=.pointer (ak ⟨b,o,ar⟩))(hv:cs[o]? =ak v):
 (bk ρ ⟨d,.load T x,ty,pos,af,g⟩).run P w=.ok (.value v) w:=let ⟨_,c⟩:=h.A7 i f;r_load1 e a c (by simpa using hv)
theorem r_loadN{zs vs:ZD al}{b o:Nat}{cells:Array al}{E:ba}{p:Nat×Nat}(f:xy P T zs)(r:ρ x=.pointer (ak ⟨b,o,ar⟩))(e:w.heap[b]? =ak (.cells cells E p))(hv:(cells.toList.drop o).take zs.length=vs)(n:vs.length=zs.length):
    (bk ρ ⟨d,.load T x,ty,pos,af,g⟩).run P w=.ok (.value (.agg vs.toArray)) w:=by
  obtain⟨i,s,hz,t⟩:=TL f.info;obtain⟨u,q,y⟩:=f.desc;have m:∀j v,vs[j]? =ak v->w.cell? ((⟨b,o,ar⟩:lj).add j)=ak v:=by
    intro j v a;have c:j<zs.length:=by
      rcases cI j vs.length with h|h
      · omega
      · rw[bt h]at a;cases a
    rw[<-hv,cf,Z2 c,cC]at a;by_cases k:j=0
    · subst k;simpa[hQ,eS,e]using a
    · simpa[hQ,eS,e,k]using a
  have l:=tl (P:=P) (w:=w) ⟨b,o,ar⟩ vs m;rw[n]at l;cases u<;>simp at y<;>simp[bk,ph,r,ir,rj,isAgg,cF,q,fE,dG,s,t,l]
theorem yM{zs vs:ZD al}{b o:Nat}{cs:ZD al}(h:SH w0 M K w hp)(i:Nat)(j:hp i=.blk b cs)(f:xy P T zs)(a:ρ x=.pointer (ak ⟨b,o,ar⟩))(hv:(cs.drop o).take zs.length=vs)(c:vs.length=zs.length):
 (bk ρ ⟨d,.load T x,ty,pos,af,g⟩).run P w=.ok (.value (.agg vs.toArray)) w:=let ⟨_,e⟩:=h.A7 i j;r_loadN f a e (by simpa using hv) c
theorem lu{z:al}{b o k:Nat}{cs:ZD al}(h:At w b o cs)(i:One P T z)(c:ρ x=.pointer (ak ⟨b,o+k,ar⟩))(hv:cs[k]? =ak v):
    (bk ρ ⟨d,.load T x,ty,pos,af,g⟩).run P w=.ok (.value v) w:=by
  obtain⟨cells,E,l,j,e⟩:=h;refine r_load1 i c j ?_;have f:k<cs.length:=by
    rcases cI k cs.length with h1|h1
    · exact h1
    · rw[bt h1]at hv;cases hv
  have a:((cells.toList.drop o).take cs.length)[k]? =ak v:=by rw[e];exact hv
  rw[cf,Z2 f,cC]at a;simpa using a
theorem drop_take_add{α:Type}{l:ZD α}{o k m s:Nat}{cs:ZD α}(h:(l.drop o).take s=cs)(a:k+m<=s):(l.drop (o+k)).take m=(cs.drop k).take m:=by
 rw[<-h,eo,ef,mw,cR V]
theorem mi{zs vs:ZD al}{b o k:Nat}{cs:ZD al}(h:At w b o cs)(i:xy P T zs)(a:ρ x=.pointer (ak ⟨b,o+k,ar⟩))(hv:(cs.drop k).take zs.length=vs)(f:vs.length=zs.length)(c:k+zs.length<=cs.length):
  (bk ρ ⟨d,.load T x,ty,pos,af,g⟩).run P w=.ok (.value (.agg vs.toArray)) w:=by
 obtain⟨cells,E,l,j,e⟩:=h;exact r_loadN i a j (by rw[drop_take_add e c];exact hv) f
theorem gF{z:al}{b o k:Nat}{cs:ZD al}(h:SH w0 M K w hp)(i:Nat)(e:hp i=.pt b o cs)(c:One P T z)(a:ρ x=.pointer (ak ⟨b,o+k,ar⟩))(hv:cs[k]? =ak v):
 (bk ρ ⟨d,.load T x,ty,pos,af,g⟩).run P w=.ok (.value v) w:=lu (h.ptAt i e) c a hv
theorem MZ{zs vs:ZD al}{b o k:Nat}{cs:ZD al}(h:SH w0 M K w hp)(i:Nat)(j:hp i=.pt b o cs)(f:xy P T zs)(a:ρ x=.pointer (ak ⟨b,o+k,ar⟩))(hv:(cs.drop k).take zs.length=vs)(e:vs.length=zs.length)(c:k+zs.length<=cs.length):
 (bk ρ ⟨d,.load T x,ty,pos,af,g⟩).run P w=.ok (.value (.agg vs.toArray)) w:=mi (h.ptAt i j) f a hv e c
theorem aM{b o k off:Nat}(j:dX P T k off)(e:ρ x=.pointer (ak ⟨b,o,ar⟩)):
  (bk ρ ⟨d,.fieldAddr T x k,ty,pos,af,g⟩).run P w=.ok (.value (.pointer (ak ⟨b,o+off,ar⟩))) w:=by
 obtain⟨q,f,s,p,h,n,c⟩:=j.desc;obtain⟨i,a,l⟩:∃i,P.info? f.type=ak i/\i.size=s+1:=by
  cases a:P.info? f.type with
  |none=>simp[a]at c
  |some i=>simp[a]at c;exact⟨i,Z,c⟩
 by_cases m:off=0<;>simp[bk,Instr.fieldAt,cF,p,h,e,ir,fieldPlace,fE,dG,a,l,n,hQ,m]
theorem aR{a:lj}(b:ρ x=.pointer (ak a)):(bk ρ ⟨d,.nilCheck x,ty,pos,af,g⟩).run P w=.ok (.value (.pointer (ak a))) w:=by
 simp[bk,b]
theorem gY{α:Type}{R:lT α}{E:ba}{c:Nat}{B A:BS}{l:ZD α}{f:ao}(e:SliceOf P T E c)(b:ρ x=v)(hv:eO R f B A v l):
  (bk ρ ⟨d,.call {callee:=.builtin .len,args:= #[x],argTypes:= #[T]},ty,pos,af,g⟩).run P w=.ok (.value (.int .i64 l.length)) w:=by
 obtain⟨a,cap,rfl,_⟩:=hv;exact qw e b
theorem KI{s:Str}(a:P.underlying T=ak .string)(b:ρ x=bF s):
  (bk ρ ⟨d,.call {callee:=.builtin .len,args:= #[x],argTypes:= #[T]},ty,pos,af,g⟩).run P w=.ok (.value (.int .i64 s.length)) w:=by
 have c:(⟨s.toArray⟩:ByteArray).size=s.length:=by simp[lz]
 simp[bk,hU,ka,jz,sq,b,bF,cF,a,goInt,c]
theorem r_ix{α:Type}{R:lT α}{E:ba}{B A:BS}{l:ZD α}{k:Int}{a:α}{m:ao}(r:SliceOf P T E R.sz)(hv:eO R m B A v l)(j:0<=k)(e:l[k.toNat]? =ak a):
    ∃b o cs,(∀(ρ:bo->al) x y w d ty pos af g,ρ x=v->ρ y=.int .i64 k->(bk ρ ⟨d,.indexAddr T x y,ty,pos,af,g⟩).run P w=.ok (.value (.pointer (ak ⟨b,o,ar⟩))) w)/\¬B b/\At m b o cs/\R.rd m A cs a:=by
  have c:k.toNat<l.length:=by
    rcases cI k.toNat l.length with h|h
    · exact h
    · rw[bt h]at e;cases e
  obtain⟨a',cap,rfl,N,L,M,I⟩:=hv;obtain⟨b,o,cells,F,u,rfl,C,z,n⟩:=I k.toNat c;obtain⟨i,f,K⟩:∃i,P.info? E=ak i/\i.size=R.sz:=by
    have:=r.info;cases f:P.info? E with
    |none=>simp[f]at this
    |some i=>simp[f]at this;exact⟨i,Z,this⟩
  have p:l[k.toNat]=a:=by rw[bc c]at e;exact cQ e
  rw[p]at n;refine⟨b,o+k.toNat*R.sz,_,?_,C,⟨cells,F,u,z,by rw[R.len n]⟩,n⟩;intro ρ x y w d ty pos af g G t;simp only[bk,td,G,t,iz,cF,fE,dG];have s:(⟨b,o,ar⟩:lj).add (k.toNat*R.sz)=⟨b,o+k.toNat*R.sz,ar⟩:=by
    unfold hQ;split
    · next hz=>rw[hz];rfl
    · rfl
  have q:k<(l.length:Int):=by omega
  simp[r.desc,f,K,j,q,s]
theorem SH.pt(h:SH w0 M K w hp)(i:Nat){b o:Nat}{cs:ZD al}(c:¬iT hp b)(a:At w b o cs):SH w0 M K w (bY hp i (.pt b o cs)):=
 h.know i (fun _ h=>h) ⟨c,a⟩
theorem allOwn_up{i:Nat}{c:Chunk}(d:∀b,¬c.own' b):∀b,iT (bY hp i c) b->iT hp b:=by
  rintro b⟨j,a⟩;by_cases e:j=i
  · subst e;rw[bZ]at a;exact ZJ a (d b)
  · rw[eD e]at a;exact⟨j,a⟩
theorem eO.up{α:Type}{R:lT α}{l:ZD α}{i:Nat}{c:Chunk}(h:dx R w (SH.A M hp) v l)(d:∀b,¬c.own' b:=by exact fun _ h=>h):dx R w (SH.A M (bY hp i c)) v l:=
 h.sub (fun b a _=>a.imp id (allOwn_up d b)) (fun b a _=>a.imp id (allOwn_up d b))
abbrev IxOk(P:ca)(T:ba)(v:al)(k:Int)(p:al):Prop:=∀(ρ:bo->al) x y w d ty pos af g,ρ x=v->ρ y=.int .i64 k->(bk ρ ⟨d,.indexAddr T x y,ty,pos,af,g⟩).run P w=.ok (.value p) w
theorem SH.MV{α:Type}{R:lT α}{E:ba}{d:Nat}{l:ZD α}{k:Int}{a:α}(h:SH w0 M K w hp)(i j:Nat)(s:hp i=.rd R v l)(m:SliceOf P T E d)(n:R.sz=d)(c:0<=k)(q:l[k.toNat]? =ak a):
  ∃b o cs,SH w0 M K w (bY hp j (.pt b o cs))/\R.rd w (SH.A M hp) cs a/\IxOk P T v k (.pointer (ak ⟨b,o,ar⟩)):=by
 subst n;obtain⟨b,o,cs,r,e,g,p⟩:=r_ix m (h.bz i s) c q;exact⟨b,o,cs,h.pt j (fun f=>e<|.inr f) g,p,r⟩
theorem SH.Dj{α:Type}{R:lT α}{E:ba}{d:Nat}{l:ZD α}{k:Int}{a:α}(h:SH w0 M K w hp)(i j:Nat)(r:hp i=.sr R v l)(g:SliceOf P T E d)(m:R.sz=d)(c:0<=k)(p:l[k.toNat]? =ak a):
  ∃b o cs,SH w0 M K w (bY hp j (.pt b o cs))/\R.rd w (SH.A M hp) cs a/\IxOk P T v k (.pointer (ak ⟨b,o,ar⟩)):=by
 subst m;obtain⟨b,o,cs,q,e,f,n⟩:=r_ix g (h.srAt i r) c p;exact⟨b,o,cs,h.pt j e f,n,q⟩
def Rh(o:Zs al)(a:Int)(other:Nat):Prop:=(o=ar/\a=other)\/o=ak (.int .i64 a)
def cut{α:Type}(l:ZD α)(a b:Int):ZD α:=(l.take b.toNat).drop a.toNat
theorem r_slv{α:Type}{R:lT α}{E:ba}{a b:Int}{B A:BS}{l:ZD α}{y:ao}(hT:SliceOf P T E R.sz)(hv:eO R y B A v l)(ha:0<=a)(h:a<=b)(O:b<=l.length):
    ∃u,(∀(ρ:bo->al) x (r k:Zs bo) w d ty pos af g,ρ x=v->Rh (r.map ρ) a 0->Rh (k.map ρ) b l.length->(bk ρ ⟨d,.slice T x r k ar,ty,pos,af,g⟩).run P w=.ok (.value u) w)/\eO R y B A u (cut l a b)/\(∀(w2:ao) (q p:BS) (f:ZD α),eO R w2 q p v f->f.length=l.length->eO R w2 q p u (cut f a b)):=by
  obtain⟨a,rfl⟩:=bs ha;obtain⟨b,rfl⟩:=bs (by omega:0<=b);have h:a<=b:=by omega
  have O:b<=l.length:=by omega
  obtain⟨ad,cap,rfl,X,N,G,t⟩:=hv;obtain⟨i,L,s⟩:∃i,P.info? E=ak i/\i.size=R.sz:=by
    have:=hT.info;cases k:P.info? E with
    |none=>simp[k]at this
    |some i=>simp[k]at this;exact⟨i,Z,this⟩
  have n:b<=cap:=by omega
  refine⟨.slice (if cap=a then ad else ad.map (·.add (a*R.sz))) (b-a)<|cap-a,fun ρ x r k w d ty pos af g hx I z=>?_,?_⟩
  · have K:(de aT l.length cap (r.map ρ) (k.map ρ) ar).run P w=.ok (a,b,cap) w:=by
      have h0:(0:Int)<=(a:Int):=ie a;have a4:(0:Int)<=(b:Int):=ie b;have a5:(a:Int)<=(b:Int):=by omega
      have a3:(b:Int)<=(cap:Int):=by omega
      rcases I with⟨m,Q⟩|m<;>rcases z with⟨f1,f2⟩|f1
      · obtain rfl:a=0:=by omega
        obtain rfl:b=l.length:=by omega
        simp[de,m,f1]
      · obtain rfl:a=0:=by omega
        simp[de,m,f1,eC,iz,n]
      · obtain rfl:b=l.length:=by omega
        simp[de,m,f1,eC,iz,h]
      · simp[de,m,f1,eC,iz,h,n]
    simp only[bk,js,jE,cF,hx];simp[hT.desc,K,fE,dG,L,s]
  suffices c:∀(w2:ao) (q p:BS) (f:ZD α),eO R w2 q p (.slice ad l.length cap) f->f.length=l.length->eO R w2 q p (.slice (if cap=a then ad else ad.map (·.add (a*R.sz))) (b-a) (cap-a)) (cut f a b)from⟨c _ _ _ l ⟨ad,cap,Z,X,N,G,t⟩ Z,c⟩
  · intro y B A l⟨a2,a0,e0,X,N,G,t⟩a6;obtain⟨C,a1,M⟩:=Value.slice.inj e0;subst C;subst M;have O:b<=l.length:=by omega
    have e:(cut l a b).length=b-a:=by simp[cut];omega
    refine⟨_,cap-a,by rw[e],by rw[e];omega,by omega,?_,?_⟩
    · intro hn;split at hn
      · omega
      · cases ad with
        |none=>have:=G Z;omega
        |some x=>simp at hn
    · intro j S;rw[e]at S;obtain⟨bb,o,cells,F,fz,m,Q,e3,e4⟩:=t (a+j) V;subst m;refine⟨bb,o+a*R.sz,cells,F,fz,?_,Q,e3,?_⟩
      · rw[Z3 V];simp only[dd,eJ];unfold hQ;split
        · next hz=>rw[hz];rfl
        · rfl
      · have:(cut l a b)[j]'(by rw[e];exact S)=l[a+j]'V:=by simp[cut]
        rw[this];rw[show o+a*R.sz+j*R.sz=o+(a+j)*R.sz by rw[cj,kb]];exact e4
theorem r_sl{α:Type}{R:lT α}{E:ba}{a b:Int}{B A:BS}{l:ZD α}{e:ao}(m:SliceOf P T E R.sz)(hv:eO R e B A v l)(i:0<=a)(c:a<=b)(k:b<=l.length):
  ∃u,(∀(ρ:bo->al) x (f h:Zs bo) w d ty pos af g,ρ x=v->Rh (f.map ρ) a 0->Rh (h.map ρ) b l.length->(bk ρ ⟨d,.slice T x f h ar,ty,pos,af,g⟩).run P w=.ok (.value u) w)/\eO R e B A u (cut l a b):=
 let ⟨u,n,j,_⟩:=r_slv m hv i c k;⟨u,n,j⟩
abbrev SlOk(P:ca)(T:ba)(v:al)(a b:Int)(n:Nat)(u:al):Prop:=∀(ρ:bo->al) x (c e:Zs bo) w d ty pos af g,ρ x=v->Rh (c.map ρ) a 0->Rh (e.map ρ) b n->(bk ρ ⟨d,.slice T x c e ar,ty,pos,af,g⟩).run P w=.ok (.value u) w
theorem SH.slR{α:Type}{R:lT α}{E:ba}{d:Nat}{a b:Int}{l:ZD α}(h:SH w0 M K w hp)(i j:Nat)(o:hp i=.rd R v l)(k:SliceOf P T E d)(m:R.sz=d)(e:0<=a)(c:a<=b)(g:b<=l.length):
  ∃u,SH w0 M K w (bY hp j (.rd R u (cut l a b)))/\SlOk P T v a b l.length u:=by
 subst m;obtain⟨u,n,f⟩:=r_sl k (h.bz i o) e c g;exact⟨u,h.aK j f,n⟩
theorem SH.slS{α:Type}{R:lT α}{E:ba}{d:Nat}{a b:Int}{l:ZD α}(h:SH w0 M K w hp)(i j:Nat)(o:hp i=.sr R v l)(k:SliceOf P T E d)(m:R.sz=d)(e:0<=a)(c:a<=b)(g:b<=l.length):
  ∃u,SH w0 M K w (bY hp j (.sr R u (cut l a b)))/\SlOk P T v a b l.length u:=by
 subst m;obtain⟨u,n,f⟩:=r_sl k (h.srAt i o) e c g;exact⟨u,h.know j (fun _ h=>h) f,n⟩
theorem r_allocN{zs:ZD al}(a:xy P T zs):(bk ρ ⟨d,.alloc T,ty,pos,af,g⟩).run P w=.ok (.value (.pointer (ak ⟨w.heap.size,0,ar⟩))) (w.alloc (.cells zs.toArray T)):=by
 obtain⟨i,b,hz,c⟩:=TL a.info;simp[bk,Instr.alloc,kc,dG,b,hz,newVar,rk,px,kp,-iu]
theorem r_alloc1{z:al}(a:One P T z):(bk ρ ⟨d,.alloc T,ty,pos,af,g⟩).run P w=.ok (.value (.pointer (ak ⟨w.heap.size,0,ar⟩))) (w.alloc (.cells #[z] T)):=by
 obtain⟨i,b,hz,c⟩:=TL a.info;simp[bk,Instr.alloc,kc,dG,b,hz,newVar,rk,a.cell,kp,-iu]
theorem r_box(a:ρ x=v):(bk ρ ⟨d,.box T x,ty,pos,af,g⟩).run P w=.ok (.value (.pointer (ak ⟨w.heap.size,0,ar⟩))) (w.alloc (.cells v.cells T)):=by
 simp[bk,Instr.box,newVar,rk,a,kp,-iu]
theorem SH.newB(h:SH w0 M K w hp)(i:Nat)(cs:ZD al)(T:ba):SH w0 M K (w.alloc (.cells cs.toArray T)) (bY hp i (.blk w.heap.size cs)):=
 h.learn i (Grow.alloc _ _) (fun b a=>mc a.symm) ⟨T,Ql _ _⟩
theorem bg{zs:ZD al}(h:SH w0 M K w hp)(i:Nat)(a:xy P T zs)(k:∀w' b,SH w0 M K w' (bY hp i (.blk b zs))->WL P ops Q rest n (gH env d (.pointer (ak ⟨b,0,ar⟩))) w'):WL P ops Q (⟨d,.alloc T,ty,pos,af,ar⟩::rest) n env w:=
 J (r_allocN a) (k _ _ (h.newB i zs T))
theorem zl{z:al}(h:SH w0 M K w hp)(i:Nat)(a:One P T z)(k:∀w' b,SH w0 M K w' (bY hp i (.blk b [z]))->WL P ops Q rest n (gH env d (.pointer (ak ⟨b,0,ar⟩))) w'):WL P ops Q (⟨d,.alloc T,ty,pos,af,ar⟩::rest) n env w:=
 J (r_alloc1 a) (k _ _ (h.newB i [z] T))
theorem gZ{cs:ZD al}(h:SH w0 M K w hp)(i:Nat)(a:ev n env x=v)(hv:v.cells=cs.toArray)(k:∀w' b,SH w0 M K w' (bY hp i (.blk b cs))->WL P ops Q rest n (gH env d (.pointer (ak ⟨b,0,ar⟩))) w'):WL P ops Q (⟨d,.box T x,ty,pos,af,ar⟩::rest) n env w:=
 J (by rw[r_box a,hv]) (k _ _ (h.newB i cs T))
theorem TM{z:al}{b o:Nat}{cs:Array al}{E:ba}(l:One P T z)(e:ρ x=.pointer (ak ⟨b,o,ar⟩))(c:w.heap[b]? =ak (.cells cs E (0,0)))(ho:o<cs.size)(f:ρ y=v)(hv:v.oneCell'=aT):
  (bk ρ ⟨d,.store T x y,ty,pos,af,g⟩).run P w=.ok .skip (xz w b (.cells (cs.setIfInBounds o v) E (0,0))):=by
 obtain⟨i,k,hz,m⟩:=TL l.info;have j:w.cell? ⟨b,o,ar⟩=ak cs[o]:=by simp[eS,c,ho]
 have h:w.frozen? ⟨b,o,ar⟩=false:=by simp[oE,c]
 have a:v.cells= #[v]:=by cases v<;>first|rfl|simp[fc]at hv
 rw[<-setCell_putb c];simp only[bk,te,e,f,ir,storeVar,a,fE,dG];simp[k,m,storeCells,run_store _ _ _ _ _ hv,j,h,hQ]
theorem TN{zs vs:ZD al}{b o:Nat}{cs:ZD al}{E:ba}(j:xy P T zs)(c:ρ x=.pointer (ak ⟨b,o,ar⟩))(a:w.heap[b]? =ak (.cells cs.toArray E (0,0)))(e:ρ y=.agg vs.toArray)(f:vs.length=zs.length)(ho:o+vs.length<=cs.length)(hv:∀v∈vs,v.oneCell'=aT):
  (bk ρ ⟨d,.store T x y,ty,pos,af,g⟩).run P w=.ok .skip (xz w b (.cells (MU cs o vs).toArray E (0,0))):=by
 obtain⟨i,h,hz,k⟩:=TL j.info;have:=oe (P:=P) b o E vs 0 cs.toArray w a (by simpa using ho) hv;simp only[bk,te,c,e,ir,storeVar,px,fE,dG];simp[h,k,f,this,J9 a,MU]
theorem SH.putB{b:Nat}{cs:ZD al}(h:SH w0 M K w hp)(i:Nat)(e:hp i=.blk b cs)(a:ZD al)(E:ba):SH w0 M K (xz w b (.cells a.toArray E (0,0))) (bY hp i (.blk b a)):=by
 have d:=h.A7 i e;obtain⟨f,d⟩:=d;exact h.step i (bL.xz _ _ _) (fun x c _=>by rw[e];exact c) (fun x c _=>by rw[e];exact c) ⟨E,wH (iR d)⟩
theorem gU{z:al}{b o:Nat}{cs:ZD al}(h:SH w0 M K w hp)(i:Nat)(a:ZD al)(e:hp i=.blk b cs)(l:One P T z)(f:ev n env x=.pointer (ak ⟨b,o,ar⟩))(g:ev n env y=v)(ho:cs.set o v=a)(c:nv o cs.length=aT)(hv:v.oneCell'=aT)
  (k:∀w',SH w0 M K w' (bY hp i (.blk b a))->WL P ops Q rest n (gH env d gf) w'):
  WL P ops Q (⟨d,.store T x y,ty,pos,af,ar⟩::rest) n env w:=by
 obtain⟨E,j⟩:=h.A7 i e;refine BJ (TM l f j (by rw[ma]at c;simpa using c) g hv) (k _ ?_);have:=h.putB i e a E;subst ho;simpa using this
theorem w_stN{zs vs:ZD al}{b o:Nat}{cs:ZD al}(h:SH w0 M K w hp)(i:Nat)(a:ZD al)(e:hp i=.blk b cs)(m:xy P T zs)(l:ev n env x=.pointer (ak ⟨b,o,ar⟩))(f:ev n env y=.agg vs.toArray)(g:vs.length=zs.length)(ho:MU cs o vs=a)(j:lA (o+vs.length) cs.length=aT)(hv:∀v∈vs,v.oneCell'=aT)
  (k:∀w',SH w0 M K w' (bY hp i (.blk b a))->WL P ops Q rest n (gH env d gf) w'):
  WL P ops Q (⟨d,.store T x y,ty,pos,af,ar⟩::rest) n env w:=by
 obtain⟨E,c⟩:=h.A7 i e;subst ho;exact BJ (TN m l c f g (gE j) hv)<|k _<|h.putB i e _ E
def TP(P:ca)(f:fY):Prop:=∃a,P.funcs[f]? =ak a/\(a.name== "runtime.NumGoroutine")=aq/\a.body.isNone=aq
theorem r_call{f:fY}{first captured:Array al}{xs:Array bo}{k:Array ba}(i:TP P f)(h:ρ x=.func (.func f) first captured):
  (bk ρ ⟨d,.call {callee:=.value x,args:=xs,argTypes:=k},ty,pos,af,g⟩).run P w=.ok (.enter f (first++xs.map ρ++captured)) w:=by
 obtain⟨c,m,j,l⟩:=i;have b:¬c.name= "runtime.NumGoroutine" :=by simpa using j
 have a:¬c.body=none:=fun e=>by simp[e]at l
 simp[bk,hU,h,Deferred.ofValue,ka,callFunc,m,b,a]
theorem bW{f:fY}{first captured:Array al}{xs:Array bo}{i:Array ba}{args:ZD al}{R:mb->ao->Prop}(c:TP P f)(a:ev n env x=.func (.func f) first captured)
  (b:first.toList++xs.toList.map (ev n env)++captured.toList=args) (g:bw P f args.toArray w R)
  (h:∀e w',R e w'->∃v,e=.returned v/\WL P ops Q rest n (gH env d v) w'):
  WL P ops Q (⟨d,.call {callee:=.value x,args:=xs,argTypes:=i},ty,pos,af,ar⟩::rest) n env w:=by
 refine wl_enter (r_call c a) ?_ h;have:first++xs.map (ev n env)++captured=args.toArray:=by
  rw[<-b];apply lE;simp
 rw[this];exact g
theorem dY{i:Nat}{vs:ZD al}(a:ρ x=.tuple vs.toArray)(hv:vs[i]? =ak v):(bk ρ ⟨d,.extract x i,ty,pos,af,g⟩).run P w=.ok (.value v) w:=by
 simp[bk,Instr.extract,a,hv]
theorem sF{f:fY}{first captured:Array bo}{c1 c2:ZD al}(c:first.toList.map ρ=c1)(a:captured.toList.map ρ=c2):
  (bk ρ ⟨d,.makeFunc (.func f) first captured,ty,pos,af,g⟩).run P w=.ok (.value (.func (.func f) c1.toArray c2.toArray)) w:=by
 have b:first.map ρ=c1.toArray:=by rw[<-c];apply lE;simp
 have e:captured.map ρ=c2.toArray:=by rw[<-a];apply lE;simp
 simp[bk,Instr.makeFunc,b,e]
theorem calls_start{f:fY}{a:sy}{c:Code}{args:ZD al}{R:mb->ao->Prop}{n:Nat}
  (b:P.funcs[f]? =ak a) (e:a.body=ak c) (hn:a.ntmps=n) (d:args.length<=n)
  (h:WC P c (jF P a R) n (VB args) w):bw P f args.toArray w R:=by
 refine calls_of_wp b e ?_;rw[hn,act_init n args d];exact h.out
theorem bA{a:sy}{R:mb->ao->Prop}{t:Tmp}(b:a.results= #[.tmp t])(hv:ev n env (.tmp t)=v)(h:R (.returned v) w):jF P a R .ret (act n env) w:=by
 refine⟨Z,v,?_,h⟩;rw[results_tmp b];have:=congrFun (gX n env)<|.tmp t;rw[hv]at this;exact ZL (fun v=>qG v w) this
theorem fin0{a:sy}{R:mb->ao->Prop}(b:a.results= #[])(h:R (.returned (.tuple #[])) w):jF P a R .ret (act n env) w:=⟨rfl,_,results_none b _ _ _,h⟩
theorem TQ{a:sy}{R:mb->ao->Prop}(b:a.results= #[])(h:R (.returned (.tuple #[])) w):jF P a R .normal (act n env) w:=⟨rfl,_,results_none b _ _ _,h⟩
theorem wI{c:sy}{R:mb->ao->Prop}{t u:Tmp}{v1 v2:al}(f:c.results= #[.tmp t,.tmp u])(e:ev n env (.tmp t)=v1)(d:ev n env (.tmp u)=v2)(h:R (.returned (.tuple #[v1,v2])) w):jF P c R .ret (act n env) w:=by
 refine⟨Z,_,?_,h⟩;rw[results_tmp2 f];have a:=congrFun (gX n env)<|.tmp t;have b:=congrFun (gX n env)<|.tmp u;rw[e]at a;rw[d]at b;simp only[ik]at a b;rw[a,b]
end
section
variable{α β σ ρ:Type}{r:ρ}{G:Prop}
theorem jT{b:Ys}{X a:ρ}(c:cond b X a=r)(e:b=aT->X=r->G)(d:b=aq->a=r->G):G:=by
  cases b
  · exact d Z c
  · exact e Z c
theorem az{o:Zs α}{f:α->Zs β}{r:β}(h:o.bind f=ak r):∃x,o=ak x/\f x=ak r:=by
 cases o with
 |none=>cases h
 |some x=>exact⟨x,rfl,h⟩
def iG(p:Prop) [Decidable p](x:Zs β):Zs β:=if p then x else ar
theorem bD{p:Prop} [Decidable p]{x:Zs β}{r:β}(h:iG p x=ak r):p/\x=ak r:=by
  unfold iG at h;by_cases hp:p
  · rw[Z2 hp]at h;exact⟨hp,h⟩
  · rw[Z3 hp]at h;cases h
def idx(l:ZD α)(k:Int):Zs α:=if 0<=k then l[k.toNat]? else ar
theorem aG{l:ZD α}{k:Int}{x:α}(h:idx l k=ak x):0<=k/\l[k.toNat]? =ak x:=by
  unfold idx at h;by_cases hp:0<=k
  · rw[Z2 hp]at h;exact⟨hp,h⟩
  · rw[Z3 hp]at h;cases h
def sub?(l:ZD α)(a b:Int):Zs (ZD α):=if 0<=a/\a<=b/\b<=l.length then ak (cut l a b)else ar
theorem Ri{l:ZD α}{a b:Int}{x:ZD α}(h:sub? l a b=ak x):x=cut l a b/\0<=a/\a<=b/\b<=l.length:=by
  unfold sub? at h;by_cases hp:0<=a/\a<=b/\b<=l.length
  · rw[Z2 hp]at h;cases h;exact⟨Z,hp⟩
  · rw[Z3 hp]at h;cases h
def kN(x:Int):Prop:= -9223372036854775808<=x/\x<=9223372036854775807
def i64b:Int->Ys
 | .ofNat n=>lA n 9223372036854775807
 | .negSucc n=>lA n 9223372036854775807
theorem i64b_iff{x:Int}:i64b x=aT↔kN x:=by
 unfold kN;cases x with
 |ofNat n=>simp[i64b,Nat.ble_eq];omega
 |negSucc n=>simp[i64b,Nat.ble_eq];omega
instance (x:Int):Decidable (kN x):=decidable_of_iff (i64b x=aT) i64b_iff
theorem kN.mk{x:Int}(b: -9223372036854775808<=x)(a:x<=9223372036854775807):kN x:=⟨b,a⟩
def each(body:α->σ->(σ->ρ)->ρ)(k:σ->ρ):ZD α->σ->ρ
 |[],s=>k s
 |x::r,s=>body x s (each body k r)
def ib(body:Int->α->σ->(σ->ρ)->ρ)(k:σ->ρ):Int->ZD α->σ->ρ
 |_,[],s=>k s
 |i,x::r,s=>body i x s (ib body k (i+1) r)
def upto(body:Int->σ->(σ->ρ)->ρ)(k:σ->ρ):Int->Nat->σ->ρ
 |_,0,s=>k s
 |i,m+1,s=>body i s (upto body k (i+1) m)
def again(body:σ->(σ->Zs β)->Zs β):Nat->σ->Zs β
 |0,_=>ar
 |n+1,s=>body s (again body n)
end
section
variable{P:ca}{Q:fl->Act->ao->Prop}{n:Nat}{env:Nat->al}{w:ao}{x y:Code}
theorem aA{ρ:Type}{r X a:ρ}{c:bo}{b:Ys}(d:cond b X a=r)(e:ev n env c=.bool b)(g:b=aT->X=r->WC P x Q n env w)(f:b=aq->a=r->WC P y Q n env w):
 WC P (pf c x y) Q n env w:=fe e (fun h=>g h (by rw[h]at d;exact d)) (fun h=>f h (by rw[h]at d;exact d))
def JP{σ:Type}(n:Nat)(mod:Nat->Ys)(VB:Nat->al)(live:σ->ZD (Nat×al))(J:σ->ao->Prop):Act->ao->Prop:=
 fun a' w'=>∃s e,a'=act n e/\JY mod e VB/\Holds e (live s)/\J s w'
def JL{σ:Type}(n:Nat)(mod:Nat->Ys)(VB:Nat->al)(live:σ->ZD (Nat×al))(J:σ->ao->Prop)(a:σ->Nat)(b:σ):Act->ao->Prop:=
 fun a' w'=>∃s e,a'=act n e/\JY mod e VB/\Holds e (live s)/\J s w'/\a s<a b
theorem eU{σ:Type}{c:Code}(mod:Nat->Ys)(live:σ->ZD (Nat×al))(J:σ->ao->Prop)(b:σ->Nat)(a:σ)
 (e:Holds env (live a)) (g:J a w)
 (round:∀s d f,J s d->WC P c (Exit.then (JL n mod env live J b s) Q) n (upds (hav mod f env) (live s)) d):
 WC P (sb c) Q n env w:=wc_loop mod live J b a e g round
theorem bR{σ:Type}(mod:Nat->Ys)(live:σ->ZD (Nat×al))(J:σ->ao->Prop)
  (c:∀s w d,J s w->WC P y Q n (upds (hav mod d env) (live s)) w)
  (h:WC P x (Exit.then (JP n mod env live J) Q) n env w):WC P (Code.seq x y) Q n env w:=by
 refine aC ⟨wp_mono h.out fun b a w h=>?_⟩;cases b with
 |normal=>
  obtain⟨s,e,rfl,i,f,g⟩:=h;have:=c s w e g;rw[hav_self i,VC _ f]at this;exact this.out
 |_=>exact h
end
section
variable{K:Act->ao->Prop}{Q:fl->Act->ao->Prop}{a:Act}{w:ao}{i j:Nat}
theorem ag(h:K a w):Exit.then K Q .normal a w:=h
theorem ai(h:Q .ret a w):Exit.then K Q .ret a w:=h
theorem bN(h:Q (.exit i) a w):Exit.then K Q (.exit i) a w:=h
theorem aj(h:Q .normal a w):ix i Q .normal a w:=h
theorem aD(h:Q .ret a w):ix i Q .ret a w:=h
theorem eF(h:Q .normal a w):ix i Q (.exit i) a w:=by simp only[ix,if_true];exact h
theorem IJ(hn:¬j=i)(h:Q (.exit j) a w):ix i Q (.exit j) a w:=by simp only[ix,Z3 hn];exact h
end
theorem JY.os{mod:Nat->Ys}{e a:Nat->al}{d:Nat}{v:al}(b:mod d=aT)(h:JY mod e a):JY mod (gH e (ak d) v) a:=JY.upd b h
theorem JY.on{mod:Nat->Ys}{e a:Nat->al}{v:al}(h:JY mod e a):JY mod (gH e ar v) a:=h
theorem JY.uc{mod:Nat->Ys}{e a:Nat->al}{d:Nat}{v:al}{l:ZD (Nat×al)}(b:mod d=aT)(h:JY mod (upds e l) a):JY mod (upds e ((d,v)::l)) a:=JY.upd b h
theorem JY.un{mod:Nat->Ys}{e a:Nat->al}(h:JY mod e a):JY mod (upds e []) a:=h
def inl(l:ZD Nat)(i:Nat):Ys:=match l with|[]=>aq|a::r=>bif fL i a then aT else inl r i
def subl(l m:ZD Nat):Ys:=match l with|[]=>aT|a::r=>bif inl m a then subl r m else aq
theorem subl_inl{m:ZD Nat}:∀{l:ZD Nat},subl l m=aT->∀i,inl l i=aT->inl m i=aT
 |[],_,i,h=>by simp[inl]at h
 |a::r,hs,i,h=>by
  unfold subl at hs;unfold inl at h;cases ha:inl m a with
  |false=>simp[ha]at hs
  |true=>
   simp only[ha,ZS]at hs;cases hb:fL i a with
   |true=>have:=gw hb;subst this;exact ha
   |false=>simp only[hb,Z1]at h;exact subl_inl hs i h
theorem JY.hin{l m:ZD Nat}{j e a:Nat->al}(c:subl l m=aT)(h:JY (inl m) e a):JY (inl m) (LX.hav (inl l) j e) a:=fun i b=>by
 have:inl l i=false:=by
  cases hc:inl l i with
  |false=>rfl
  |true=>rw[subl_inl c i hc]at b;cases b
 simp only[LX.hav,this,Z1];exact h i b
open Go.RowKit
theorem eO.row{α:Type}{R:lT α}{w:ao}{B A:BS}{v:al}{l:ZD α}(h:eO R w B A v l):
    (v=.slice ar 0 0/\l=[])\/∃(a:lj) (cap:Nat) (news:ZD al),v=.slice (ak a) l.length cap/\news.length=l.length*R.sz/\(∀j u,news[j]? =ak u->w.cell? (a.add j)=ak u)/\(∀u∈news,u.oneCell'=aT)/\
      ∀i (h:i<l.length),R.rd w A ((news.drop (i*R.sz)).take R.sz) l[i]:=by
  obtain⟨a,cap,rfl,P,I,F,x⟩:=h;cases a with
  |none=>
    have z:=F Z;subst z;have p:l=[]:=cl V;subst p;exact .inl ⟨Z,Z⟩
  |some a=>
    right;by_cases p:l.length=0
    · have:l=[]:=cl p;subst this;exact⟨a,cap,[],Z,by simp,fun j u h=>by simp at h,fun u h=>by simp at h,fun i h=>ZJ h<|eM _⟩
    · obtain⟨b,o,cells,E,K,r,M,s,N⟩:=x 0 V;cases r;have e:∀i (f:i<l.length),R.rd w A ((cells.toList.drop<|o+i*R.sz).take R.sz) l[i]:=by
        intro i f;obtain⟨b',O,n,G,C,r,_,g,q⟩:=x i f;cases r;rw[s]at g;cases g;exact q
      have c:=R.len<|e (l.length-1) V;simp only[cd,cN,cx]at c;have k:=R.pos;have t:o+l.length*R.sz<=cells.size:=by
        have L:l.length*R.sz=(l.length-1)*R.sz+R.sz:=by
          conv=>lhs;rw[show l.length=(l.length-1)+1 by omega]
          rw[cj,nQ]
        omega
      refine⟨⟨b,o,ar⟩,cap,(cells.toList.drop o).take<|l.length*R.sz,Z,?_,?_,?_,?_⟩
      · simp only[cd,cN,cx];omega
      · intro j u d;rw[cf]at d;split at d
        · rw[cC]at d;have y:(⟨b,o,ar⟩:lj).add j=⟨b,o+j,ar⟩:=by unfold hQ;split<;>simp_all
          rw[y];simpa[eS,s]using d
        · cases d
      · intro u d;obtain⟨j,m⟩:=List.getElem?_of_mem d;rw[cf]at m;split at m
        · next hlt=>
          rw[cC]at m;have f:j / R.sz<l.length:=qi (by rw[nw];exact hlt);refine R.one (e (j / R.sz) f) u<|List.mem_of_getElem? (i:=j%R.sz) ?_;rw[cf,Z2 (nh _ k),cC];rw[show o+j / R.sz*R.sz+j%R.sz=o+j by rw[kb,Nat.div_add_mod' j R.sz]];exact m
        · cases m
      · intro i f;rw[eo,ef,mw,cR]
        · exact e i f
        · have:(i+1)*R.sz<=l.length*R.sz:=bd _ f;rw[cj]at this;omega
theorem fill_fold(c:ZD al):∀(cells:Array al) (o:Nat),o+c.length<=cells.size->
  (c.zipIdx.foldl (fun cs(p:al×Nat)=>cs.setIfInBounds (o+p.2) p.1) cells).toList=MU cells.toList o c:=by
 suffices a:∀(k:Nat) (cells:Array al) (o:Nat),o+k+c.length<=cells.size->
   ((c.zipIdx k).foldl (fun cs(p:al×Nat)=>cs.setIfInBounds (o+p.2) p.1) cells).toList=MU cells.toList (o+k) c by
  intro cells o h;have:=a 0 cells o (by simpa using h);simpa using this
 induction c with
 |nil=>intro k cells o h;simp[MU]
 |cons x r ih=>
  intro k cells o h;simp only[bq]at h;rw[sc,List.foldl_cons,ih (k+1) _ o (by simp;omega)];simp only[kf,MU];rw[show o+(k+1)=o+k+1 by omega];apply dp;intro i;simp only[ck,gR,cd,cp,cx,cf,fh,cC,bq,List.getElem?_cons]
  grind
theorem Y8{a:Nat}(hz:0<a):∀(vs:ZD al) (k:Nat) (cells:Array al),(∀v∈vs,v.cells.size=a)->(k+vs.length)*a<=cells.size->
    ∃out,kh (fun i=>ak (i*a,a)) cells ((vs.zipIdx k).map fun p=>(p.2,p.1))=ak out/\out.toList=MU cells.toList (k*a) (vs.map fun v=>v.cells.toList).flatten
  |[],k,cells,_,_=>⟨cells,rfl,by simp[MU]⟩
  |v::r,k,cells,hv,hs=>by
    have h:v.cells.size=a:=hv v zq3;simp only[bq]at hs;have d:(k+1+r.length)*a<=cells.size:=by rw[show k+1+r.length=k+(r.length+1) by omega];exact hs
    have m:k*a+a<=cells.size:=by
      have:(k+1)*a<=(k+1+r.length)*a:=bd _ V;rw[cj,nQ]at this;omega
    have l:=fill_fold v.cells.toList cells (k*a) (by rw[cx,h];exact m);let c2:=v.cells.zipIdx.foldl (fun cs(p:al×Nat)=>cs.setIfInBounds (k*a+p.2) p.1) cells;have b:c2.toList=MU cells.toList (k*a) v.cells.toList:=by
      rw[<-l];show(v.cells.zipIdx.foldl _ cells).toList=_;rw[<-qk,pS]
    have e:c2.size=cells.size:=by
      have:=ZL fb b;simp only[MU,bj,cd,cN,cx]at this;omega
    obtain⟨out,f,g⟩:=Y8 hz r (k+1) c2 (fun x j=>hv x (by simp[j])) (by rw[e];exact d);refine⟨out,?_,?_⟩
    · rw[sc,cg];unfold kh;simp only[h,ne_eq,not_true_eq_false,decide_false,Bool.false_or];rw[Z3 (by simp;omega)];exact f
    · rw[g,b];simp only[cg,kO,MU];rw[show(k+1)*a=k*a+a by rw[cj,nQ]];have n:v.cells.toList.length=a:=by rw[cx,h]
      generalize v.cells.toList=c at*;generalize (r.map fun v=>v.cells.toList).flatten=q;apply dp;intro i;simp only[ck,gR,cd,cx,bj,cf,cC,cN]
      grind
def Lg{α:Type}(R:lT α)(w:ao)(A:BS):ZD al->ZD α->Prop
 |[],[]=>True
 |v::vs,x::xs=>R.rd w A v.cells.toList x/\Lg R w A vs xs
 |_,_=>False
theorem Lg.len{α:Type}{R:lT α}{w:ao}{A:BS}:∀{vs:ZD al} {xs:ZD α},Lg R w A vs xs->vs.length=xs.length
 |[],[],_=>rfl
 |v::vs,x::xs,h=>by simp[Lg.len h.2]
 |[],_::_,h=>h.elim
 |_::_,[],h=>h.elim
theorem Lg.sizes{α:Type}{R:lT α}{w:ao}{A:BS}:∀{vs:ZD al} {xs:ZD α},Lg R w A vs xs->∀v∈vs,v.cells.size=R.sz
  |[],[],_=>by simp
  |v::vs,x::xs,h=>by
    intro u a;rcases bm.1 a with rfl|a
    · have:=R.len h.1;simpa using this
    · exact Lg.sizes h.2 u a
  |[],_::_,h=>h.elim
  |_::_,[],h=>h.elim
theorem flat_len{a:Nat}:∀{vs:ZD al},(∀v∈vs,v.cells.size=a)->(vs.map fun v=>v.cells.toList).flatten.length=vs.length*a
 |[],_=>by simp
 |v::r,h=>by
  have d:=h v zq3;have c:=flat_len fun u b=>h u<|bl _ b;simp only[cg,kO,bj,c,cx,d,bq,cj];omega
theorem Lg.at{α:Type}{R:lT α}{w:ao}{A:BS}:∀{vs:ZD al} {xs:ZD α},Lg R w A vs xs->∀i (h:i<xs.length),R.rd w A (((vs.map fun v=>v.cells.toList).flatten.drop (i*R.sz)).take R.sz) xs[i]
 |[],[],_,i,h=>ZJ h (eM _)
 |v::vs,x::xs,h,i,hi=>by
  have a:v.cells.toList.length=R.sz:=R.len h.1;cases i with
  |zero=>
   simp only[cg,kO,py,ga,List.getElem_cons_zero];rw[cY V,iA V];exact h.1
  |succ i=>
   have:=Lg.at h.2 i (by simpa using hi);simp only[cg,kO,List.getElem_cons_succ];rw[jt,cG (by rw[a,cj];omega),cr,a,show(i+1)*R.sz-R.sz=i*R.sz by rw[cj];omega];exact this
 |[],_::_,h,_,_=>h.elim
 |_::_,[],h,_,_=>h.elim
structure Struct(P:ca)(T:ba)(zs:List al)(pl:List (Nat×Nat)):Prop where
  zero:(P.info? T).map (·.zero)=ak (ak (.agg zs.toArray))
  desc:∃fs,P.underlying T=ak (.struct fs)/\fs.toList.map (fun f=>(f.offset,(P.info? f.type).map (·.size)))=pl.map (fun p=>(p.1,ak p.2))
def FillOk(pl:ZD (Nat×Nat))(cs:ZD al):ZD (Nat×al)->ZD al->Prop
 |[],out=>cs=out
 |(i,v)::r,out=>∃off a vs,pl[i]? =ak (off,a)/\v.cells.toList=vs/\vs.length=a/\off+a<=cs.length/\FillOk pl (MU cs off vs) r out
theorem fill_ok{pl:ZD (Nat×Nat)}:∀{a:ZD (Nat×al)} {cs out:ZD al},FillOk pl cs a out->kh (fun i=>pl[i]?) cs.toArray a=ak out.toArray
 |[],cs,out,h=>by cases h;rfl
 |(i,v)::r,cs,out,h=>by
  obtain⟨off,b,vs,k,f,e,l,j⟩:=h;unfold kh;simp only[k];have c:v.cells.size=b:=by rw[<-e,<-f,cx]
  rw[Z3 (by simp[c];omega)];have g:=fill_fold vs cs.toArray off (by rw[e];simpa using l);have:(v.cells.zipIdx.foldl (fun cs(p:al×Nat)=>cs.setIfInBounds (off+p.2) p.1) cs.toArray)=(MU cs off vs).toArray:=by
   apply lE;rw[<-qk,pS,f];exact g
  have d:=fill_ok j;rw[<-this]at d;exact d
section
variable{P:ca}{ops:Array ei}{Q:fl->Act->ao->Prop}{n:Nat}{env:Nat->al}{w w' w0:ao}{M K:BS}{hp:Nat->Chunk}{rest:ZD ei}
 {d:Zs Nat} {op:Op} {ty:ba} {pos:String} {af:Array hY} {v:al} {g:Zs (Nat×Ys)} {T:ba} {ρ:bo->al} {x y:bo}
theorem BK(h:w.grownBy w' v.ownBlock):bL (ob v) w w':=
 ⟨h.os,h.tape,h.output,h.size,fun b c a=>h.block b a (fun e=>c (ob_row.2 e.symm))⟩
theorem Rj{E:ba}{k b:Nat}{a:Zs lj}{l c:Nat}(e:kM P T E k b)(f:ρ x=.slice a l c)(j:l<=c)(h:ρ y=.slice ar 0 0):
  (bk ρ ⟨d,.call {callee:=.builtin .append,args:= #[x,y],argTypes:= #[T,T]},ty,pos,af,g⟩).run P w=.ok (.value (.slice a l c)) w:=by
 obtain⟨i,z,m,hz,n,_,_⟩:=e.info;cases a<;>simp[bk,hU,ka,jz,f,h,hB,cF,e.desc,fE,dG,m,oi,j,mz,storeCells]
theorem run_app{α:Type}{R:lT α}{E:ba}{sz f:Nat}{A:BS}{u:al}{l m:ZD α}(p:kM P T E sz f)(n:R.sz=sz)(O:ρ x=v)(hv:cK R E w A v l)(S:ρ y=u)(hu:eO R w BE A u m)
    (hA:∀b,ob v b->A b) (a:(l.length+m.length)*f<=140737488355328) (hm:l.length+m.length<=9223372036854775807):
    ∃q w',(bk ρ ⟨d,.call {callee:=.builtin .append,args:= #[x,y],argTypes:= #[T,T]},ty,pos,af,g⟩).run P w=.ok (.value q) w'/\cK R E w' A q (l++m)/\bL (ob v) w w'/\(∀b,ob q b->b<w.heap.size->ob v b):=by
  subst n;have X:=hv;obtain⟨xs,B,h3⟩:=hv;rcases hu.row with⟨rfl,rfl⟩|⟨ad,c,news,rfl,n1,n2,n3,n4⟩
  · have hw:(bk ρ ⟨d,.call {callee:=.builtin .append,args:= #[x,y],argTypes:= #[T,T]},ty,pos,af,g⟩).run P w=.ok (.value v) w:=by
      rcases B.2 with⟨rfl,hn⟩|⟨gg,cap,cur,rfl,_,_,hc,_⟩
      · exact Rj p O (bE _) S
      · exact Rj p O hc S
    exact⟨v,w,hw,by simpa using X,bL.refl _ _,fun _ a _=>a⟩
  · obtain⟨i,z,G,hz,n,s,a1⟩:=p.info;obtain⟨q,w',k,N,hg,_⟩:=run_append_own (P:=P) w 0 T ty E i z R.sz f p.desc G hz n s a1 R.pos v l.length xs B ad m.length c news n1 n2 n3 (by unfold lo;omega) a (fN _);have Q:=BK hg;have o:∀b,ob q b->b<w.heap.size->ob v b:=by
      rcases B.2 with⟨rfl,hn⟩|⟨gg,cap,cur,rfl,_,hgg,hc,hcm,hcs,htake⟩
      · by_cases M:m.length=0
        · have r:news=[]:=cl (by rw[n1,M];simp);subst r;have e:(hB #[T,T] ty #[.slice ar 0 0,.slice (ak ad) m.length c]).run P w=.ok (.slice ar 0 0) w:=by
            simp[hB,cF,p.desc,fE,dG,G,oi,M,mz,loadCells,loadCellsFrom]
          rw[e]at k;cases k;exact fun b a _=>a
        · have e:=run_append_nil (P:=P) w T ty E i z p.desc G hz ad m.length c news (by rw[n];exact n1) n2 V V (by rw[s];have:=a;rw[cj]at this;omega);rw[e]at k;cases k;intro b a K;simp[ob]at a;omega
      · by_cases h:l.length+m.length<=cap
        · have F:l.length*i.size+news.length<=cur.size:=by rw[n1,n,hcs,<-cj];exact bd _ h
          have e:=run_append_room (P:=P) w T ty E i p.desc G gg l.length cap cur hgg ad m.length c news (by rw[n];exact n1) n2 n3 h F;rw[e]at k;cases k;exact fun b a _=>a
        · have holds:∀j u,xs[j]? =ak u->w.cell? ((⟨gg,0,ar⟩:lj).add j)=ak u:=B.cells (g:=gg) Z;have e:=run_append_grow (P:=P) w T ty E i z p.desc G hz ⟨gg,0,ar⟩ l.length cap xs (by rw[n];exact B.1) holds ad m.length c news (by rw[n];exact n1) n2 V V (growslice_fits V (by rw[s];exact a));rw[e]at k;cases k;intro b a K;simp[ob]at a;omega
    have L:(bk ρ ⟨d,.call {callee:=.builtin .append,args:= #[x,y],argTypes:= #[T,T]},ty,pos,af,g⟩).run P w=.ok (.value q) w':=by
      simp only[bk,hU,ka,jz,cy,db,bp,fV,cg,et,O,S,k]
    refine⟨q,w',L,⟨xs++news,by rw[bj];exact N,?_⟩,Q,o⟩;intro i a0;have I:=B.1;have C:∀b,A b\/ob q b->b<w.heap.size->A b\/ob v b:=fun b a K=>a.imp id fun a=>o b a K;by_cases t:i<l.length
    · have h5:=R.go (h3 i t) Q (fun b a _=>.inr a) C;have a2:(i+1)*R.sz<=l.length*R.sz:=bd _ t;rw[cj]at a2;rw[eN t,fX V,cY (by rw[cN];omega)];exact h5
    · rw[bj]at a0;have h5:=R.go (n4 (i-l.length) V) Q (fun b a _=>hA b a) fun b a K=>(C b a K).elim id<|hA b;rw[fm V,jt,cG (by rw[I];exact bd _ V),cr,I,<-nT];exact h5
theorem SH.Dl{α:Type}{R:lT α}{E:ba}(h:SH w0 M K w hp)(i:Nat):SH w0 M K w (bY hp i (.own R E (.slice ar 0 0) ([]:ZD α))):=
 h.learn i (bL.refl BE w) (fun _ h=>h.elim) cK.nil
theorem lV{α:Type}{R:lT α}{E:ba}{j c:Nat}{u:al}{l m:ZD α}(h:SH w0 M K w hp)(i:Nat)(e:hp i=.own R E v l)(B:eO R w BE (SH.A M hp) u m)(s:kM P T E j c)(t:R.sz=j)(o:ev n env x=v)(p:ev n env y=u)
    (a:(l.length+m.length)*c<=140737488355328) (G:l.length+m.length<=9223372036854775807)
    (k:∀w' f,SH w0 M K w' (bY hp i (.own R E f (l++m)))->WL P ops Q rest n (gH env d f) w'):
    WL P ops Q (⟨d,.call {callee:=.builtin .append,args:= #[x,y],argTypes:= #[T,T]},ty,pos,af,ar⟩::rest) n env w:=by
  obtain⟨f,w',F,q,C,z⟩:=run_app (d:=d) (ty:=ty) (pos:=pos) (af:=af) (g:=ar) s t o (h.bI i e) p B (fun b a=>.inr ⟨i,by rw[e];exact a⟩) a G;refine J F (k w' f (h.step i C (fun b a _=>by rw[e];exact a) (fun b a r=>by rw[e];exact z b a r) ?_));refine cK.go q (bL.refl BE w') (fun _ h=>h.elim) (fun _ h=>h.elim) fun b a _=>?_;rcases a with a|a|a
  · exact .inl<|.inl a
  · exact .inl<|.inr<|lU a
  · exact .inr a
theorem run_bs{α:Type}{R:lT α}{E:ba}{G o:Nat}{A:BS}{a:Array (Nat×bo)}{len:Nat}{vs:ZD al}{xs:ZD α}(L:kM P T E G o)(X:R.sz=G)
    (S:(a.toList.map fun p=>(p.1,ev n env p.2))=vs.zipIdx.map fun p=>(p.2,p.1)) (B:vs.length=len) (N:Lg R w A vs xs) (hA:∀b,A b->b<w.heap.size) (a0:len*G<=16777216):
    ∃u w',(bk (ev n env) ⟨d,.buildSlice T len a,ty,pos,af,g⟩).run P w=.ok (.value u) w'/\Grow w w'/\cK R E w' A u xs/\∀b,ob u b->w.heap.size=b:=by
  subst X;subst B;obtain⟨i,z,O,hz,y,Q,a1⟩:=L.info;have e:=N.sizes;have m:=N.len;let zero:Array Value:=if vs.length*R.sz=0 then #[]else z.cells
  let c:Array Value:=(mv (vs.length*R.sz)).map (zero[· %zero.size]!);have f:c.size=vs.length*R.sz:=by simp[c]
  obtain⟨out,r,F⟩:=Y8 R.pos vs 0 c e (by rw[f];simp);have j:=flat_len e;have q:out.toList=(vs.map fun v=>v.cells.toList).flatten:=by
    rw[F,py];simp only[MU,List.take_zero,cr,fa];rw[cG (by rw[cx,f,j];omega),List.append_nil]
  have k:out.size=vs.length*R.sz:=by rw[<-cx,q,j]
  have s:(a.map fun p=>(p.1,ev n env p.2)).toList=vs.zipIdx.map fun p=>(p.2,p.1):=by simpa using S
  have t:(bk (ev n env) ⟨d,.buildSlice T vs.length a,ty,pos,af,g⟩).run P w=.ok (.value<|.slice (ak ⟨w.heap.size,0,ar⟩) vs.length vs.length) (w.alloc<|.cells out E):=by
    simp only[bk,Instr.buildSlice,cF,fE,dG];have K:¬(vs.length*R.sz>2 ^ 24):=by omega
    by_cases C:vs.length*R.sz=0
    · simp only[cy,fS,bp,L.desc,db,O,y,qn,C,if_true];have:out= #[]:=Array.eq_empty_of_size_eq_zero (by rw[k,C]);have I:kh (fun i=>ak (i*R.sz,R.sz)) ((mv 0).map fun x=>(#[]:Array al)[x%(#[]:Array al).size]!) (a.map fun p=>(p.1,ev n env p.2)).toList=ak out:=by
        rw[s];have:c=(mv 0).map (fun x=>(#[]:Array al)[x%(#[]:Array al).size]!):=by simp[c,C]
        rw[<-this];exact r
      rw[I];simp[rk,kp,-iu]
    · simp only[cy,fS,bp,L.desc,db,O,y,qn,Z3 K,C,if_false,kc,dG,hz];have I:kh (fun i=>ak (i*R.sz,R.sz)) ((mv<|vs.length*R.sz).map fun x=>z.cells[x%z.cells.size]!) (a.map fun p=>(p.1,ev n env p.2)).toList=ak out:=by
        rw[s];have:c=(mv<|vs.length*R.sz).map (fun x=>z.cells[x%z.cells.size]!):=by simp[c,zero,C]
        rw[<-this];exact r
      rw[I];simp[rk,kp,-iu]
  refine⟨_,_,t,Grow.alloc _ _,⟨out.toList,⟨by rw[cx,k,m],.inr ⟨w.heap.size,vs.length,out,by rw[m],fN _,Ql _ _,by omega,?_,k,?_⟩⟩,?_⟩,?_⟩
  · unfold lo;have:vs.length<=vs.length*R.sz:=lK _ R.pos;omega
  · rw[iA];rw[cx,k,m];exact bE _
  · intro i M;have h5:=R.go (A':=fun b=>A b\/ob (.slice (ak ⟨w.heap.size,0,ar⟩) vs.length vs.length) b) (N.at i M) (Grow.alloc w (.cells out E)) (fun _ h=>h.elim) (fun b l hl=>by
      rcases l with l|l
      · exact l
      · simp[ob]at l;omega)
    rw[q];exact h5
  · intro b l;simp[ob]at l;exact l.symm
theorem qX{α:Type}{R:lT α}{E:ba}{f c:Nat}{a:Array (Nat×bo)}{len:Nat}{vs:ZD al}{xs:ZD α}(h:SH w0 M K w hp)(i:Nat)(o:kM P T E f c)(q:R.sz=f)
  (l:(a.toList.map fun p=>(p.1,ev n env p.2))=vs.zipIdx.map fun p=>(p.2,p.1)) (e:vs.length=len) (x:Lg R w (SH.A M hp) vs xs) (j:lA (len*f) 16777216=aT)
  (k:∀w' u,SH w0 M K w' (bY hp i (.own R E u xs))->WL P ops Q rest n (gH env d u) w'):
  WL P ops Q (⟨d,.buildSlice T len a,ty,pos,af,ar⟩::rest) n env w:=by
 obtain⟨u,w',v,m,t,r⟩:=run_bs (d:=d) (ty:=ty) (pos:=pos) (af:=af) (g:=ar) o q l e x h.lt<|gE j;exact J v<|k w' u<|h.wF i m t fun b s=>mc<|r b s
theorem run_places{P:ca}{w:ao}:∀(b:ZD Field) (pl:ZD (Nat×Nat)),b.map (fun f=>(f.offset,(P.info? f.type).map (·.size)))=pl.map (fun p=>(p.1,ak p.2))->
    (b.mapM (m:=Sem) fun f=>do pure (f.offset,<-fE f.type)).run P w=.ok pl w
  |[],[],_=>rfl
  |[],_::_,h=>by simp at h
  |_::_,[],h=>by simp at h
  |f::b,p::pl,h=>by
    simp only[cg,List.cons.injEq,iC]at h;obtain⟨⟨g,c⟩,e⟩:=h;have d:=run_places (w:=w) b pl e;obtain⟨i,a,j⟩:∃i,P.info? f.type=ak i/\i.size=p.2:=by
      cases a:P.info? f.type with
      |none=>simp[a]at c
      |some i=>simp[a]at c;exact⟨i,Z,c⟩
    rw[mL];simp only[cy,fE,dG,fS,bp,a,db,j,g];simp only[fE,dG]at d;rw[d];simp
theorem pO{zs out:ZD al}{pl:ZD (Nat×Nat)}{a:Array (Nat×bo)}{pv:ZD (Nat×al)}(n:Struct P T zs pl)(hp:(a.toList.map fun p=>(p.1,ρ p.2))=pv)(q:FillOk pl zs pv out):
  (bk ρ ⟨d,.build T a,ty,pos,af,g⟩).run P w=.ok (.value (.agg out.toArray)) w:=by
 obtain⟨o,h,j⟩:=n.desc;obtain⟨i,c,hz⟩:∃i,P.info? T=ak i/\i.zero=ak (.agg zs.toArray):=by
  have:=n.zero;cases c:P.info? T with
  |none=>simp[c]at this
  |some i=>simp[c]at this;exact⟨i,Z,this⟩
 have r:=run_places (w:=w) o.toList pl j;have l:(o.mapM (m:=Sem) fun f=>do pure (f.offset,<-fE f.type)).run P w=.ok pl.toArray w:=by
  rw[Array.mapM_eq_mapM_toList];simp only[Sem.run_map,r,bp]
 have k:(a.map fun p=>(p.1,ρ p.2)).toList=pv:=by rw[<-hp];simp
 have b:=fill_ok q;simp only[bk,Instr.build,kc,dG,cF];simp only[cy,fS,bp,c,db,hz,h,l,k,px];have e:(fun(x:Nat)=>pl.toArray[x]?)=fun(i:Nat)=>pl[i]? :=by funext x;simp
 rw[e,b];simp
def isNil:al->Ys| .slice ar _ _=>aT|_=>aq
theorem FK{α:Type}{R:lT α}{T2 E:ba}{f:Nat}{B A:BS}{l:ZD α}{h:ao}(j:SliceOf P T E f)(i:ρ x=v)(hv:eO R h B A v l)(e:ρ y=.slice ar 0 0):(bk ρ ⟨d,.binOp .eql T x y T2,ty,pos,af,g⟩).run P w=.ok (.value (.bool (isNil v))) w:=by
 obtain⟨a,cap,rfl,o,k,m,n⟩:=hv;have b:∀a l c,(pb Op.maxDepth T (.slice a l c)<|.slice ar 0 0).run P w=.ok a.isNone w:=by
  intro a l c;show(pb (9999+1) T (.slice a l c)<|.slice ar 0 0).run P w=_;unfold pb;simp only[cy,cF,fS,bp,j.desc,db];cases a<;>simp
 cases a<;>simp[bk,i,e,gx,lf,isNil,Op.equal,b]
theorem qm{α:Type}{R:lT α}{B A:BS}{l:ZD α}(hv:eO R w B A v l)(h:isNil v=aT):v=.slice ar 0 0/\l=[]:=by
 obtain⟨a,cap,rfl,f,d,c,e⟩:=hv;cases a with
 |none=>
  have:=c Z;subst this;have b:l.length=0:=by omega
  exact⟨by rw[b],cl b⟩
 |some a=>simp[isNil]at h
theorem SH.xA{α:Type}{R:lT α}{E:ba}{l:ZD α}{k:Int}{a:α}{b:Nat}(h:SH w0 M K w hp)(i:Nat)(j:hp i=.own R E v l)(m:ob v b)(f:l[k.toNat]? =ak a):
    ∃cs,At w b (k.toNat*R.sz) cs/\R.rd w (SH.A M hp) cs a:=by
  have c:k.toNat<l.length:=by
    rcases cI k.toNat l.length with h|h
    · exact h
    · rw[bt h]at f;cases f
  have g:l[k.toNat]=a:=by rw[bc c]at f;exact cQ f
  obtain⟨a',cap,rfl,u,s,t,r⟩:=h.dL i j;obtain⟨b',o,cells,F,p,rfl,_,q,d⟩:=r k.toNat c;have:b=b':=m;subst this;have ho:o=0:=by
    obtain⟨xs,n,_⟩:=h.bI i j;rcases n.2 with⟨e,_⟩|⟨_,_,_,e,_⟩
    · cases e
    · cases e;rfl
  subst ho;rw[g]at d;rw[fa]at d;exact⟨_,⟨cells,F,p,q,by rw[R.len d]⟩,d⟩
theorem SH.uI{α:Type}{R:lT α}{E:ba}{f:Nat}{l:ZD α}{k:Int}{a:α}(h:SH w0 M K w hp)(i:Nat)(c:hp i=.own R E v l)(n:SliceOf P T E f)(m:R.sz=f)(e:0<=k)(o:l[k.toNat]? =ak a):
    ∃b,ob v b/\IxOk P T v k (.pointer (ak ⟨b,k.toNat*f,ar⟩)):=by
  subst m;have q:k.toNat<l.length:=by
    rcases cI k.toNat l.length with h|h
    · exact h
    · rw[bt h]at o;cases o
  obtain⟨xs,s,_⟩:=h.bI i c;rcases s.2 with⟨rfl,hn⟩|⟨g',cap,cur,rfl,_⟩
  · omega
  refine⟨g',Z,fun ρ x y w d ty pos af g t r=>?_⟩;obtain⟨i,c,m⟩:∃i,P.info? E=ak i/\i.size=R.sz:=by
    have:=n.info;cases c:P.info? E with
    |none=>simp[c]at this
    |some i=>simp[c]at this;exact⟨i,Z,this⟩
  simp only[bk,td,t,r,iz,cF,fE,dG];have p:(⟨g',0,ar⟩:lj).add (k.toNat*R.sz)=⟨g',k.toNat*R.sz,ar⟩:=by
    unfold hQ;split
    · next hz=>rw[hz]
    · simp
  have j:k<(l.length:Int):=by omega
  simp[n.desc,c,m,e,j,p]
theorem SH.cutO{α:Type}{R:lT α}{E:ba}{O:Nat}{l:ZD α}{b:Int}(h:SH w0 M K w hp)(i:Nat)(N:hp i=.own R E v l)(q:SliceOf P T E O)(hs:R.sz=O)(k:0<=b)(Q:b<=l.length):
    ∃u,SH w0 M K w (bY hp i (.own R E u (l.take b.toNat)))/\SlOk P T v 0 b l.length u:=by
  subst hs;have n:b.toNat<=l.length:=by omega
  have d:(l.take b.toNat).length=b.toNat:=by rw[cd];omega
  obtain⟨xs,B,q2⟩:=h.bI i N;obtain⟨u,A,hr⟩:=r_sl (P:=P) (T:=T) q (h.dL i N) (Int.le_refl 0) k Q;have hv:∃cap,v=.slice ar 0 0\/∃g,v=.slice (ak ⟨g,0,ar⟩) l.length cap:=by
    rcases B.2 with⟨rfl,_⟩|⟨g',cap,cur,rfl,_⟩
    · exact⟨0,.inl Z⟩
    · exact⟨cap,.inr ⟨g',Z⟩⟩
  have e:=A (fun o=>match o with| .tmp 0=>v| .const v=>v|_=>gf) (.tmp 0) ar (ak<|.const<|.int .i64 b) w ar 0 "" #[] ar Z (.inl ⟨Z,Z⟩) (.inr Z);rcases B.2 with⟨rfl,hn⟩|⟨g',cap,cur,rfl,e1,e2,e3,e4,e5,e6⟩
  · have C:l=[]:=cl hn;subst C;obtain⟨a,cap,rfl,h1,h2,h3,h4⟩:=hr;have I:b=0:=by simp at Q;omega
    subst I;have:a=ar/\cap=0:=by
      obtain⟨r,m⟩:∃r,P.info? E=ak r:=by
        have:=q.info;cases p:P.info? E with
        |none=>simp[p]at this
        |some i=>exact⟨i,rfl⟩
      simp[bk,js,jE,cF,q.desc,de,eC,iz,fE,dG,m,cut]at e;exact⟨e.1.symm,e.2.symm⟩
    obtain⟨rfl,rfl⟩:=this;refine⟨_,?_,A⟩;have:=h.step (c:=.own R E (.slice ar 0 0) ([]:ZD α)) i (bL.refl BE w) (fun _ h=>h.elim) (fun _ h=>h.elim) cK.nil;simpa[cut]using this
  · have G:u=.slice (ak ⟨g',0,ar⟩) b.toNat cap:=by
      obtain⟨r,m,z⟩:∃r,P.info? E=ak r/\r.size=R.sz:=by
        have:=q.info;cases p:P.info? E with
        |none=>simp[p]at this
        |some i=>simp[p]at this;exact⟨i,Z,this⟩
      obtain⟨t,rfl⟩:=bs k;have F:t<=cap:=by simp at n;omega
      have y:(⟨g',0,ar⟩:lj).add 0=⟨g',0,ar⟩:=rfl;have X:(0:Int)<=(t:Int):=ie t;have a0:(t:Int)<=(cap:Int):=by omega
      by_cases s:cap=0
      · subst s;have k:t=0:=by omega
        subst k;simp[bk,js,jE,cF,q.desc,de,eC,iz,fE,dG,m,z]at e;simpa using e.symm
      · simp[bk,js,jE,cF,q.desc,de,eC,iz,fE,dG,m,z,F,s,y]at e;simpa using e.symm
    subst G;refine⟨_,h.step (c:=.own R E (.slice (ak ⟨g',0,ar⟩) b.toNat cap) (l.take b.toNat)) i (bL.refl BE w) (fun _ h=>h.elim) (fun x f _=>by rw[N];exact f) ⟨xs.take (b.toNat*R.sz),⟨?_,.inr ⟨g',cap,cur,by rw[d],e1,e2,?_,e4,e5,?_⟩⟩,?_⟩,A⟩
    · rw[d,cd,B.1,cR (bd _ n)]
    · rw[d];omega
    · rw[d,<-e6,ef,cR (bd _ n)]
    · intro j S;rw[d]at S;have L:j<l.length:=by omega
      have p:=R.go (A':=fun x=>(M x\/SH.av hp i (.own R E (.slice (ak ⟨g',0,ar⟩) b.toNat cap) (l.take b.toNat)) x)\/ob (.slice (ak ⟨g',0,ar⟩) b.toNat cap) x) (q2 j L) (bL.refl BE w) (fun _ h=>h.elim) (fun x f _=>by
        rcases f with(f|f|f)|f
        · exact .inl<|.inl f
        · exact .inl<|.inr<|lU f
        · exact .inr f
        · exact .inr f)
      rw[la];rw[eo,ef,cR]
      · exact p
      · have:(j+1)*R.sz<=b.toNat*R.sz:=bd _ S;rw[cj]at this;omega
theorem Rk{α:Type}{l:ZD α}{i o s off:Nat}{x:α}(ho:o=i+off):((l.set o x).drop i).take s=((l.drop i).take s).set off x:=by
 subst ho;rw[tm,Z3 V,Nat.add_sub_cancel_left,mT]
theorem OH{α:Type}{l:ZD α}{i o s:Nat}{x:α}(h:o<i\/i+s<=o):((l.set o x).drop i).take s=(l.drop i).take s:=by
  rw[tm];split
  · rfl
  · rw[mT,List.set_eq_of_length_le];rw[cd];omega
theorem Lh{α:Type}{R:lT α}{E:ba}{C:Nat}{l:ZD α}{k:Int}{a a':α}{b off:Nat}{z u:al}(h:SH w0 M K w hp)(i:Nat)(s:hp i=.own R E u l)(t:ob u b)(hs:R.sz=C)(r:l[k.toNat]? =ak a)(hT:One P T z)(c:ev n env x=.pointer (ak ⟨b,k.toNat*C+off,ar⟩))
    (hy:ev n env y=v) (h1:v.oneCell'=aT) (p:nv off C=aT) (hset:∀cs,R.rd w (SH.A M hp) cs a->R.rd w (SH.A M hp) (cs.set off v) a')
    (kk:∀w',SH w0 M K w' (bY hp i (.own R E u (l.set k.toNat a')))->WL P ops Q rest n (gH env d gf) w'):
    WL P ops Q (⟨d,.store T x y,ty,pos,af,ar⟩::rest) n env w:=by
  subst hs;rw[ma]at p;have f:k.toNat<l.length:=by
    rcases cI k.toNat l.length with h|h
    · exact h
    · rw[bt h]at r;cases r
  have G:l[k.toNat]=a:=by rw[bc f]at r;exact cQ r
  generalize k.toNat=k at*;have e:∀b,ob u b->SH.A M hp b:=fun b t=>.inr ⟨i,by rw[s];exact t⟩;obtain⟨xs,O,q3⟩:=h.bI i s;rcases O.2 with⟨rfl,hn⟩|⟨g',cap,cur,rfl,e1,e2,e3,e4,e5,e6⟩
  · omega
  have B:b=g':=t;subst B;have N:(k+1)*R.sz<=l.length*R.sz:=bd _ f;have X:l.length*R.sz<=cap*R.sz:=bd _ e3;rw[cj]at N;have F:k*R.sz+off<cur.size:=by omega
  have o:=bL.xz w b<|.cells (cur.setIfInBounds (k*R.sz+off) v) E (0,0);refine BJ (TM hT c e2 F hy h1) (kk _ (h.step i o (fun x c _=>by rw[s];exact c) (fun x c _=>by rw[s];exact c) ⟨xs.set (k*R.sz+off) v,⟨?_,.inr ⟨b,cap,cur.setIfInBounds (k*R.sz+off) v,?_,e1,?_,?_,e4,?_,?_⟩⟩,?_⟩))
  · rw[cp,cp];exact O.1
  · rw[cp]
  · rw[wH (iR e2)]
  · rw[cp];exact e3
  · simpa using e5
  · rw[cp,kf,mT,e6]
  · intro g I;have L:g<l.length:=by rwa[cp]at I
    have q:=fun cs a(h:R.rd w (SH.A M hp) cs a)=>R.go (A':=fun x=>(M x\/(SH.av hp i (.own R E (.slice (ak ⟨b,0,ar⟩) l.length cap) (l.set k a'))) x)\/ob (.slice (ak ⟨b,0,ar⟩) l.length cap) x) h o (fun x c _=>e x c) (fun x c _=>by
      rcases c with(c|c|c)|c
      · exact .inl c
      · exact .inr<|lU c
      · exact e x c
      · exact e x c)
    have S:=fun j(hj:j<l.length)=>R.go (A':=SH.A M hp) (q3 j hj) (bL.refl BE w) (fun _ h=>h.elim) fun x c _=>.inl c;by_cases m:g=k
    · subst m;rw[mx,Rk rfl];exact q _ _<|hset _<|G▸S g f
    · rw[nb (Ne.symm m),OH]
      · exact q _ _<|S g L
      · rcases cI k g with h5|h5
        · left;have:(k+1)*R.sz<=g*R.sz:=bd _ h5;rw[cj]at this;omega
        · right;have:(g+1)*R.sz<=k*R.sz:=bd _ V;rw[cj]at this;omega
structure WK(P:ca)(ops:Array ei)(w:ao)(Q:Act->Prop)(l:List ei)(n:Nat)(env:Nat->al):Prop where
 out:po P ops (fun x=>x=w) Q l (act n env)
end
section
variable{P:ca}{ops:Array ei}
theorem wJ{w:ao}{Q:Act->Prop}:∀{l:ZD ei} {a:Act},po P ops (fun x=>x=w) Q l a->wpStill P ops w Q l a
  |[],_,h=>h
  |o::rest,a,h=>by
    unfold po at h;unfold wpStill;split
    · rename_i c;rw[Z2 c]at h;obtain⟨v,i,d⟩:=h;have b:=i w Z;unfold Oper.quietAt at b;unfold Oper.still;generalize (bk a.eval o).run P w=r at b⊢;cases r with
      |ok n w'=>
        cases n<;>simp only[tf]at b<;>simp only[Oper.stillUpon];case value u=>exact⟨b.1,by rw[b.2];exact wJ d⟩
        case skip=>exact⟨b.1,by rw[<-b.2];exact wJ d⟩
        case enter f args=>exact⟨b.1,v,b.2.mono (fun e g h=>h),wJ d⟩
      |halt x w'=>simp only[tf]at b
    · rename_i c;rw[Z3 c]at h;exact wJ h
end
section
variable{P:ca}{ops:Array ei}{Q:fl->Act->ao->Prop}{n:Nat}{env:Nat->al}{w w' w0:ao}{M K:BS}{hp:Nat->Chunk}{rest:ZD ei}
 {d:Zs Nat} {op:Op} {ty:ba} {pos:String} {af:Array hY} {v:al} {g:Zs (Nat×Ys)} {T:ba} {ρ:bo->al} {x y:bo}
variable{Q1:Act->Prop}
theorem aJ(c:(bk (ev n env) ⟨d,op,ty,pos,af,ar⟩).run P w=.ok (.value v) w)(h:WK P ops w Q1 rest n (gH env d v)):WK P ops w Q1 (⟨d,op,ty,pos,af,ar⟩::rest) n env:=by
  refine⟨?_⟩;unfold po;have a:cw ⟨d,op,ty,pos,af,ar⟩ (eI ops (act n env).tmps)=true:=rfl;rw[Z2 a];refine⟨v,fun w' b=>?_,?_⟩
  · subst b;unfold Oper.quietAt;rw[gX,c];exact⟨Z,Z⟩
  · rw[FJ];exact h.out
theorem gy{j dj:Nat}{b:Ys}(f:(ops[j]?).bind (·.dst)=ak dj)(hv:ev n env (.tmp dj)=.bool b)(h:WK P ops w Q1 (⟨d,op,ty,pos,af,ar⟩::rest) n env):WK P ops w Q1 (⟨d,op,ty,pos,af,ak (j,b)⟩::rest) n env:=by
  have c:=MW (ops:=ops) f hv;have e:cw ⟨d,op,ty,pos,af,ak (j,b)⟩ (eI ops (act n env).tmps)=true:=by simp[cw,c]
  have a:cw ⟨d,op,ty,pos,af,ar⟩ (eI ops (act n env).tmps)=true:=rfl;obtain⟨h⟩:=h;refine⟨?_⟩;unfold po at h⊢;rw[Z2 a]at h;rw[Z2 e];exact h
theorem wk_skip(a:cw ⟨d,op,ty,pos,af,g⟩ (eI ops (act n env).tmps)=aq)(h:WK P ops w Q1 rest n (gH env d gf)):WK P ops w Q1 (⟨d,op,ty,pos,af,g⟩::rest) n env:=by
 refine⟨?_⟩;unfold po;rw[Z3 (by rw[a];decide),FJ];exact h.out
theorem dW{j dj:Nat}{b b':Ys}(e:(ops[j]?).bind (·.dst)=ak dj)(hv:ev n env (.tmp dj)=.bool b')(c:(b'==b)=aq)(h:WK P ops w Q1 rest n (gH env d gf)):WK P ops w Q1 (⟨d,op,ty,pos,af,ak (j,b)⟩::rest) n env:=
  wk_skip (by have a:=MW (ops:=ops) e hv;simpa[cw,a]using c) h
theorem Rl{j dj:Nat}(c:(ops[j]?).bind (·.dst)=ak dj)(b:ev n env (.tmp dj)=gf):eI ops (act n env).tmps j=none:=by
  unfold eI;have a:(act n env).eval (.tmp dj)=undef:=by rw[gX];exact b
  simp only[c,cM];simp only[ik]at a;cases h2:(act n env).tmps[dj]? with
  |none=>rfl
  |some x=>simp[cV,h2]at a;subst a;rfl
theorem BL{j dj:Nat}{b:Ys}(a:(ops[j]?).bind (·.dst)=ak dj)(hv:ev n env (.tmp dj)=gf)(h:WK P ops w Q1 rest n (gH env d gf)):WK P ops w Q1 (⟨d,op,ty,pos,af,ak (j,b)⟩::rest) n env:=
  wk_skip (by simp[cw,Rl a hv]) h
theorem Ap{j dj:Nat}{b:Ys}(c:(ops[j]?).bind (·.dst)=ak dj)(hv:ev n env (.tmp dj)=gf)(h:WL P ops Q rest n (gH env d gf) w):WL P ops Q (⟨d,op,ty,pos,af,ak (j,b)⟩::rest) n env w:=by
  have a:cw ⟨d,op,ty,pos,af,ak (j,b)⟩ (eI ops (act n env).tmps)=false:=by simp[cw,Rl c hv]
  refine⟨?_⟩;unfold nM;rw[Z3 (by rw[a];decide),FJ];exact h.out
theorem wk_gd{j dj:Nat}{b a:Ys}(c:Ys)(g:(ops[j]?).bind (·.dst)=ak dj)(hv:ev n env (.tmp dj)=gv c (.bool b))
    (m:(c&&(b==a))=aT->(bk (ev n env) ⟨d,op,ty,pos,af,ar⟩).run P w=.ok (.value v) w) (h:WK P ops w Q1 rest n (gH env d (gv (c&&(b==a)) v))):
    WK P ops w Q1 (⟨d,op,ty,pos,af,ak (j,a)⟩::rest) n env:=by
  by_cases f:(c&&(b==a))=aT
  · have i:=gl f;have k:=gr f;rw[fC i]at hv;rw[fC f]at h;have l:b=a:=by simpa using k
    subst l;exact gy g hv<|aJ (m f) h
  · have e:(c&&(b==a))=false:=by simpa using f
    rw[e]at h;cases c with
    |true=>exact dW g hv (by simpa using e) h
    |false=>exact BL g hv h
theorem oh{j dj:Nat}{b a:Ys}(e:(ops[j]?).bind (·.dst)=ak dj)(hv:ev n env (.tmp dj)=.bool b)
    (c:(b==a)=aT->(bk (ev n env) ⟨d,op,ty,pos,af,ar⟩).run P w=.ok (.value v) w) (h:WK P ops w Q1 rest n (gH env d (gv (b==a) v))):
    WK P ops w Q1 (⟨d,op,ty,pos,af,ak (j,a)⟩::rest) n env:=
  wk_gd aT e hv (fun h=>c (by simpa using h)) (by simpa using h)
theorem Cx{l:ZD ei}(h:WL P ops Q l n env w):WK P ops w (fun a=>nM P ops Q l a w) [] n env:=⟨h.out⟩
theorem wo{id:Nat}(k:Nat){l:ZD ei}(d:P.follows .mixedOrders=aT)(c:rl .any l.toArray k=aT)(h:SH w0 M K w hp)
  (b:∀w,SH w0 M K w hp->WK P l.toArray w (fun a=>nM P l.toArray Q (l.drop k) a w) (l.take k) n env):WC P (gd id l.toArray aT) Q n env w:=
 ⟨sA k d c (wJ (b _ (h.grow (Grow.drew w))).out)⟩
theorem rD{id:Nat}{l:ZD ei}(d:P.follows .mixedOrders=aT)(c:Region.lexB .any l.toArray=aT)(h:SH w0 M K w hp)
  (b:∀w,SH w0 M K w hp->WK P l.toArray w (fun a=>∀w',w'=w->Q .normal a w') l n env):WC P (gd id l.toArray aT) Q n env w:=
 ⟨wp_region_quiet (C:=fun x=>x=w.drew) d c Z (b _ (h.grow (Grow.drew w))).out⟩
theorem rO(h:Q .normal (act n env) w):WK P ops w (fun a=>∀w',w'=w->Q .normal a w') [] n env:=⟨fun _ e=>by rw[e];exact h⟩
end
open Go.RowKit
section
variable{P:ca}{ops:Array ei}{Q:fl->Act->ao->Prop}{n:Nat}{env:Nat->al}{w w' w0:ao}{M K:BS}{hp:Nat->Chunk}{rest:ZD ei}
 {d:Zs Nat} {op:Op} {ty:ba} {pos:String} {af:Array hY} {v:al} {g:Zs (Nat×Ys)} {T:ba} {ρ:bo->al} {x y:bo}
theorem Hg{v:al}(h:v.oneCell'=aT):v.cells= #[v]:=by
 cases v<;>first|rfl|simp[fc]at h
theorem dZ{v:al}(h:v.oneCell'=aT):v.cells.toList=[v]:=by rw[Hg h]
theorem eO.rdc{α:Type}{R:lT α}{A:BS}{l:ZD α}(h:dx R w A v l):(yE R).rd w A v.cells.toList l:=by
 rw[Hg h.one];exact⟨v,Z,h⟩
theorem gvn{c d:Ys}{v:al}(h:c=aT):gv (c&&d) v=gv d v:=by rw[h,nj]
theorem aL:∀v∈([]:ZD al),v.oneCell'=true:=fun _ h=>by cases h
theorem aa{a:al}{l:ZD al}(c:a.oneCell'=aT)(b:∀v∈l,v.oneCell'=aT):∀v∈a::l,v.oneCell'=true:=fun v h=>by
  rcases bm.1 h with rfl|h
  · exact c
  · exact b v h
def Room{α:Type}(a:Nat)(l m:ZD α):Prop:=(l.length+m.length)*a<=140737488355328/\l.length+m.length<=9223372036854775807
instance {α:Type} (bytes:Nat) (l m:List α):Decidable (Room bytes l m):=inferInstanceAs (Decidable (_/\_))
theorem Room.mk{α:Type}{a:Nat}{l m:ZD α}(c:(l.length+m.length)*a<=140737488355328)(b:l.length+m.length<=9223372036854775807):Room a l m:=⟨c,b⟩
theorem set1{α:Type}{R:lT α}{A:BS}{cs:ZD al}{a a':α}{v:al}(h:R.rd w A v.cells.toList a')(b:R.rd w A cs a)(d:R.sz=1:=by rfl)(hv:v.oneCell'=true:=by assumption):R.rd w A (cs.set 0 v) a':=by
 have:=R.len b;rw[d]at this
 match cs,this with
 |[c],_=>rw[dZ hv]at h;exact h
theorem gz{f:fY}{first captured:Array al}{xs:Array bo}{i:Array ba}{args:ZD al}(c:TP P f)(a:ev n env x=.func (.func f) first captured)
  (b:first.toList++xs.toList.map (ev n env)++captured.toList=args) (g:bw P f args.toArray w (fun e w'=>∃v,e=.returned v/\WL P ops Q rest n (gH env d v) w')):
  WL P ops Q (⟨d,.call {callee:=.value x,args:=xs,argTypes:=i},ty,pos,af,ar⟩::rest) n env w:=
 bW c a b g (fun _ _ h=>h)
theorem lQ{α:Type}{a b:α}{l m:ZD α}(h:a=b)(c:l=m):a::l=b::m:=by rw[h,c]
theorem w_callG{f:fY}{first captured:Array al}{xs:Array bo}{s:Array ba}{args:ZD al}{j dj:Nat}{b a:Ys}(g:Ys)(l:(ops[j]?).bind (·.dst)=ak dj)(hv:ev n env (.tmp dj)=gv g (.bool b))(o:TP P f)(r:ev n env x=.func (.func f) first captured)
    (m:(g&&(b==a))=aT->first.toList++xs.toList.map (ev n env)++captured.toList=args) (p:bw P f args.toArray w (fun e w'=>Grow w w'/\e=.returned v))
    (k:∀w',Grow w w'->WL P ops Q rest n (gH env d (gv (g&&(b==a)) v)) w'):
    WL P ops Q (⟨d,.call {callee:=.value x,args:=xs,argTypes:=s},ty,pos,af,ak (j,a)⟩::rest) n env w:=by
  by_cases c:(g&&(b==a))=aT
  · have t:=gl c;have y:=gr c;rw[fC t]at hv;have q:b=a:=by simpa using y
    subst q;refine X7 l hv<|bW o r (m c) p ?_;rintro e w'⟨u,rfl⟩;refine⟨_,Z,?_⟩;have:=k w' u;rw[fC c]at this;exact this
  · have i:(g&&(b==a))=false:=by simpa using c
    have h:=k w<|bL.refl _ _;rw[i]at h;cases g with
    |true=>exact jW l hv (by simpa using i) h
    |false=>exact Ap l hv h
theorem w_callG0{f:fY}{first captured:Array al}{xs:Array bo}{o:Array ba}{args:ZD al}{j dj:Nat}{b a:Ys}(c:(ops[j]?).bind (·.dst)=ak dj)(hv:ev n env (.tmp dj)=.bool b)(l:TP P f)(g:ev n env x=.func (.func f) first captured)
    (i:(b==a)=aT->first.toList++xs.toList.map (ev n env)++captured.toList=args) (m:bw P f args.toArray w (fun e w'=>Grow w w'/\e=.returned v))
    (k:∀w',Grow w w'->WL P ops Q rest n (gH env d (gv (b==a) v)) w'):
    WL P ops Q (⟨d,.call {callee:=.value x,args:=xs,argTypes:=o},ty,pos,af,ak (j,a)⟩::rest) n env w:=
  w_callG aT c hv l g (fun h=>i (by simpa using h)) m (by simpa using k)
theorem SH.ek{α:Type}{R:lT α}{E:ba}{l:ZD α}(h:SH w0 M BE w hp)(i:Nat)(c:hp i=.own R E v l):cK R E w M v l/\∀b,ob v b->w0.heap.size<=b:=
 ⟨cK.go (h.bI i c) (bL.refl BE w) (fun _ h=>h.elim) (fun _ h=>h.elim) (fun b a _=>.inl (.inl a)),fun b a=>h.fresh i b (by rw[c];exact a)⟩
theorem eT{s:Nat}:∀b,ob (.slice ar 0 0) b->s<=b:=fun _ h=>h.elim
theorem qo{P:ca}{E:ba}{z:al}{s b:Nat}(h:(P.info? E).map (fun i=>(i.zero,i.size,i.bytes))=ak (ak z,s,b))(hz:z.cells.size=s):∃i z,P.info? E=ak i/\i.zero=ak z/\i.size=s/\i.bytes=b/\z.cells.size=s:=by
 cases hi:P.info? E with
 |none=>simp[hi]at h
 |some i=>simp[hi]at h;exact⟨i,z,Z,h.1,h.2.1,h.2.2,hz⟩
theorem r_max{T2:ba}{p q:Int}(a:ρ x=.int .i64 p)(b:ρ y=.int .i64 q):(bk ρ ⟨d,.call {callee:=.builtin .max,args:= #[x,y],argTypes:= #[T,T2]},ty,pos,af,g⟩).run P w=.ok (.value (.int .i64 (max p q))) w:=by
 have h:(if q>p then q else p)=max p q:=by split<;>omega
 simp[bk,hU,ka,jz,Builtin.max_,Builtin.max2,a,b,h]
theorem r_min{T2:ba}{p q:Int}(a:ρ x=.int .i64 p)(b:ρ y=.int .i64 q):(bk ρ ⟨d,.call {callee:=.builtin .min,args:= #[x,y],argTypes:= #[T,T2]},ty,pos,af,g⟩).run P w=.ok (.value (.int .i64 (min p q))) w:=by
 have h:(if q<p then q else p)=min p q:=by split<;>omega
 simp[bk,hU,ka,jz,Builtin.min_,Builtin.min2,a,b,h]
theorem Dq{zs vs cs:ZD al}{b i:Nat}(f:SH w0 M K w hp)(k:hp i=.blk b cs)(j:xy P T zs)(e:vs.length=zs.length)(hv:cs=vs):(rj T ⟨b,0,ar⟩).run P w=.ok (.agg vs.toArray) w:=by
 subst hv;have h:=yM (P:=P) (ρ:=fun _=>.pointer (ak ⟨b,0,ar⟩)) (d:=ar) (ty:=0) (pos:= "") (af:= #[]) (g:=ar) (x:=.tmp 0) (o:=0) (vs:=cs) f i k j Z (by rw[<-e];simp) e;simp only[bk,ph,ir]at h;have c:((rj T ⟨b,0,ar⟩).run P w).andThen (fun a w'=>qG (Next.value a) w')=qG (Next.value (Value.agg cs.toArray)) w:=by simpa using h
 cases hres:(rj T ⟨b,0,ar⟩).run P w with
 |ok v w'=>rw[hres]at c;simp at c;rw[c.1,c.2]
 |halt x w'=>rw[hres]at c;simp[Result.andThen]at c
theorem fin_tct{g:sy}{R:mb->ao->Prop}{t u a:Tmp}{T:ba}{v1 v3:al}{zs vs:ZD al}{b:Nat}(r:g.results= #[.tmp t,.cell a T,.tmp u])(p:ev n env (.tmp t)=v1)(j:ev n env (.tmp a)=.pointer (ak ⟨b,0,ar⟩))(k:ev n env (.tmp u)=v3)
  (o:SH w0 M K w hp) (i:Nat) (q:hp i=.blk b vs) (m:xy P T zs) (l:vs.length=zs.length) (h:R (.returned (.tuple #[v1,.agg vs.toArray,v3])) w):jF P g R .ret (act n env) w:=by
 refine⟨Z,_,?_,h⟩;have c:=congrFun (gX n env)<|.tmp t;have e:=congrFun (gX n env)<|.tmp u;have d:=congrFun (gX n env)<|.tmp a;rw[p]at c;rw[k]at e;rw[j]at d;simp only[ik]at c e d;rw[cV]at c e d;have f:=Dq (P:=P) o q m l Z;unfold results;rw[r];simp[c,e,d,asAddr,f]
theorem SH.kQ{α:Type}{R:lT α}{E:ba}{l:ZD α}(h:SH w0 M K w hp)(j i:Nat)(p:hp j=.own R E v l)(u:hp i=.no)(s:j≠i):SH w0 M K w (bY (bY hp j .no) i (.own R E v l)):=by
  have ho:=h.bI j p;have d:∀x b,(bY (bY hp j .no) i (.own R E v l) x).own' b->∃y,(hp y).own' b/\(x=i->y=j)/\(x≠i->y=x/\x≠j):=by
    intro x b a;by_cases e:x=i
    · subst e;rw[bZ]at a;exact⟨j,by rw[p];exact a,fun _=>rfl,fun h=>ZJ Z h⟩
    · rw[eD e]at a;by_cases c:x=j
      · subst c;rw[bZ]at a;exact a.elim
      · rw[eD c]at a;exact⟨x,a,fun h=>ZJ h e,fun _=>⟨Z,c⟩⟩
  have f:∀b,iT (bY (bY hp j .no) i<|.own R E v l) b->iT hp b:=fun b⟨x,o⟩=>let ⟨y,g,_⟩:=d x b o;⟨y,g⟩;refine⟨h.keep,h.ltM,fun x b a=>let ⟨y,g,_⟩:=d x b a;h.apM y b g,fun x=>?_,fun x y k b o g=>?_,fun x b a=>let ⟨y,g,_⟩:=d x b a;h.old y b g⟩
  · by_cases e:x=i
    · subst e;rw[bZ];have:=h.ok j;rw[p]at this;exact Chunk.sub this fun b a _=>f b a
    · rw[eD e];by_cases c:x=j
      · subst c;rw[bZ];trivial
      · rw[eD c];exact Chunk.sub (h.ok x) (fun b a _=>f b a)
  · obtain⟨x',t,r,n⟩:=d x b o;obtain⟨q,k1,k2,m⟩:=d y b g;have:x'≠q:=by
      by_cases e:x=i
      · have c:y≠i:=fun h=>k<|e.trans h.symm;rw[r e,(m c).1];exact fun h=>(m c).2 h.symm
      · by_cases c:y=i
        · rw[k2 c,(n e).1];exact(n e).2
        · rw[(n e).1,(m c).1];exact k
    exact h.apart x' q this b t k1
theorem SH.bT{α:Type}{R:lT α}{l:ZD α}(h:SH w0 M K w hp)(j i:Nat)(a:hp j=.rd R v l):SH w0 M K w (bY hp i (.rd R v l)):=h.aK i (h.bz j a)
theorem SH.yX{α:Type}{R:lT α}{l:ZD α}(h:SH w0 M K w hp)(i:Nat)(c:hp i=.rd R v l):dx R w M v l:=
 (h.bz i c).sub (fun b a _=>.inl a) (fun b a _=>.inl a)
def clone{α:Type}(b:Nat)(a:ZD α):Zs (ZD α):=iG (Room b ([]:ZD α) a) (ak a)
structure Arr2(P:ca)(T E:ba):Prop where
  desc:P.underlying T=ak (.array 2 E)
  zero:∃z0 z1,(P.info? T).map (·.zero)=ak (ak (.agg #[z0,z1]))
  size:(P.info? E).map (·.size)=ak 1
  plain:∃F,P.underlying E=ak (.slice F)
theorem r_build2{E:ba}{x y:bo}{p q:al}(e:Arr2 P T E)(l:ρ x=p)(k:ρ y=q)(r:p.oneCell'=aT)(m:q.oneCell'=aT):(bk ρ ⟨d,.build T #[(0,x),(1,y)],ty,pos,af,g⟩).run P w=.ok (.value (.agg #[p,q])) w:=by
 obtain⟨b,c,hz⟩:=e.zero;obtain⟨i,a,f⟩:∃i,P.info? T=ak i/\i.zero=ak (.agg #[b,c]):=by
  cases a:P.info? T with
  |none=>simp[a]at hz
  |some i=>simp[a]at hz;exact⟨i,Z,hz⟩
 obtain⟨j,o,h⟩:∃j,P.info? E=ak j/\j.size=1:=by
  have:=e.size;cases a:P.info? E with
  |none=>simp[a]at this
  |some i=>simp[a]at this;exact⟨i,Z,this⟩
 have c1:=Hg r;have c2:=Hg m;simp only[bk,Instr.build,l,k,cF,kc,dG,fE];have n:(Value.agg #[b,c]).cells= #[b,c]:=rfl;simp[a,f,e.desc,o,h,kh,c1,c2,n,l,k]
theorem r_index2{E:ba}{x y:bo}{p q v:al}{k:Nat}(b:Arr2 P T E)(n:ρ x=.agg #[p,q])(f:ρ y=.int .i64 k)(hv:[p,q][k]? =ak v):(bk ρ ⟨d,.index T x y,ty,pos,af,g⟩).run P w=.ok (.value v) w:=by
  obtain⟨F,m⟩:=b.plain;obtain⟨j,o,c⟩:∃j,P.info? E=ak j/\j.size=1:=by
    have:=b.size;cases hi:P.info? E with
    |none=>simp[hi]at this
    |some i=>simp[hi]at this;exact⟨i,Z,this⟩
  have e:k<2:=by
    rcases cI k 2 with h|h
    · exact h
    · rw[bt (by simpa using h)]at hv;cases hv
  have l:(#[p,q]:Array al)[k]? =ak v:=by simpa using hv
  have a:((k:Int)<2):=by omega
  simp only[bk,Instr.index,n,f,cF,iz,part,isAgg,fE,dG];simp[b.desc,o,c,m,a,e];rw[bc (by simpa using e)]at hv;exact cQ hv
structure PairI(P:ca)(T:ba):Prop where
 desc:∃f0 f1,P.underlying T=ak (.struct #[f0,f1])/\f0.name≠ "_" /\f1.name≠ "_" /\f0.offset=0/\f1.offset=1/\P.underlying f0.type=ak (.int .i64)/\P.underlying f1.type=ak (.int .i64)/\P.plainKey f0.type=aT/\P.plainKey f1.type=aT
 stood:P.stoodInHeld T=aq
 guard:P.eqGuardType P.depth T=aq
theorem eq_pairI(i:PairI P T)(a b c e:Int):(pb 10000 T (.agg #[.int .i64 a,.int .i64 b]) (.agg #[.int .i64 c,.int .i64 e])).run P w=.ok (ab (a=c)&&ab (b=e)) w:=by
  obtain⟨j,f,k,q,m,p,o1,l,o,g,k1⟩:=i.desc;have d:P.fieldsOf T= #[j,f]:=by simp[Program.fieldsOf,k]
  rw[show(10000:Nat)=9999+1 from rfl,run_equalIn_agg w 9999 T _ _ (by rw[d];exact k) i.stood,d];simp only[Op.eqFields,q,m,ne_eq,not_false_eq_true,if_true,p,o1,cy];rw[fW w g (xs:= #[.int .i64 a,.int .i64 b]) (off:=0) (v:=.int .i64 a) rfl];simp only[bp];rw[fW w g (xs:= #[.int .i64 c,.int .i64 e]) (off:=0) (v:=.int .i64 c) rfl];simp only[bp];rw[show(9999:Nat)=9998+1 from rfl,run_equalIn_int w 9998 j.type .i64 .i64 a c l];simp only[bp,qn,cy];by_cases h:a=c
  · subst h;simp only[beq_self_eq_true,Bool.not_true,cv,if_false];rw[fW w k1 (xs:= #[.int .i64 a,.int .i64 b]) (off:=1) (v:=.int .i64 b) rfl];simp only[bp];rw[fW w k1 (xs:= #[.int .i64 a,.int .i64 e]) (off:=1) (v:=.int .i64 e) rfl];simp only[bp];rw[run_equalIn_int w 9998 f.type .i64 .i64 b e o];by_cases n:b=e<;>simp[n]
  · simp[h]
theorem r_eqlP{T2:ba}{a b c e:Int}(f:PairI P T)(h:ρ x=.agg #[.int .i64 a,.int .i64 b])(i:ρ y=.agg #[.int .i64 c,.int .i64 e]):(bk ρ ⟨d,.binOp .eql T x y T2,ty,pos,af,g⟩).run P w=.ok (.value (.bool (ab (a=c)&&ab (b=e)))) w:=by
 simp only[bk,h,i,cy,run_eqGuard_agg w .eql T x y _ _ f.guard,bp,run_eql_struct,eq_pairI f];simp
theorem r_neqP{T2:ba}{a b c e:Int}(f:PairI P T)(h:ρ x=.agg #[.int .i64 a,.int .i64 b])(i:ρ y=.agg #[.int .i64 c,.int .i64 e]):(bk ρ ⟨d,.binOp .neq T x y T2,ty,pos,af,g⟩).run P w=.ok (.value (.bool (!(ab (a=c)&&ab (b=e))))) w:=by
 simp only[bk,h,i,cy,run_eqGuard_agg w .neq T x y _ _ f.guard,bp,run_neq_struct,eq_pairI f];simp
end
section
variable{σ:Type}{n:Nat}{e VB:Nat->al}{mod:Nat->Ys}{live:σ->ZD (Nat×al)}{J:σ->ao->Prop}{w:ao}
theorem bH(s:σ)(b:J s w)(a:Holds e (live s):=by repeat (first|exact U|refine⟨rfl,?_⟩))
 (c:JY mod e VB:=by repeat (first|(with_reducible exact JY.refl _ _)|(with_reducible exact JY.hav _ _ _)|(with_reducible refine JY.on ?_)|((with_reducible refine JY.hin ?_ ?_);rfl)|(with_reducible refine JY.un ?_)|((with_reducible refine JY.os ?_ ?_);rfl)|((with_reducible refine JY.uc ?_ ?_);rfl))):
 JP n mod VB live J (act n e) w:=⟨s,e,rfl,c,a,b⟩
theorem iV{b:σ->Nat}{c:σ}(s:σ)(g:J s w)(a:b s<b c:=by dsimp only;omega)(d:Holds e (live s):=by repeat (first|exact U|refine⟨rfl,?_⟩))
 (f:JY mod e VB:=by repeat (first|(with_reducible exact JY.refl _ _)|(with_reducible exact JY.hav _ _ _)|(with_reducible refine JY.on ?_)|((with_reducible refine JY.hin ?_ ?_);rfl)|(with_reducible refine JY.un ?_)|((with_reducible refine JY.os ?_ ?_);rfl)|((with_reducible refine JY.uc ?_ ?_);rfl))):
 JL n mod VB live J b c (act n e) w:=⟨s,e,rfl,f,d,g,a⟩
end
section
variable{P:ca}{Q:fl->Act->ao->Prop}{n:Nat}{env:Nat->al}{w:ao}
theorem wc_rounds{c:Code}(m:Nat)(h:WC P c (Exit.then (pX P c Q m) Q) n env w):WC P (sb c) Q n env w:=⟨wp_loop_rounds (m+1) h.out⟩
theorem Y9{c:Code}{m:Nat}(h:WC P c (Exit.then (pX P c Q m) Q) n env w):Exit.then (pX P c Q (m+1)) Q .normal (act n env) w:=h.out
end
theorem SH.cn{w0 w:ao}{M K:BS}{hp:Nat->Chunk}(h:SH w0 M K w hp)(l:ZD (Nat×Chunk))(a:HoldsC hp l:=by repeat (first|exact U|refine⟨rfl,?_⟩)):SH w0 M K w (hset l):=h.canon l a
section
variable{α β σ ρ:Type}
theorem drop_lt{l:ZD α}{k:Nat}(h:ab ((k:Int)<(l.length:Int))=aT):∃x,l[k]? =ak x/\l.drop k=x::l.drop (k+1):=by
 have a:k<l.length:=by have:=of_decide_eq_true h;omega
 exact⟨l[k],bc a,cS a⟩
theorem drop_ge{l:ZD α}{k:Nat}(h:ab ((k:Int)<(l.length:Int))=aq):l.drop k=[]:=by
 have:=of_decide_eq_false h;exact cG V
theorem gV{body:α->σ->(σ->ρ)->ρ}{k:σ->ρ}{x:α}{l:ZD α}{s:σ}:each body k (x::l) s=body x s (each body k l):=rfl
theorem rE{body:α->σ->(σ->ρ)->ρ}{k:σ->ρ}{s:σ}:each body k [] s=k s:=rfl
theorem sG{body:Int->α->σ->(σ->ρ)->ρ}{k:σ->ρ}{x:α}{l:ZD α}{s:σ}{i:Int}:ib body k i (x::l) s=body i x s (ib body k (i+1) l):=rfl
theorem VD{body:Int->α->σ->(σ->ρ)->ρ}{k:σ->ρ}{s:σ}{i:Int}:ib body k i [] s=k s:=rfl
theorem upto_lt{body:Int->σ->(σ->ρ)->ρ}{k:σ->ρ}{s:σ}{i:Int}{j m:Nat}(h:j<m):upto body k i (m-j) s=body i s (upto body k (i+1) (m-(j+1))):=by
 rw[show m-j=(m-(j+1))+1 by omega];rfl
theorem upto_ge{body:Int->σ->(σ->ρ)->ρ}{k:σ->ρ}{s:σ}{i:Int}{j m:Nat}(h:m<=j):upto body k i (m-j) s=k s:=by
 rw[show m-j=0 by omega];rfl
theorem kY{body:σ->(σ->Zs β)->Zs β}{m:Nat}{s:σ}{r:β}(h:again body m s=ak r):∃a,m=a+1/\body s (again body a)=ak r:=by
 cases m with
 |zero=>cases h
 |succ m=>exact⟨m,rfl,h⟩
theorem fq{l:ZD α}{k:Nat}{i:Int}{x:α}(a:i=(k:Int))(h:l[k]? =ak x):l[i.toNat]? =ak x:=by subst a;simpa using h
theorem iq{k:Nat}{i:Int}(a:i=(k:Int)):0<=i:=by omega
theorem fO{l:ZD α}{k:Nat}{i:Int}(b:l.length<=9223372036854775807)(c:i=(k:Int))(a:ab (i<(l.length:Int))=aT):kN (i+1):=by
 have:=of_decide_eq_true a;exact⟨by omega,by omega⟩
end
open Go.RowKit
section
variable{P:ca}{ops:Array ei}{C:ao->Prop}{Q:fl->Act->ao->Prop}{n:Nat}{env:Nat->al}{w w':ao}{rest:ZD ei}
 {d:Zs Nat} {op:Op} {ty:ba} {pos:String} {af:Array hY} {v:al} {g:Zs (Nat×Ys)} {T:ba} {ρ:bo->al}
def BndN(o:Zs al)(a other:Nat):Prop:=(o=ar/\a=other)\/o=ak (.int .i64 a)
theorem addr_zero(g:Nat):(⟨g,0,ar⟩:lj).add 0=⟨g,0,ar⟩:=rfl
theorem Cy{x:bo}{k:Zs bo}{e:bo}{E:ba}{l b len cap:Nat}{ad:Zs lj}(n:SliceOf P T E l)(p:ρ x=.slice ad len cap)(o:ad=ar\/∃g,ad=ak ⟨g,0,ar⟩)(f:BndN (k.map ρ) 0 0)(a:ρ e=.int .i64 b)(m:b<=cap):
    (bk ρ ⟨d,.slice T x k (ak e) ar,ty,pos,af,g⟩).run P w=.ok (.value (.slice ad b cap)) w:=by
  obtain⟨i,h,j⟩:∃i,P.info? E=ak i/\i.size=l:=by
    have:=n.info;cases e:P.info? E with
    |none=>simp[e]at this
    |some i=>simp[e]at this;exact⟨i,Z,this⟩
  have c:(de aT len cap (k.map ρ) ((ak e).map ρ) ar).run P w=.ok (0,b,cap) w:=by
    have q:(b:Int)<=(cap:Int):=by omega
    rcases f with⟨e1,_⟩|e1
    · simp[de,e1,a,eC,iz,m]
    · simp[de,e1,a,eC,iz,m]
  simp only[bk,js,jE,cF,p];simp only[dd,a]at c;rcases o with rfl|⟨g,rfl⟩<;>simp[n.desc,c,fE,dG,h,j,a,addr_zero]
theorem p9{x:bo}{t c n:Zs bo}{E:ba}{h gg a b m len cap:Nat}(v:SliceOf P T E h)(y:ρ x=.slice (ak ⟨gg,0,ar⟩) len cap)(j:BndN (t.map ρ) a 0)(s:BndN (c.map ρ) b len)(u:(n.map ρ=ar/\m=cap)\/(n.map ρ=ak (.int .i64 m)/\c.map ρ=ak (.int .i64 b)))
    (e:a<=b) (k:b<=m) (p:m<=cap):
    (bk ρ ⟨d,.slice T x t c n,ty,pos,af,g⟩).run P w=.ok (.value (.slice (ak (if m=a then⟨gg,0,ar⟩else⟨gg,a*h,ar⟩)) (b-a) (m-a))) w:=by
  obtain⟨i,q,r⟩:∃i,P.info? E=ak i/\i.size=h:=by
    have:=v.info;cases c:P.info? E with
    |none=>simp[c]at this
    |some i=>simp[c]at this;exact⟨i,Z,this⟩
  have f:(de aT len cap (t.map ρ) (c.map ρ)<|n.map ρ).run P w=.ok (a,b,m) w:=by
    have B:(0:Int)<=(a:Int):=ie a;have A:(0:Int)<=(b:Int):=ie b;have l:b<=cap:=by omega
    have o:a<=m:=by omega
    rcases u with⟨g1,g2⟩|⟨g1,f1⟩
    · subst g2;rcases j with⟨e1,e2⟩|e1<;>rcases s with⟨f1,f2⟩|f1<;>(try subst e2)<;>(try subst f2)<;>
        simp[de,e1,f1,g1,eC,iz,e,k,l]
    · rcases j with⟨e1,e2⟩|e1<;>(try subst e2)<;>
        simp[de,e1,f1,g1,eC,iz,e,k,p,o]
  have z:(⟨gg,0,ar⟩:lj).add (a*h)=⟨gg,a*h,ar⟩:=by
    unfold hQ;split
    · next hz=>rw[hz]
    · simp
  simp only[bk,js,jE,cF,y];simp[v.desc,f,fE,dG,q,r,z];split<;>rfl
structure Raw(w:ao)(gg cap sz:Nat)(E:ba)(cur:List al):Prop where
 blk:w.heap[gg]? =ak (.cells cur.toArray E (0,0))
 len:cur.length=cap*sz
 le:cap<=lo
theorem addr_add(gg o k:Nat):(⟨gg,o,ar⟩:lj).add k=⟨gg,o+k,ar⟩:=by
  unfold hQ;split
  · next hz=>rw[hz];rfl
  · rfl
theorem TR{x y:bo}{E:ba}{b p gg cap a m c j:Nat}{e:ZD al}{ad:lj}(F:kM P T E b p)(r:Raw w gg cap b E e)(I:ev n env x=.slice (ak ⟨gg,0,ar⟩) a cap)(N:ev n env y=.slice (ak ad) m c)
    (C:m=0\/ad=⟨gg,j*b,ar⟩) (K:j+m<=cap) (v:a+m<=cap) (L:∀u∈(e.drop (j*b)).take (m*b),u.oneCell'=aT)
    (h:∀w',bL (fun x=>x=gg) w w'->Raw w' gg cap b E (e.take (a*b)++(e.drop (j*b)).take (m*b)++e.drop (a*b+m*b))->WL P ops Q rest n (gH env d (.slice (ak ⟨gg,0,ar⟩) (a+m) cap)) w'):
    WL P ops Q (⟨d,.call {callee:=.builtin .append,args:= #[x,y],argTypes:= #[T,T]},ty,pos,af,ar⟩::rest) n env w:=by
  obtain⟨i,z,M,hz,A,G,R⟩:=F.info;have O:j*b+m*b<=cap*b:=by rw[<-cj];exact bd _ K
  have t:a*b+m*b<=cap*b:=by rw[<-cj];exact bd _ v
  have l:=r.len;have f:((e.drop<|j*b).take<|m*b).length=m*b:=by rw[cd,cN];omega
  have o:∀k u,((e.drop<|j*b).take<|m*b)[k]? =ak u->w.cell? (ad.add k)=ak u:=by
    intro k u s;rcases C with rfl|rfl
    · simp at s
    · rw[addr_add];have B:k<m*b:=by
        rcases cI k (m*b)with h|h
        · exact h
        · rw[bt V]at s;cases s
      rw[cf,Z2 B,cC]at s;simp[eS,r.blk,s]
  have g:=run_append_room (P:=P) w T ty E i F.desc M gg a cap e.toArray r.blk ad m c _ (by rw[A];exact f) o L v (by rw[A,f];simpa[l]using t);have q:(bk (ev n env) ⟨d,.call {callee:=.builtin .append,args:= #[x,y],argTypes:= #[T,T]},ty,pos,af,ar⟩).run P w=.ok (.value<|.slice (ak ⟨gg,0,ar⟩) (a+m) cap) (xz w gg<|.cells (e.take (a*b)++(e.drop<|j*b).take (m*b)++e.drop (a*b+m*b)).toArray E (0,0)):=by
    rw[A,f,J9 r.blk]at g;simp only[bk,hU,ka,jz,cy,db,bp,fV,cg,et,I,N,g]
  refine J q<|h _ (bL.xz _ _ _) ⟨wH<|iR r.blk,?_,r.le⟩;rw[bj,bj,f,cd,cN,l];omega
def ZeroOne(P:ca)(E:ba):Prop:=∃z,(P.info? E).map (·.zero)=ak (ak z)/\z.cells.all (·.oneCell')=aT
theorem zeroCells_one{z:Array al}{k:Nat}(h:z.all (·.oneCell')=aT):∀u∈(cD z k).toList,u.oneCell'=true:=by
  intro u c;simp only[cD,Array.toList_map,ec]at c;obtain⟨i,d,rfl⟩:=c;have b:i<k*z.size:=by simpa using d
  have hz:0<z.size:=by
    rcases Nat.eq_zero_or_pos z.size with h0|h0
    · rw[h0,Nat.mul_zero]at b;omega
    · exact h0
  have a:i%z.size<z.size:=nh _ hz;rw[getElem!_pos z (i%z.size) a];exact(Array.all_eq_true.1 h) _ a
theorem X8{x:bo}{E:ba}{a l gg cap m k c:Nat}{b:ZD al}(C:kM P T E a l)(u:ZeroOne P E)(r:Raw w gg cap a E b)(I:ev n env x=.slice (ak ⟨gg,m*a,ar⟩) k c)(L:0<k)(v:m+k<=cap)
    (h:∀w' f,bL (fun x=>x=gg) w w'->Raw w' gg cap a E f->f.take (m*a)=b.take (m*a)->WL P ops Q rest n (gH env d (.tuple #[])) w'):
    WL P ops Q (⟨d,.call {callee:=.builtin .clear,args:= #[x],argTypes:= #[T]},ty,pos,af,ar⟩::rest) n env w:=by
  obtain⟨i,z,F,hz,K,G,B⟩:=C.info;obtain⟨t,p,q⟩:=u;have A:t=z:=by simp[F,hz]at p;exact p.symm
  subst A;have y:m*a+k*a<=cap*a:=by rw[<-cj];exact bd _ v
  have g:=r.len;have j:(cD t.cells k).toList.length=k*a:=by rw[cx,lp,B]
  have e:=oe (P:=P) gg (m*a) E (cD t.cells k).toList 0 b.toArray w r.blk (by rw[j];simpa[g]using y) (zeroCells_one q);rw[J9 r.blk]at e;obtain⟨s,rfl⟩:∃s,k=s+1:=⟨k-1,by omega⟩;have o:(bk (ev n env) ⟨d,.call {callee:=.builtin .clear,args:= #[x],argTypes:= #[T]},ty,pos,af,ar⟩).run P w=.ok (.value<|.tuple #[]) (xz w gg<|.cells (b.take (m*a)++(cD t.cells<|s+1).toList++b.drop (m*a+(s+1)*a)).toArray E (0,0)):=by
    rw[j]at e;simp only[Nat.add_zero]at e;simp only[bk,hU,ka,jz,Builtin.clear_,cF,kc,dG,cy,db,bp,fV,cg,et,I];simp[C.desc,F,hz,e]
  refine J o<|h _ _ (bL.xz _ _ _) ⟨wH<|iR r.blk,?_,r.le⟩ ?_
  · rw[bj,bj,j,cd,cN,g];omega
  · rw[ck,cY (by rw[cd];omega),ef,Nat.min_self]
end
theorem YR{α:Type}{R:lT α}{E:ba}{w:ao}{A:BS}{v:al}{l:ZD α}(h:cK R E w A v l)(j:0<l.length):
    ∃gg cap a,v=.slice (ak ⟨gg,0,ar⟩) l.length cap/\Raw w gg cap R.sz E a/\l.length<=cap/\∀i (h:i<l.length),R.rd w (fun b=>A b\/b=gg) ((a.drop (i*R.sz)).take R.sz) l[i]:=by
  obtain⟨xs,f,g⟩:=h;rcases f.2 with⟨rfl,hn⟩|⟨gg,cap,a,rfl,e1,e2,e3,e4,e5,e6⟩
  · omega
  refine⟨gg,cap,a.toList,Z,⟨by simpa using e2,by simpa using e5,e4⟩,e3,fun i e=>?_⟩;have c:(i+1)*R.sz<=l.length*R.sz:=bd _ e;rw[cj]at c;have d:=g i e;rw[<-e6,eo,ef,cR V]at d;exact d
theorem rd_ones{α:Type}{R:lT α}{w:ao}{A:BS}{l:ZD α}{a:ZD al}(h:∀i (h:i<l.length),R.rd w A ((a.drop (i*R.sz)).take R.sz) l[i]){j m:Nat}(n:j+m<=l.length):∀u∈(a.drop (j*R.sz)).take (m*R.sz),u.oneCell'=true:=by
 intro u d;obtain⟨k,f,rfl⟩:=List.getElem_of_mem d;have b:k<m*R.sz:=by rw[cd]at f;omega
 have hp:=R.pos;have g:k / R.sz<m:=qi (by rw[nw];exact b);refine R.one (h (j+k / R.sz) V) _ ?_;rw[List.mem_iff_getElem?];refine⟨k%R.sz,?_⟩;have c:k%R.sz<R.sz:=nh _ hp;rw[cf,Z2 c,cC,la,nq];have e:(j+k / R.sz)*R.sz+k%R.sz=j*R.sz+k:=by
  rw[cj,kb,nw (k / R.sz),Nat.div_add_mod]
 rw[e,bc]
theorem raw_del{α:Type}{R:lT α}{E:ba}{w w':ao}{A:BS}{l:ZD α}{gg cap i j:Nat}{c d:ZD al}(p:Raw w' gg cap R.sz E d)(F:Raw w gg cap R.sz E c)(I:bL (fun x=>x=gg) w w')(s:i<=j)(G:j<=l.length)(v:l.length<=cap)
    (g:∀k (h:k<l.length),R.rd w (fun b=>A b\/b=gg) ((c.drop (k*R.sz)).take R.sz) l[k])
    (N:d.take ((i+(l.length-j))*R.sz)=c.take (i*R.sz)++(c.drop (j*R.sz)).take ((l.length-j)*R.sz)):
    cK R E w' A (.slice (ak ⟨gg,0,ar⟩) (i+(l.length-j)) cap) (l.take i++l.drop j):=by
  have e:(l.take i++l.drop j).length=i+(l.length-j):=by rw[bj,cd,cN];omega
  have y:=F.len;have B:l.length*R.sz<=cap*R.sz:=bd _ v;have K:j*R.sz<=l.length*R.sz:=bd _ G;have L:i*R.sz<=j*R.sz:=bd _ s;have u:(l.length-j)*R.sz=l.length*R.sz-j*R.sz:=nT _ _ _;have m:(c.take<|i*R.sz).length=i*R.sz:=by rw[cd];omega
  refine⟨c.take (i*R.sz)++(c.drop<|j*R.sz).take ((l.length-j)*R.sz),⟨?_,.inr ⟨gg,cap,d.toArray,?_,fN _,p.blk,?_,p.le,?_,?_⟩⟩,?_⟩
  · rw[e,bj,m,cd,cN,cj];omega
  · rw[e]
  · rw[e];omega
  · simpa using p.len
  · rw[e];exact N
  · intro k q;rw[e]at q;have n:=fun cs a(h:R.rd w (fun b=>A b\/b=gg) cs a)=>R.go (A':=fun b=>A b\/b=gg) h I (fun x C _=>.inr C) fun _ h _=>h;by_cases o:k<i
    · have f:(k+1)*R.sz<=i*R.sz:=bd _ o;rw[cj]at f;have t:=n _ _<|g k V;rw[eN (by rw[cd];omega),la,fX V,cY (by rw[cN];omega),eo,ef,cR V];exact t
    · have t:=n _ _<|g (j+(k-i)) V;have f:(k-i+1)*R.sz<=(l.length-j)*R.sz:=bd _ V;rw[cj]at f;have z:i*R.sz<=k*R.sz:=bd _ V;have r:(k-i)*R.sz=k*R.sz-i*R.sz:=nT _ _ _;rw[fm (by rw[cd];omega)];have M:(l.drop j)[k-(l.take i).length]'(by rw[cd,cN];omega)=l[j+(k-i)]'V:=by
        rw[nq];congr 1;rw[cd];omega
      rw[M,jt,cG V,cr,m,<-r,eo,ef,cR V,mw,<-cj];exact t
theorem Raw.keep{w w':ao}{gg cap b:Nat}{E:ba}{a:ZD al}{N:BS}(h:Raw w gg cap b E a)(c:bL N w w')(hn:¬N gg):Raw w' gg cap b E a:=⟨c.blk h.blk hn,h.len,h.le⟩
section
variable{P:ca}{Q:fl->Act->ao->Prop}{n:Nat}{env:Nat->al}{w w' w0:ao}{M K:BS}{hp:Nat->Chunk}
theorem TS{id:Nat}(k:Nat){l:ZD ei}(e:P.follows .mixedOrders=aT)(d:rl .any l.toArray k=aT)
  (c:∀b,Grow w b->WK P l.toArray b (fun a=>nM P l.toArray Q (l.drop k) a b) (l.take k) n env):WC P (gd id l.toArray aT) Q n env w:=
 ⟨sA k e d (wJ (c _ (Grow.drew w)).out)⟩
theorem SH.given{α:Type}{R:lT α}{E:ba}{v u:al}{l c:ZD α}(h:SH w0 M K w hp)(i:Nat)(d:hp i=.own R E v l)(ho:cK R E w' (fun b=>M b\/rest hp i b) u c)(e:bL (ob v) w w')(hn:∀b,ob u b->b<w.heap.size->ob v b):SH w0 M K w' (bY hp i (.own R E u c)):=by
  refine h.step i e (fun b a _=>by rw[d];exact a) (fun b a f=>by rw[d];exact hn b a f) ?_;refine cK.go ho (bL.refl BE w') (fun _ h=>h.elim) (fun _ h=>h.elim) fun b a _=>?_;rcases a with a|a|a
  · exact .inl<|.inl a
  · exact .inl<|.inr a
  · exact .inr a
theorem SH.giveO{α:Type}{R:lT α}{E:ba}{v:al}{l:ZD α}(h:SH w0 M K w hp)(i:Nat)(c:hp i=.own R E v l):cK R E w (fun b=>M b\/rest hp i b) v l:=
 cK.go (h.bI i c) (bL.refl BE w) (fun _ h=>h.elim) (fun _ h=>h.elim) (fun b a _=>.inl (a.imp id lU))
theorem SH.M0{α β:Type}{R:lT α}{R':lT β}{E:ba}{v u:al}{l:ZD α}{d:ZD β}(h:SH w0 M K w hp)(i j:Nat)(e:hp i=.rd R v l)(c:hp j=.own R' E u d):dx R w (fun b=>M b\/ob u b) v l:=
 (h.bz i e).sub (fun b a _=>a.elim .inl (fun a=>.inr ⟨j,by rw[c];exact a⟩)) (fun b a _=>a.elim .inl (fun a=>.inr ⟨j,by rw[c];exact a⟩))
theorem dx.X9{α β:Type}{R:lT α}{R':lT β}{E:ba}{v u:al}{l:ZD α}{d:ZD β}{i:Nat}(h:dx R w (fun b=>SH.A M hp b\/ob u b) v l):dx R w (SH.A M (bY hp i (.own R' E u d))) v l:=by
  have c:∀b,SH.A M (bY hp i<|.own R' E u d) b->SH.A M hp b\/ob u b:=by
    rintro b(a|⟨j,a⟩)
    · exact .inl<|.inl a
    · by_cases e:j=i
      · subst e;rw[bZ]at a;exact .inr a
      · rw[eD e]at a;exact .inl (.inr ⟨j,a⟩)
  exact h.sub (fun b a _=>c b a) fun b a _=>c b a
theorem del_len{i j l cap a:Nat}{b:ZD al}(k:b.length=cap*a)(d:i<=j)(g:j<=l)(f:l<=cap):
  ((b.take (i*a)++(b.drop (j*a)).take ((l-j)*a)++b.drop (i*a+(l-j)*a)).take ((i+(l-j))*a))=b.take (i*a)++(b.drop (j*a)).take ((l-j)*a):=by
 have n:i*a<=j*a:=bd _ d;have m:j*a+(l-j)*a=l*a:=by rw[<-cj];congr 1;omega
 have h:l*a<=cap*a:=bd _ f;have e:(b.take<|i*a).length=i*a:=by rw[cd];omega
 have c:((b.drop<|j*a).take ((l-j)*a)).length=(l-j)*a:=by rw[cd,cN];omega
 rw[cj,cY (by rw[bj,e,c];omega),iA (by rw[bj,e,c];omega)]
def del1{α:Type}(l:ZD α)(i j:Int):Zs (ZD α):=if 0<=i/\i<j/\j<=l.length then ak (l.take i.toNat++l.drop j.toNat)else ar
theorem o_del{α:Type}{l r:ZD α}{i j:Int}(h:del1 l i j=ak r):∃a b:Nat,i=a/\j=b/\a<b/\b<=l.length/\r=l.take a++l.drop b:=by
  unfold del1 at h;by_cases hp:0<=i/\i<j/\j<=l.length
  · rw[Z2 hp]at h;cases h;exact⟨i.toNat,j.toNat,by omega,by omega,by omega,by omega,Z⟩
  · rw[Z3 hp]at h;cases h
end
open Go.RowKit
def selK(K:Act->ao->Prop)(Q:fl->Act->ao->Prop):fl->Act->ao->Prop
 | .normal,a,w=>K a w
 |e,a,w=>Q e a w
section
variable{P:ca}{ops:Array ei}
variable{Q:fl->Act->ao->Prop}{n:Nat}{env:Nat->al}{w w0:ao}{M K:BS}{hp:Nat->Chunk}
structure WH(P:ca)(ops:Array ei)(ws:ao)(Q:fl->Act->ao->Prop)(fuel:Nat)(listed:Array Bool)(n:Nat)(env:Nat->al)(w:ao):Prop where
 out:rn P .any ops (ps Q) (Grow ws) fuel listed (act n env) w
theorem wu{id:Nat}{l:ZD ei}(b:P.follows .mixedOrders=aT)(a:SH w0 M K w hp)
  (h:∀w,SH w0 M K w hp->WH P l.toArray w Q l.length (nG l.length aq) n env w):WC P (gd id l.toArray aT) Q n env w:=
 ⟨wp_region_noPanic (wp_region_held (S:=Grow w.drew) b (h _ (a.grow (Grow.drew w))).out)⟩
theorem held_weak{S S':ao->Prop}(c:∀w,S' w->S w):∀(fuel:Nat) (listed:Array Ys) (a:Act) (w:ao),rn P .any ops Q S' fuel listed a w->rn P .any ops Q S fuel listed a w
 |0,_,_,_,h=>h
 |fuel+1,_,_,_,h=>⟨h.1,fun i d=>wpOp_mono (fun a' w' b=>⟨c _ b.1,held_weak c fuel _ a' w' b.2⟩) (h.2 i d)⟩
variable{d:Zs Nat}{op:Op}{ty:ba}{pos:String}{af:Array hY}{v:al}{g:Zs (Nat×Ys)}{i fuel:Nat}{listed:Array Ys}
theorem bC:cw ⟨d,op,ty,pos,af,ar⟩ (eI ops (act n env).tmps)=true:=rfl
theorem wh_first{ws:ao}{o:ei}(c:Grow ws w)(e:ops[i]? =ak o)(d:en ops=aT)(b:fi .any ops listed i=aT)(f:(cX .any ops listed).contains i=aT)
  (a:YieldsIf P ops (Grow ws) o v (act n env)) (h:WH P ops ws Q fuel (listed.setIfInBounds i aT) n (gH env o.dst v) w):WH P ops ws Q (fuel+1) listed n env w:=by
 refine⟨wpAnyH_take e d b f (fun _ _ _ h=>h) a c ?_⟩;rw[FJ];exact h.out
theorem wh_ok{ws:ao}(i:Nat)(e:Grow ws w)(l:ops[i]? =ak ⟨d,op,ty,pos,af,g⟩)(c:cw ⟨d,op,ty,pos,af,g⟩ (eI ops (act n env).tmps)=aT)(k:en ops=aT)(b:fi .any ops listed i=aT)(m:(cX .any ops listed).contains i=aT)
  (j:∀a,Grow ws a->(bk (ev n env) ⟨d,op,ty,pos,af,g⟩).run P a=.ok (.value v) a) (h:WH P ops ws Q fuel (listed.setIfInBounds i aT) n (gH env d v) w):WH P ops ws Q (fuel+1) listed n env w:=
 wh_first (o:=⟨d,op,ty,pos,af,g⟩) e l k b m (.inl ⟨c,fun a f=>by rw[gX];exact j a f⟩) h
theorem wh_done{ws:ao}(a:cX .any ops listed=[])(h:Q .normal (act n env) w):WH P ops ws Q fuel listed n env w:=⟨wpAnyH_done a (NoPanic.normal h) fuel⟩
def after(P:ca)(ops:Array ei)(ws:ao)(Q:fl->Act->ao->Prop)(fuel:Nat)(listed:Array Ys):fl->Act->ao->Prop:=
 selK (fun a' w'=>Grow ws w'/\rn P .any ops (ps Q) (Grow ws) fuel listed a' w') (ps Q)
theorem eH{ws:ao}(a:Grow ws w)(h:WH P ops ws Q fuel listed n env w):after P ops ws Q fuel listed .normal (act n env) w:=⟨a,h.out⟩
theorem IK{K:Act->ao->Prop}{Q1:fl->Act->ao->Prop}(l:ops[i]? =ak ⟨d,op,ty,pos,af,g⟩)(k:cw ⟨d,op,ty,pos,af,g⟩ (eI ops (act n env).tmps)=aT)
    (h:WL P ops (selK K Q1) [⟨d,op,ty,pos,af,ar⟩] n env w):wpOp P ops Q1 i K (act n env) w:=by
  unfold wpOp;simp only[l,k,if_true];have b:=h.out;unfold nM at b;rw[Z2 (show cw _ _=aT from rfl)]at b;rcases b with b|⟨ha,hl⟩
  rotate_left
  · exact .inr ⟨ha,let ⟨a,w,h⟩:=hl;⟨a,w,h⟩⟩
  refine .inl ?_;unfold ri at b⊢;have e:(bk (act n env).eval ⟨d,op,ty,pos,af,g⟩)=bk (act n env).eval ⟨d,op,ty,pos,af,ar⟩:=by unfold bk;rfl
  rw[e];generalize (bk (act n env).eval ⟨d,op,ty,pos,af,ar⟩).run P w=r at b⊢;cases r with
  |ok nx w'=>
    cases nx with
    |value v=>exact b
    |skip=>exact b
    |defer d=>exact b
    |enter f args=>
      refine Calls.mono b fun e w2 j=>?_;cases e with
      |returned v=>exact j
      |panicked c=>exact j
      |outgrown=>exact j
    |row r args=>exact b
    |_=>exact b
  |halt x w'=>
    cases x<;>exact b
theorem wh_eff{ws:ao}(i:Nat)(e:cX .any ops listed=[i])(c:ops[i]? =ak ⟨d,op,ty,pos,af,g⟩)(b:cw ⟨d,op,ty,pos,af,g⟩ (eI ops (act n env).tmps)=aT)
  (h:WL P ops (after P ops ws Q fuel (listed.setIfInBounds i aT)) [⟨d,op,ty,pos,af,ar⟩] n env w):WH P ops ws Q (fuel+1) listed n env w:=by
 refine⟨nP e zq3 fun k a=>?_⟩;obtain rfl:k=i:=by simpa using a
 exact IK c b h
theorem Ka{ws:ao}{l:Zs Nat}{e:Op}{b:ba}{a:String}{c:Array hY}{o:Zs (Nat×Ys)}(i j:Nat)(t:cX .any ops listed=[i,j])(s:ops[i]? =ak ⟨d,op,ty,pos,af,g⟩)(p:cw ⟨d,op,ty,pos,af,g⟩ (eI ops (act n env).tmps)=aT)
    (q:ops[j]? =ak ⟨l,e,b,a,c,o⟩) (f:cw ⟨l,e,b,a,c,o⟩ (eI ops (act n env).tmps)=aT)
    (h:WL P ops (after P ops ws Q fuel (listed.setIfInBounds i aT)) [⟨d,op,ty,pos,af,ar⟩] n env w) (r:WL P ops (after P ops ws Q fuel (listed.setIfInBounds j aT)) [⟨l,e,b,a,c,ar⟩] n env w):WH P ops ws Q (fuel+1) listed n env w:=by
  refine⟨nP t zq3 fun k m=>?_⟩;rcases bm.1 m with rfl|m
  · exact IK s p h
  · obtain rfl:k=j:=by simpa using m
    exact IK q f r
theorem wh_base{ws:ao}(a:Grow ws w)(h:WH P ops w Q fuel listed n env w):WH P ops ws Q fuel listed n env w:=⟨held_weak (fun _ h=>a.trans h) _ _ _ _ h.out⟩
variable{w':ao}{rest:ZD ei}{T:ba}{x y:bo}
theorem yY{α:Type}{R:lT α}{E:ba}{f c:Nat}{a:Array (Nat×bo)}{len:Nat}{vs:ZD al}{xs:ZD α}(h:SH w0 M K w hp)(i:Nat)(r:kM P T E f c)(s:R.sz=f)
  (q:(a.toList.map fun p=>(p.1,ev n env p.2))=vs.zipIdx.map fun p=>(p.2,p.1)) (e:vs.length=len) (x:Lg R w (SH.A M hp) vs xs) (j:lA (len*f) 16777216=aT)
  (k:∀w' u,SH w0 M K w' (bY hp i (.own R E u xs))->Grow w w'->(∀b,ob u b->w.heap.size<=b)->WL P ops Q rest n (gH env d u) w'):
  WL P ops Q (⟨d,.buildSlice T len a,ty,pos,af,ar⟩::rest) n env w:=by
 obtain⟨u,w',v,m,t,o⟩:=run_bs (d:=d) (ty:=ty) (pos:=pos) (af:=af) (g:=ar) r s q e x h.lt<|gE j;exact J v<|k w' u (h.wF i m t fun b l=>mc<|o b l) m fun b l=>mc<|o b l
theorem bL.fresh{a b c:ao}{N:BS}(h:Grow a b)(k:bL N b c)(hN:∀x,N x->a.heap.size<=x):Grow a c:=h.step k (fun x d e=>by have:=hN x d;omega)
end
open Go.RowKit Go.Deep
def N8{α:Type}(P:ca)(T:ba)(R:lT α):Prop:=
 ∀(a:Type) (enc:ba×al->a) (w:ao) (b:Nat->Ys) (c:Ys) (fuel:Nat) (cs:ZD al) (x:DataW a×ZD pA),DataW.trod enc P w 0 b c fuel T cs=ak x->∃d,R.rd w BE cs d
theorem opens_int{P:ca}{T:ba}(d:P.underlying T=ak (.int .i64)):N8 P T dm:=by
 intro a enc w b c fuel cs x h;obtain⟨n,rfl,_,e⟩:=DataW.trod_int d h;exact⟨n,Z⟩
theorem Kb{α:Type}{P:ca}{T E:ba}{R:lT α}(ht:P.underlying T=ak (.slice E))(M:P.cellsOf E=R.sz)(h:N8 P E R):N8 P T (yE R):=by
  intro c enc w p y fuel cs x hx;rcases open_slice ht hx with⟨rfl,rfl⟩|⟨a,len,cap,m,n,D,Pl,rfl,_,hl,hm,hmm,rfl,hel⟩
  · exact⟨[],_,Z,eO.nil⟩
  · have a0:len<=m:=by rw[hmm];split<;>omega
    have B:∀i,i<len->∃d:α,∃b o cells F r,a=⟨b,o,ar⟩/\w.heap[b]? =ak (.cells cells F r)/\R.rd w BE ((cells.toList.drop<|o+i*R.sz).take R.sz) d:=by
      intro i l;obtain⟨g,O,X⟩:=hel i V;obtain⟨d,hd⟩:=h c enc w p y n g _ X;refine⟨d,?_⟩;rw[M]at O;obtain⟨_,Q,q⟩:=qI O;have hp:=R.pos;have C:a.spot=none:=by
        obtain⟨u,g1,_⟩:=hel 0 V;rw[M]at g1;obtain⟨_,N,s⟩:=qI g1;have K:=s 0 hp;rw[py,add_add,fa]at K;have:∃v,u[0]? =ak v:=⟨u[0]'V,bc V⟩;obtain⟨v,hv⟩:=this;rw[hv]at K;have:=World.cell?_spot K;simpa[hQ]using this
      obtain⟨b,o,sp⟩:=a;simp only at C;subst C;have G:∀k,(⟨b,o,ar⟩:lj).add k=⟨b,o+k,ar⟩:=by
        intro k;unfold hQ;split<;>simp_all
      have A:∀j,j<R.sz->w.cell? ⟨b,o+i*R.sz+j,ar⟩=g[j]? :=by
        intro j z;have:=q j z;rw[add_add,G]at this;rw[<-this,kb]
      have I:=A 0 hp;have hv:g[0]? =ak (g[0]'V):=bc V;rw[hv]at I;unfold eS at I;cases t:w.heap[b]? with
      |none=>simp[t]at I
      |some ob=>
        cases ob with
        |cells cells F r=>
          refine⟨b,o,cells,F,r,Z,t,?_⟩;have e:(cells.toList.drop<|o+i*R.sz).take R.sz=g:=by
            apply dp;intro j;rw[cf,cC];by_cases z:j<R.sz
            · rw[Z2 z,<-A j z];simp[eS,t]
            · rw[Z3 z,bt V]
          rw[e];exact hd
        |_=>simp[t]at I
    obtain⟨f,S⟩:∃f:(i:Nat)->i<len->α,∀i l,∃b o cells F r,a=⟨b,o,ar⟩/\w.heap[b]? =ak (.cells cells F r)/\R.rd w BE ((cells.toList.drop<|o+i*R.sz).take R.sz) (f i l):=
      ⟨fun i l=>Classical.choose (B i l),fun i l=>Classical.choose_spec (B i l)⟩
    refine⟨List.ofFn fun i:Fin len=>f i.val i.isLt,_,Z,ak a,cap,by simp,by simpa using hl,hm,(fun h=>by cases h),?_⟩;intro i l;have L:i<len:=by simpa using l
    obtain⟨b,o,cells,F,r,rfl,t,hr⟩:=S i L;refine⟨b,o,cells,F,r,Z,fun h=>h,t,?_⟩;simpa using hr
theorem RG{a:Type}{enc:ba×al->a}{P:ca}{w:ao}{b:Nat->Ys}{c:Ys}{T:ba}{j:Array Field}{fuel:Nat}{cs:ZD al}{x:DataW a×ZD pA}(m:P.underlying T=ak (.struct j))(h:DataW.trod enc P w 0 b c fuel T cs=ak x):
    cs.length=P.cellsOf T/\∃n:Nat,∀(i:Nat) (f:Field),j[i]? =ak f->∃y:DataW a×ZD pA,DataW.trod enc P w 0 b c n f.type ((cs.drop f.offset).take (P.cellsOf f.type))=ak y:=by
  obtain⟨xs,n,_,_,l,d,k⟩:=DataW.trod_struct m h;refine⟨l,n,fun i f g=>?_⟩;have:=k i f g;have e:i<xs.length:=by
    rw[d];rcases cI i j.size with h1|h1
    · exact h1
    · rw[ly h1]at g;cases g
  rw[bc e]at this;exact⟨_,this⟩
theorem pF{α:Type}{a:Type}{enc:ba×al->a}{P:ca}{w:ao}{b:Nat->Ys}{c:Ys}{g:Array Field}{n:Nat}{cs:ZD al}{R:lT α}{i:Nat}{f:Field}
  (h:∀(i:Nat) (f:Field),g[i]? =ak f->∃y:DataW a×ZD pA,DataW.trod enc P w 0 b c n (Field.type f) ((cs.drop f.offset).take (P.cellsOf f.type))=ak y) (l:g[i]? =ak f) (j:P.cellsOf f.type=R.sz) (k:N8 P f.type R):
  ∃d,R.rd w BE ((cs.drop f.offset).take R.sz) d:=by
 obtain⟨y,e⟩:=h i f l;rw[j]at e;exact k a enc w b c n _ _ e
theorem cells_one{l:ZD al}{o:Nat}{v:al}(h:(l.drop o).take 1=[v]):l[o]? =ak v:=by
 have:=ZL (fun l=>l[0]?) h;simpa[cf,cC]using this
theorem N9{α:Type}{l:ZD α}{n:Nat}(h:l.length=n+1):∃a t,l=a::t/\t.length=n:=by
 cases l with
 |nil=>simp at h
 |cons a t=>exact⟨a,t,rfl,by simpa using h⟩
theorem nobody{w:ao}:∀b,BE b->b<w.heap.size:=fun _ h=>h.elim
open Go.RowKit Go.MapKept
def RH(z:al)(jM:ZD (Int×al))(k:Int):Value:=match jM with|[]=>z|p::r=>if k=p.1 then p.2 else RH z r k
def Oi(jM:ZD (Int×al))(k:Int)(v:al):ZD (Int×al):=match jM with|[]=>[(k,v)]|p::r=>if k=p.1 then(p.1,v)::r else p::Oi r k v
def ahas(jM:ZD (Int×al))(k:Int):Ys:=match jM with|[]=>aq|p::r=>if k=p.1 then aT else ahas r k
def RI(jM:ZD (Int×al))(k:Int)(i:Nat):Zs (Nat×al):=match jM with|[]=>ar|p::r=>if k=p.1 then ak (i,p.2)else RI r k (i+1)
theorem Hl{jM:ZD (Int×al)}{k:Int}:∀{a:ZD sv} {i:Nat},a.map (fun e=>(e.key,e.val))=jM.map (fun p=>(dq .i64 p.1,p.2))->
    tg (.int .i64) (.int .i64 k) a i=ak (RI jM k i):=by
  induction jM with
  |nil=>intro a i h;cases a with|nil=>rfl|cons e r=>simp at h
  |cons p r ih=>
    intro a i h;cases a with
    |nil=>simp at h
    |cons e s=>
      simp only[cg,List.cons.injEq,iC]at h;obtain⟨⟨c,f⟩,d⟩:=h;unfold tg RI;by_cases b:k=p.1
      · simp[th,c,f,b]
      · have:(k==p.1)=false:=by simpa using b
        simp[th,c,this,b,ih d]
theorem Za{z:al}{k:Int}:∀{jM:ZD (Int×al)} {i:Nat},RH z jM k=match RI jM k i with|some (_,v)=>v|none=>z
  |[],i=>rfl
  |p::r,i=>by
    unfold RH RI;by_cases a:k=p.1
    · simp[a]
    · simp only[a,if_false];exact Za
theorem VE{k:Int}{v:al}:∀{jM:ZD (Int×al)} {i:Nat},RI jM k i=ar->Oi jM k v=jM++[(k,v)]
  |[],i,_=>rfl
  |p::r,i,h=>by
    unfold RI at h;unfold Oi;by_cases a:k=p.1
    · simp[a]at h
    · simp only[a,if_false]at h⊢;rw[VE h];rfl
theorem VF{k:Int}{v u:al}:∀{jM:ZD (Int×al)} {i j:Nat},RI jM k i=ak (j,u)->i<=j/\∃p,jM[j-i]? =ak p/\p.1=k/\Oi jM k v=jM.set (j-i) (k,v)
  |[],i,j,h=>by cases h
  |p::r,i,j,h=>by
    unfold RI at h;unfold Oi;by_cases a:k=p.1
    · simp only[a,if_true,eJ,iC]at h;obtain⟨rfl,_⟩:=h;refine⟨bE _,p,by simp,a.symm,?_⟩;simp[a]
    · simp only[a,if_false]at h⊢;obtain⟨e,q,b,d,c⟩:=VF (v:=v) h;refine⟨by omega,q,?_,d,?_⟩
      · rw[show j-i=(j-(i+1))+1 by omega];simpa using b
      · rw[show j-i=(j-(i+1))+1 by omega,c];simp
section
variable{P:ca}{ops:Array ei}{Q:fl->Act->ao->Prop}{n:Nat}{env:Nat->al}{w w' w0:ao}{M K:BS}{hp:Nat->Chunk}{rest:ZD ei}
 {d:Zs Nat} {op:Op} {ty:ba} {pos:String} {af:Array hY} {v:al} {g:Zs (Nat×Ys)} {T:ba} {ρ:bo->al}
structure MapOf(P:ca)(T:ba)(z:al):Prop where
  desc:∃K E,P.underlying T=ak (.map K E)/\P.underlying K=ak (.int .i64)/\(P.info? E).map (·.zero)=ak (ak z)
theorem r_makeMap:(bk ρ ⟨d,.makeMap T ar,ty,pos,af,g⟩).run P w=.ok (.value (.map (ak w.heap.size))) (w.alloc (.map #[] 0)):=by
 simp[bk,Instr.makeMap,kp,-iu]
theorem ckInt{e:Ys}{K:ba}{k:Int}(a:P.underlying K=ak (.int .i64)):(Instr.checkKey e 10000 K (.int .i64 k)).run P w=.ok () w:=
 run_checkKey a (by trivial) e 9999
theorem MX.push{b:Array sv}{c:Nat}(h:MX b c)(k v:al):MX (b.push {key:=k,val:=v,born:=c}) (c+1):=by
  refine⟨fun e a=>?_,?_⟩
  · simp only[qS,cE,eR]at a;rcases a with a|rfl
    · exact Nat.lt_succ_of_lt<|h.1 e a
    · exact sB c
  · rw[qS,List.map_append,List.nodup_append];refine⟨h.2,by simp,fun x d y f=>?_⟩;simp only[cg,et,eR]at f;obtain⟨e,a,rfl⟩:=ec.1 d;have:=h.1 e a;omega
theorem MX.modify{a:Array sv}{c:Nat}(h:MX a c)(j:Nat)(k v:al):MX (a.modify j fun e=>{e with key:=k,val:=v}) c:=by
  have e:(a.modify j fun e=>{e with key:=k,val:=v}).toList.map (·.born)=a.toList.map (·.born):=by
    apply dp;intro i;simp only[ej,iP,gi];by_cases d:j=i
    · subst d;cases a[j]? <;>simp
    · simp[d]
  refine⟨fun x f=>?_,by rw[e];exact h.2⟩;have:x.born∈(a.modify j fun e=>{e with key:=k,val:=v}).toList.map (·.born):=ec.2 ⟨x,f,Z⟩;rw[e]at this;obtain⟨y,g,b⟩:=ec.1 this;rw[<-b];exact h.1 y g
theorem Zb{z:al}{x y:bo}{b:Nat}{k:Int}{jM:ZD (Int×al)}(u:MapOf P T z)(s:ρ x=.map (ak b))(l:ρ y=.int .i64 k)(f:J8 w b jM):
  (bk ρ ⟨d,.lookup T x y aq,ty,pos,af,g⟩).run P w=.ok (.value (RH z jM k)) w:=by
 obtain⟨K,E,v,j,h⟩:=u.desc;obtain⟨t,a,f,r,q⟩:=f;obtain⟨i,c,hz⟩:∃i,P.info? E=ak i/\i.zero=ak z:=by
  cases c:P.info? E with
  |none=>simp[c]at h
  |some i=>simp[c]at h;exact⟨i,Z,h⟩
 have m:=Hl (k:=k) (i:=0) r;have o:(lb b).run P w=.ok (.map t a) w:=by simp[lb,kq,f]
 rw[Za (z:=z) (k:=k) (jM:=jM) (i:=0)];simp only[bk,tn,cF,s,l];have n:=fun e=>ckInt (P:=P) (w:=w) (e:=e) (K:=K) (k:=k) j;simp only[cy,fS,bp,v,db,o,n,ju,cF,j,m];cases ha:RI jM k 0 with
 |none=>simp[kc,dG,c,hz]
 |some p=>simp
theorem TT{z:al}{x y u:bo}{b:Nat}{k:Int}{jM:ZD (Int×al)}(hT:MapOf P T z)(O:ev n env x=.map (ak b))(I:ev n env y=.int .i64 k)(N:ev n env u=v)(c:J8 w b jM)
    (h:∀w',bL (fun x=>x=b) w w'->J8 w' b (Oi jM k v)->WL P ops Q rest n (gH env d gf) w'):
    WL P ops Q (⟨d,.mapUpdate T x y u,ty,pos,af,ar⟩::rest) n env w:=by
  obtain⟨K,E,S,B,h3⟩:=hT.desc;obtain⟨f,a,c,m,g⟩:=c;have t:=Hl (k:=k) (i:=0) m;have M:(lb b).run P w=.ok (.map f a) w:=by simp[lb,kq,c]
  have s:=iR c;have L:=fun e=>ckInt (P:=P) (w:=w) (e:=e) (K:=K) (k:=k) B;have r:f.toList.length=jM.length:=by have:=ZL fb m;simpa using this
  cases ha:RI jM k 0 with
  |none=>
    refine BJ (w':=xz w b<|.map (f.push {key:=.int .i64 k,val:=v,born:=a})<|a+1) ?_<|h _ (bL.xz _ _ _) ⟨_,_,wH s,?_,g.push _ _⟩
    · rw[ha]at t;simp only[bk,lL,cF,O,I,N];simp only[cy,fS,bp,S,db,M,L,ju,cF,B,t,run_setObj_map _ c];rfl
    · rw[VE ha];simp[m]
  |some p=>
    obtain⟨j,u0⟩:=p;obtain⟨_,q,A,F,hset⟩:=VF (v:=v) ha;simp only[Nat.sub_zero]at A hset;have G:j<f.size:=by
      have o:j<jM.length:=by
        rcases cI j jM.length with o|o
        · exact o
        · rw[bt o]at A;cases A
      simpa[<-r]using o
    have hkey:f[j].key=.int .i64 k:=by
      have R:=ZL (fun l=>l[j]?) m;simp[A,G]at R;rw[R.1,F]
    refine BJ (w':=xz w b<|.map (f.modify j fun e=>{e with key:=.int .i64 k,val:=v}) a) ?_<|h _ (bL.xz _ _ _) ⟨_,_,wH s,?_,g.modify _ _ _⟩
    · rw[ha]at t;have C:(ki (.int .i64 k)<|.int .i64 k).run P w=.ok (.int .i64 k) w:=by simp[ki,sC]
      simp only[bk,lL,cF,O,I,N];simp only[cy,fS,bp,S,db,M,L,ju,cF,B,t,ox G,dd,dw,hkey,C,run_setObj_map _ c];rfl
    · rw[hset,List.map_set,<-m];apply dp;intro i;simp only[ej,iP,gi,fh,cH,cx];by_cases X:j=i
      · subst X;simp[G]
      · simp[X]
theorem wl_insert{z:al}{x y u:bo}{b:Nat}{k:Int}{jM:ZD (Int×al)}(hT:MapOf P T z)(O:ev n env x=.map (ak b))(I:ev n env y=.int .i64 k)(N:ev n env u=v)(c:J8 w b jM)
    (h:∀w',bL (fun x=>x=b) w w'->J8 w' b (Oi jM k v)->WL P ops Q rest n (gH env d gf) w'):
    WL P ops Q (⟨d,.insert T x y u,ty,pos,af,ar⟩::rest) n env w:=by
  obtain⟨K,E,S,B,h3⟩:=hT.desc;obtain⟨f,a,c,m,g⟩:=c;have t:=Hl (k:=k) (i:=0) m;have M:(lb b).run P w=.ok (.map f a) w:=by simp[lb,kq,c]
  have s:=iR c;have L:=fun e=>ckInt (P:=P) (w:=w) (e:=e) (K:=K) (k:=k) B;have r:f.toList.length=jM.length:=by have:=ZL fb m;simpa using this
  cases ha:RI jM k 0 with
  |none=>
    refine BJ (w':=xz w b<|.map (f.push {key:=.int .i64 k,val:=v,born:=a})<|a+1) ?_<|h _ (bL.xz _ _ _) ⟨_,_,wH s,?_,g.push _ _⟩
    · rw[ha]at t;simp only[bk,lL,cF,O,I,N];simp only[cy,fS,bp,S,db,M,L,ju,cF,B,t,run_setObj_map _ c];rfl
    · rw[VE ha];simp[m]
  |some p=>
    obtain⟨j,u0⟩:=p;obtain⟨_,q,A,F,hset⟩:=VF (v:=v) ha;simp only[Nat.sub_zero]at A hset;have G:j<f.size:=by
      have o:j<jM.length:=by
        rcases cI j jM.length with o|o
        · exact o
        · rw[bt o]at A;cases A
      simpa[<-r]using o
    have hkey:f[j].key=.int .i64 k:=by
      have R:=ZL (fun l=>l[j]?) m;simp[A,G]at R;rw[R.1,F]
    refine BJ (w':=xz w b<|.map (f.modify j fun e=>{e with key:=.int .i64 k,val:=v}) a) ?_<|h _ (bL.xz _ _ _) ⟨_,_,wH s,?_,g.modify _ _ _⟩
    · rw[ha]at t;have C:(ki (.int .i64 k)<|.int .i64 k).run P w=.ok (.int .i64 k) w:=by simp[ki,sC]
      simp only[bk,lL,cF,O,I,N];simp only[cy,fS,bp,S,db,M,L,ju,cF,B,t,ox G,dd,dw,hkey,C,run_setObj_map _ c];rfl
    · rw[hset,List.map_set,<-m];apply dp;intro i;simp only[ej,iP,gi,fh,cH,cx];by_cases X:j=i
      · subst X;simp[G]
      · simp[X]
theorem aidx_has{k:Int}:∀{jM:ZD (Int×al)} {i:Nat},ahas jM k=(RI jM k i).isSome
  |[],i=>rfl
  |p::r,i=>by
    unfold ahas RI;by_cases a:k=p.1
    · simp[a]
    · simp only[a,if_false];exact aidx_has
theorem r_lookup2{z:al}{x y:bo}{b:Nat}{k:Int}{jM:ZD (Int×al)}(u:MapOf P T z)(s:ρ x=.map (ak b))(l:ρ y=.int .i64 k)(f:J8 w b jM):
  (bk ρ ⟨d,.lookup T x y aT,ty,pos,af,g⟩).run P w=.ok (.value (.tuple #[RH z jM k,.bool (ahas jM k)])) w:=by
 obtain⟨K,E,v,j,h⟩:=u.desc;obtain⟨t,a,f,r,q⟩:=f;obtain⟨i,c,hz⟩:∃i,P.info? E=ak i/\i.zero=ak z:=by
  cases c:P.info? E with
  |none=>simp[c]at h
  |some i=>simp[c]at h;exact⟨i,Z,h⟩
 have m:=Hl (k:=k) (i:=0) r;have o:(lb b).run P w=.ok (.map t a) w:=by simp[lb,kq,f]
 rw[Za (z:=z) (k:=k) (jM:=jM) (i:=0),aidx_has (i:=0)];simp only[bk,tn,cF,s,l];have n:=fun e=>ckInt (P:=P) (w:=w) (e:=e) (K:=K) (k:=k) j;simp only[cy,fS,bp,v,db,o,n,ju,cF,j,m];cases ha:RI jM k 0 with
 |none=>simp[kc,dG,c,hz]
 |some p=>simp
def lk{α:Type}(k:Int):ZD (Int×α)->Zs α
 |[]=>ar
 |p::r=>if k=p.1 then ak p.2 else lk k r
theorem YS{α:Type}{f:α->al}{z:α}{k:Int}:∀(l:ZD (Int×α)),RH (f z) (l.map fun p=>(p.1,f p.2)) k=f ((lk k l).getD z)
  |[]=>rfl
  |p::r=>by
    show(if k=p.1 then f p.2 else RH _ _ k)=f ((if k=p.1 then ak p.2 else lk k r).getD z);by_cases h:k=p.1
    · simp[h]
    · simp only[h,if_false];exact YS r
theorem ahas_lk{α:Type}{f:α->al}{k:Int}:∀(l:ZD (Int×α)),ahas (l.map fun p=>(p.1,f p.2)) k=(lk k l).isSome
  |[]=>rfl
  |p::r=>by
    show(if k=p.1 then aT else ahas _ k)=(if k=p.1 then ak p.2 else lk k r).isSome;by_cases h:k=p.1
    · simp[h]
    · simp only[h,if_false];exact ahas_lk r
theorem r_lk2{α:Type}{f:α->al}{zz:α}{z:al}{x y:bo}{b:Nat}{k:Int}{jM:ZD (Int×al)}(l:ZD (Int×α))(h:SH w0 M K w hp)(i:Nat)(m:hp i=.mp b jM)(j:MapOf P T z)(e:ρ x=.map (ak b))(a:ρ y=.int .i64 k)(hz:z=f zz)(c:jM=l.map fun p=>(p.1,f p.2)):
  (bk ρ ⟨d,.lookup T x y aT,ty,pos,af,g⟩).run P w=.ok (.value (.tuple #[f ((lk k l).getD zz),.bool (lk k l).isSome])) w:=by
 have:=r_lookup2 (d:=d) (ty:=ty) (pos:=pos) (af:=af) (g:=g) j e a<|h.mpAt i m;rw[hz,c,YS,ahas_lk]at this;exact this
theorem r_lk1{α:Type}{f:α->al}{zz:α}{z:al}{x y:bo}{b:Nat}{k:Int}{jM:ZD (Int×al)}(l:ZD (Int×α))(h:SH w0 M K w hp)(i:Nat)(m:hp i=.mp b jM)(j:MapOf P T z)(e:ρ x=.map (ak b))(a:ρ y=.int .i64 k)(hz:z=f zz)(c:jM=l.map fun p=>(p.1,f p.2)):
  (bk ρ ⟨d,.lookup T x y aq,ty,pos,af,g⟩).run P w=.ok (.value (f ((lk k l).getD zz))) w:=by
 have:=Zb (d:=d) (ty:=ty) (pos:=pos) (af:=af) (g:=g) j e a<|h.mpAt i m;rw[hz,c,YS]at this;exact this
theorem Li(h:SH w0 M K w hp)(i:Nat)(k:∀w' b,SH w0 M K w' (bY hp i (.mp b []))->WL P ops Q rest n (gH env d (.map (ak b))) w'):WL P ops Q (⟨d,.makeMap T ar,ty,pos,af,ar⟩::rest) n env w:=
 J r_makeMap (k _ _ (h.learn i (Grow.alloc _ _) (fun b a=>mc a.symm) ⟨#[],0,Ql _ _,rfl,by simp[MX]⟩))
theorem SH.mpSet{b:Nat}{jM vT:ZD (Int×al)}(h:SH w0 M K w hp)(i:Nat)(c:hp i=.mp b jM)(e:bL (fun x=>x=b) w w')(d:J8 w' b vT):SH w0 M K w' (bY hp i (.mp b vT)):=
 h.step i e (fun x a _=>by rw[c];exact a) (fun x a _=>by rw[c];exact a) d
theorem wK{z:al}{x y u:bo}{b:Nat}{k:Int}{jM vT:ZD (Int×al)}(h:SH w0 M K w hp)(i:Nat)(a:hp i=.mp b jM)(l:MapOf P T z)(j:ev n env x=.map (ak b))(c:ev n env y=.int .i64 k)(e:ev n env u=v)(f:Oi jM k v=vT)
  (g:∀w',SH w0 M K w' (bY hp i (.mp b vT))->WL P ops Q rest n (gH env d gf) w'):WL P ops Q (⟨d,.insert T x y u,ty,pos,af,ar⟩::rest) n env w:=
 wl_insert l j c e (h.mpAt i a) fun w' o m=>g w' (h.mpSet i a o (f▸m))
theorem OI{z:al}{x y u:bo}{b:Nat}{k:Int}{jM vT:ZD (Int×al)}(h:SH w0 M K w hp)(i:Nat)(a:hp i=.mp b jM)(l:MapOf P T z)(j:ev n env x=.map (ak b))(c:ev n env y=.int .i64 k)(e:ev n env u=v)(f:Oi jM k v=vT)
  (g:∀w',SH w0 M K w' (bY hp i (.mp b vT))->WL P ops Q rest n (gH env d gf) w'):WL P ops Q (⟨d,.mapUpdate T x y u,ty,pos,af,ar⟩::rest) n env w:=
 TT l j c e (h.mpAt i a) fun w' o m=>g w' (h.mpSet i a o (f▸m))
end
theorem SH.argPt{w:ao}{M K:BS}{hp:Nat->Chunk}{w0:ao}{b:Nat}{cs:ZD al}(h:SH w0 M K w hp)(i:Nat)(ho:∃E,w.heap[b]? =ak (.cells cs.toArray E (0,0)))(hn:∀b,¬iT hp b):SH w0 M K w (bY hp i (.pt b 0 cs)):=by
 obtain⟨E,ho⟩:=ho;exact h.know i (fun _ h=>h) ⟨hn b,_,_,_,ho,by simp⟩
open Go.RowKit
def hasB(s:Str)(c:UInt8):Ys:=ab (0<=Go.Lib.indexByte s c)
section
variable{P:ca}{ops:Array ei}{Q:fl->Act->ao->Prop}{n:Nat}{env:Nat->al}{w:ao}{rest:ZD ei}
 {d:Zs Nat} {ty:ba} {pos:String} {af:Array hY} {v:al} {x:bo}
theorem Qm{f:fY}(c:ZD al){xs:Array bo}{t:Array ba}{args:ZD al}{j dj:Nat}{b a:Ys}(i:Ys)(m:(ops[j]?).bind (·.dst)=ak dj)(hv:ev n env (.tmp dj)=gv i (.bool b))(q:TP P f)(o:(i&&(b==a))=aT->ev n env x=.func (.func f) #[] c.toArray)
    (p:(i&&(b==a))=aT->xs.toList.map (ev n env)++c=args) (r:bw P f args.toArray w (fun e w'=>Grow w w'/\e=.returned v))
    (k:∀w',Grow w w'->WL P ops Q rest n (gH env d (gv (i&&(b==a)) v)) w'):
    WL P ops Q (⟨d,.call {callee:=.value x,args:=xs,argTypes:=t},ty,pos,af,ak (j,a)⟩::rest) n env w:=by
  by_cases g:(i&&(b==a))=aT
  · have u:=gl g;have z:=gr g;rw[fC u]at hv;have s:b=a:=by simpa using z
    subst s;refine X7 m hv<|bW q (o g) (by simpa using p g) r ?_;rintro e w'⟨y,rfl⟩;refine⟨_,Z,?_⟩;have:=k w' y;rw[fC g]at this;exact this
  · have l:(i&&(b==a))=false:=by simpa using g
    have h:=k w<|bL.refl _ _;rw[l]at h;cases i with
    |true=>exact jW m hv (by simpa using l) h
    |false=>exact Ap m hv h
theorem Zc{f:fY}(a:ZD al){xs:Array bo}{p:Array ba}{args:ZD al}{j dj:Nat}{b c:Ys}(m:(ops[j]?).bind (·.dst)=ak dj)(hv:ev n env (.tmp dj)=.bool b)(i:TP P f)(o:(b==c)=aT->ev n env x=.func (.func f) #[] a.toArray)
    (g:(b==c)=aT->xs.toList.map (ev n env)++a=args) (l:bw P f args.toArray w (fun e w'=>Grow w w'/\e=.returned v))
    (k:∀w',Grow w w'->WL P ops Q rest n (gH env d (gv (b==c) v)) w'):
    WL P ops Q (⟨d,.call {callee:=.value x,args:=xs,argTypes:=p},ty,pos,af,ak (j,c)⟩::rest) n env w:=
  Qm a aT m hv i (fun h=>o (by simpa using h)) (fun h=>g (by simpa using h)) l (by simpa using k)
end
open Go.RowKit
section
variable{P:ca}{ops:Array ei}{Q:fl->Act->ao->Prop}{n:Nat}{env:Nat->al}{w w' w0:ao}{M K:BS}{hp:Nat->Chunk}{rest:ZD ei}
 {d:Zs Nat} {op:Op} {ty:ba} {pos:String} {af:Array hY} {v:al} {g:Zs (Nat×Ys)} {T:ba} {ρ:bo->al}
theorem r_cap{x:bo}{T E:ba}{e:Nat}{a:Zs lj}{l c:Nat}(f:SliceOf P T E e)(b:ρ x=.slice a l c):
  (bk ρ ⟨d,.call {callee:=.builtin .cap,args:= #[x],argTypes:= #[T]},ty,pos,af,g⟩).run P w=.ok (.value (.int .i64 c)) w:=by
 simp[bk,hU,ka,jz,Builtin.cap_,b,cF,f.desc,goInt]
theorem Oj(w:ao)(t r ty e:ba)(i:TypeInfo)(z:al)(x:P.underlying t=ak (.slice e))(q:P.underlying r=ak (.int .i64))(B:P.info? e=ak i)(hz:i.zero=ak z)(E:0<i.size)
  (b:lj) (a c:Nat) (d:ZD al) (o:d.length=a*i.size) (holds:∀j v,d[j]? =ak v->w.cell? (b.add j)=ak v)
  (n:Nat) (F:0<n) (C:c<a+n) (u:((a+n:Nat):Int)<=9223372036854775807) (s:jn (a+n) c*i.bytes<=281474976710656) (y:n*i.bytes<=281474976710656):
  (hB #[t,r] ty #[.slice (ak b) a c,.int .i64 n]).run P w=
   .ok (.slice (ak ⟨w.heap.size,0,ar⟩) (a+n) (hP w (a+n) c e))
    (w.drew.alloc (.cells (d.toArray++cD z.cells n++cD z.cells (hP w (a+n) c e-(a+n))) e)):=by
 have hn:¬(a+n<=c):=by omega
 have g:n≠0:=by omega
 have l:¬(9223372036854775807<((a:Int)+(n:Int))):=by omega
 have h:¬(281474976710656<jn (a+n) c*i.bytes):=by omega
 have A:IntKind.i64.wrap (n:Int)=n:=by rw[IntKind.wrap_i64];omega
 have k:¬(281474976710656<(n:Int)*(i.bytes:Int)):=by
  rw[<-ti];omega
 have f:¬((n:Int)<0):=by omega
 have p:¬(n*i.size=0):=Nat.mul_ne_zero g V;have m:=run_firstCells_some (P:=P) w.drew i.size a b a c d o (by simpa using holds);simp[hB,pB x,pB q,fE,dG,kc,B,hz,asInt,iz,A,hn,g,f,p,l,h,k,Question.forced,m,rk,hP]
theorem wl_growRaw{x y:bo}{E r:ba}{e c gg cap a k:Nat}{b:ZD al}(M:kM P T E e c)(ht:P.underlying r=ak (.int .i64))(N:Raw w gg cap e E b)(O:ev n env x=.slice (ak ⟨gg,0,ar⟩) a cap)(X:ev n env y=.int .i64 (k:Nat))(hs:0<e)(A:a<=cap)(R:0<k)(hg:cap<a+k)
    (hb:(a+k)*c<=140737488355328) (I:a+k<=lo)
    (h:∀w' g2 f g,Grow w w'->w.heap.size<=g2->a+k<=f->Raw w' g2 f e E g->g.take (a*e)=b.take (a*e)->WL P ops Q rest n (gH env d (.slice (ak ⟨g2,0,ar⟩) (a+k) f)) w'):
    WL P ops Q (⟨d,.call {callee:=.builtin .append,args:= #[x,y],argTypes:= #[T,r]},ty,pos,af,ar⟩::rest) n env w:=by
  obtain⟨i,z,S,hz,B,l,G⟩:=M.info;have K:a*e<=cap*e:=bd _ A;have L:=N.len;have o:(b.take<|a*e).length=a*e:=by rw[cd];omega
  have holds:∀j u,(b.take<|a*e)[j]? =ak u->w.cell? ((⟨gg,0,ar⟩:lj).add j)=ak u:=by
    intro j u s;rw[addr_add,fa];rw[cf]at s;split at s
    · simp[eS,N.blk,s]
    · cases s
  have t:((a+k:Nat):Int)<=9223372036854775807:=by simp only[lo]at I;omega
  have F:jn (a+k) cap<=2*(a+k):=by
    exact nextslicecap_le V
  have p:jn (a+k) cap*i.bytes<=281474976710656:=by
    have:=bd i.bytes F;rw[Nat.mul_assoc,l]at this;rw[l];omega
  have v:k*i.bytes<=281474976710656:=by
    rw[l];have:k*c<=(a+k)*c:=bd _ V;omega
  have m:=Oj (P:=P) w T r ty E i z M.desc ht S hz V ⟨gg,0,ar⟩ a cap (b.take (a*e)) (by rw[B];exact o) holds k R hg t p v;have q:(bk (ev n env) ⟨d,.call {callee:=.builtin .append,args:= #[x,y],argTypes:= #[T,r]},ty,pos,af,ar⟩).run P w=.ok (.value<|.slice (ak ⟨w.heap.size,0,ar⟩) (a+k)<|hP w (a+k) cap E) (w.drew.alloc<|.cells ((b.take<|a*e).toArray++cD z.cells k++cD z.cells (hP w (a+k) cap E-(a+k))) E):=by
    simp only[bk,hU,ka,jz,cy,db,bp,fV,cg,et,O,X,m]
  have hge:=grownCap_ge w (a+k) cap E;have C:hP w (a+k) cap E<=maxLen:=tp w (a+k) cap E I;refine J q<|h _ _ _ ((b.take<|a*e)++(cD z.cells k).toList++(cD z.cells<|hP w (a+k) cap E-(a+k)).toList) ?_ (bE _) hge ⟨?_,?_,C⟩ ?_
  · exact(Grow.drew w).trans<|Grow.alloc _ _
  · have:=heap_alloc_new w.drew<|.cells ((b.take<|a*e).toArray++cD z.cells k++cD z.cells (hP w (a+k) cap E-(a+k))) E;rw[show((b.take (a*e))++(cD z.cells k).toList++(cD z.cells (hP w (a+k) cap E-(a+k))).toList).toArray=((b.take (a*e)).toArray++cD z.cells k++cD z.cells (hP w (a+k) cap E-(a+k))) by apply lE;simp];exact this
  · rw[bj,bj,o,cx,cx,lp,lp,G,<-cj,<-cj];congr 1;omega
  · rw[ck,cY V,iA V]
theorem run_copyN(w:ao)(dT n ty e:ba)(i:TypeInfo)(g o b f:Nat)(a:lj)(d k:Nat)(c:Array al)(t:ba)(cs:ZD al)
  (s:P.underlying dT=ak (.slice e)) (u:P.info? e=ak i)
  (p:w.heap[g]? =ak (.cells c t (0,0))) (hn:cs.length=jx d b*i.size)
  (h:∀j v,cs[j]? =ak v->w.cell? (a.add j)=ak v) (l:o+cs.length<=c.size) (r:∀v∈cs,v.oneCell'=aT):
  (sd #[dT,n] ty #[.slice (ak ⟨g,o,ar⟩) b f,.slice (ak a) d k]).run P w=
   .ok (goInt (jx d b)) (w.setRow g (c.toList.take o++cs++c.toList.drop (o+cs.length)).toArray):=by
 have q:=tl (P:=P) w a cs h;have m:=oe P g o t cs 0 c w p (by simpa using l) r;simp[sd,pB s,oi,mz,fE,dG,u,<-hn,q,m]
theorem M3{x y:bo}{E s:ba}{b k gg cap o dl dc m c:Nat}{a news:ZD al}{ad:lj}(A:kM P T E b k)(q:Raw w gg cap b E a)(C:ev n env x=.slice (ak ⟨gg,o*b,ar⟩) dl dc)(I:ev n env y=.slice (ak ad) m c)
  (v:news.length=jx m dl*b) (g:∀j u,news[j]? =ak u->w.cell? (ad.add j)=ak u) (F:∀u∈news,u.oneCell'=aT) (l:o+jx m dl<=cap)
  (h:∀w',bL (fun x=>x=gg) w w'->Raw w' gg cap b E (a.take (o*b)++news++a.drop (o*b+news.length))->WL P ops Q rest n (gH env d (.int .i64 (jx m dl:Nat))) w'):
  WL P ops Q (⟨d,.call {callee:=.builtin .copy,args:= #[x,y],argTypes:= #[T,s]},ty,pos,af,ar⟩::rest) n env w:=by
 obtain⟨i,z,G,hz,r,B,K⟩:=A.info;have f:=q.len;have t:o*b+news.length<=cap*b:=by rw[v,<-cj];exact bd _ l
 have e:=run_copyN (P:=P) w T s ty E i gg (o*b) dl dc ad m c a.toArray E news A.desc G q.blk (by rw[r];exact v) g (by simpa[f]using t) F;rw[J9 q.blk]at e;have p:(bk (ev n env) ⟨d,.call {callee:=.builtin .copy,args:= #[x,y],argTypes:= #[T,s]},ty,pos,af,ar⟩).run P w=.ok (.value<|.int .i64 (jx m dl:Nat)) (xz w gg<|.cells (a.take (o*b)++news++a.drop (o*b+news.length)).toArray E (0,0)):=by
  simp only[bk,hU,ka,jz,cy,db,bp,fV,cg,et,C,I,e];rfl
 refine J p<|h _ (bL.xz _ _ _) ⟨wH<|iR q.blk,?_,q.le⟩;rw[bj,bj,cd,cN,f];omega
structure OverFn(P:ca)(f:fY)(T B:ba):Prop where
 out:∀(args:Array al) (w:ao),(callFunc f args).run P w=((Extern.SlicesOverlaps.overlaps #[T,T] #[B] args).run P w).andThen fun v w'=>.ok (.value v) w'
theorem wl_overlaps{x:bo}{xs:Array bo}{y:Array ba}{f:fY}{E B:ba}{j e g1 g2 c2 o1 o2 m1 m2 k1 k2:Nat}{b a:ZD al}{s:ba}(t:OverFn P f T B)(r:kM P T E j e)(k:w.heap[g1]? =ak (.cells b.toArray s (0,0)))(p:Raw w g2 c2 j E a)(l:g1≠g2)(q:0<c2*j)
  (v:ev n env x=.func (.func f) #[] #[]) (m:xs.toList.map (ev n env)=[.slice (ak ⟨g1,o1,ar⟩) m1 k1,.slice (ak ⟨g2,o2,ar⟩) m2 k2])
  (h:WL P ops Q rest n (gH env d (.bool aq)) w):
  WL P ops Q (⟨d,.call {callee:=.value x,args:=xs,argTypes:=y},ty,pos,af,ar⟩::rest) n env w:=by
 obtain⟨i,z,A,hz,o,u,C⟩:=r.info;have ho:=Lib.run_overlaps_apart (P:=P) w T B E r.desc j (fun w=>by simp[fE,dG,A,o]) ⟨g1,o1,ar⟩ ⟨g2,o2,ar⟩ m1 k1 m2 k2 l s E b.length a.length (by simp[tr,k]) (by simp[tr,p.blk]) (by rw[p.len];omega) (by simp[oE,k]) (by simp[oE,k]);have g:xs.map (ev n env)= #[.slice (ak ⟨g1,o1,ar⟩) m1 k1,.slice (ak ⟨g2,o2,ar⟩) m2 k2]:=by
  apply lE;simpa using m
 have c:=t.out #[.slice (ak ⟨g1,o1,ar⟩) m1 k1,.slice (ak ⟨g2,o2,ar⟩) m2 k2] w;rw[ho]at c;refine J ?_ h;simp only[bk,hU,v,Deferred.ofValue,ka];simp[g,c]
end
open Go.RowKit
section
variable{β:Type}
theorem ins_l1{C X:ZD β}{p s:Nat}(a:X.length=s)(hp:p<=C.length):(C.take p++X++C.drop (p+s)).take (p+s)=C.take p++X:=by
 have h:(C.take p++X).length=p+s:=by simp[a];omega
 rw[<-h,kj]
theorem ins_l2{B a R:ZD β}{p q:Nat}(c:p<=B.length)(b:a.length=q):(B.take p++a++R).take (p+q)=B.take p++a:=by
 have h:(B.take p++a).length=p+q:=by simp[b];omega
 rw[<-h,kj]
theorem ins_l3{C X a R:ZD β}{p s q:Nat}(f:X.length=s)(hp:p+s<=C.length)(c:a.length=q):
  ((C.take (p+s)++a++R).take p++X++(C.take (p+s)++a++R).drop (p+s)).take (p+s+q)=C.take p++X++a:=by
 have e:(C.take<|p+s).length=p+s:=by simp;omega
 have b:(C.take (p+s)++a++R).take p=C.take p:=by
  rw[ck,cY V,ef,cR V]
 have g:(C.take (p+s)++a++R).drop (p+s)=a++R:=by
  rw[ck];exact sE e
 rw[b,g,<-ck];have d:(C.take p++X++a).length=p+s+q:=by simp[f,c];omega
 rw[<-d,kj]
end
theorem raw_ins{α:Type}{R:lT α}{E:ba}{w w':ao}{A N:BS}{l:ZD α}{x:α}{gg g2 d i:Nat}{c m f:ZD al}(K:Raw w' g2 d R.sz E m)(O:bL (fun y=>y=gg) w w')(s:g2<w.heap.size->g2=gg)(hi:i<=l.length)(hc:l.length+1<=d)(P:l.length*R.sz<=c.length)
    (v:∀k (h:k<l.length),R.rd w (fun b=>A b\/b=gg) ((c.drop (k*R.sz)).take R.sz) l[k]) (M:R.rd w N f x) (hN:∀b,(A b\/b=gg)->b<w.heap.size->N b) (S:gg<w.heap.size)
    (T:m.take (i*R.sz+R.sz+(l.length-i)*R.sz)=c.take (i*R.sz)++f++(c.drop (i*R.sz)).take ((l.length-i)*R.sz)):
    cK R E w' A (.slice (ak ⟨g2,0,ar⟩) (l.length+1) d) (l.take i++[x]++l.drop i):=by
  have e:(l.take i++[x]++l.drop i).length=l.length+1:=by simp;omega
  have q:=R.len M;have Q:i*R.sz<=l.length*R.sz:=bd _ hi;have n:(l.length-i)*R.sz=l.length*R.sz-i*R.sz:=nT _ _ _;have o:(c.take<|i*R.sz).length=i*R.sz:=by rw[cd];omega
  have L:(l.length+1)*R.sz=i*R.sz+R.sz+(l.length-i)*R.sz:=by rw[cj,n];omega
  have t:∀cs a,R.rd w (fun b=>A b\/b=gg) cs a->R.rd w' (fun b=>A b\/ob (.slice (ak ⟨g2,0,ar⟩) (l.length+1) d) b) cs a:=fun cs a h=>
    R.go h O (fun b g _=>.inr g) (fun b g r=>g.elim .inl (fun g=>.inr (by have:b=g2:=g;subst this;exact s r)))
  have F:R.rd w' (fun b=>A b\/ob (.slice (ak ⟨g2,0,ar⟩) (l.length+1) d) b) f x:=
    R.go M O (fun b g r=>hN b (.inr g) r) (fun b g r=>hN b (g.elim .inl (fun g=>.inr (by have:b=g2:=g;subst this;exact s r))) r)
  refine⟨c.take (i*R.sz)++f++(c.drop<|i*R.sz).take ((l.length-i)*R.sz),⟨?_,.inr ⟨g2,d,m.toArray,?_,fN _,K.blk,?_,K.le,?_,?_⟩⟩,?_⟩
  · rw[e,L,bj,bj,o,q,cd,cN,n];omega
  · rw[e]
  · rw[e];omega
  · simpa using K.len
  · rw[e,L];exact T
  · intro k z;rw[e]at z;by_cases I:k<i
    · have p:(k+1)*R.sz<=i*R.sz:=bd _ I;rw[cj]at p;have B:=t _ _<|v k V;have u:(l.take i++[x]++l.drop i)[k]'(by rw[e];omega)=l[k]'V:=by
        rw[eN (by simp;omega),eN (by simp;omega),la]
      rw[u,ck,fX V,cY (by rw[cN];omega),eo,ef,cR V];exact B
    · by_cases G:k=i
      · subst G;have u:(l.take k++[x]++l.drop k)[k]'(by rw[e];omega)=x:=by
          rw[eN (by simp;omega),fm (by simp;omega)];simp
        rw[u,ck];have C:(c.take (k*R.sz)++(f++(c.drop<|k*R.sz).take ((l.length-k)*R.sz))).drop (k*R.sz)=f++(c.drop<|k*R.sz).take ((l.length-k)*R.sz):=by
          exact sE o
        rw[C,<-q,kj];exact F
      · obtain⟨j,rfl⟩:∃j,k=i+1+j:=⟨k-i-1,by omega⟩;have B:=t _ _<|v (i+j) V;have u:(l.take i++[x]++l.drop i)[i+1+j]'(by rw[e];omega)=l[i+j]'V:=by
          rw[fm (by simp;omega),nq];congr 1;simp;omega
        have X:(c.take (i*R.sz)++f).length=i*R.sz+R.sz:=by rw[bj,o,q]
        have C:(c.take (i*R.sz)++f++(c.drop<|i*R.sz).take ((l.length-i)*R.sz)).drop ((i+1+j)*R.sz)=((c.drop<|i*R.sz).take ((l.length-i)*R.sz)).drop (j*R.sz):=by
          rw[show(i+1+j)*R.sz=(c.take (i*R.sz)++f).length+j*R.sz by rw[X,cj,cj,nQ]];rw[jt];have:(c.take (i*R.sz)++f).drop ((c.take (i*R.sz)++f).length+j*R.sz)=[]:=cG V;rw[this,cr];congr 1;omega
        have p:(j+1)*R.sz<=(l.length-i)*R.sz:=bd _ V;rw[cj]at p;rw[u,C,eo,ef,cR V,mw,<-cj];exact B
def ins1{α:Type}(l:ZD α)(i:Int)(m:ZD α):Zs (ZD α):=if 0<=i/\i<=l.length then ak (l.take i.toNat++m++l.drop i.toNat)else ar
theorem o_ins{α:Type}{l r m:ZD α}{i:Int}(h:ins1 l i m=ak r):∃a:Nat,i=a/\a<=l.length/\r=l.take a++m++l.drop a:=by
  unfold ins1 at h;by_cases hp:0<=i/\i<=l.length
  · rw[Z2 hp]at h;cases h;exact⟨i.toNat,by omega,by omega,Z⟩
  · rw[Z3 hp]at h;cases h
theorem Qn{w:ao}{gg cap c:Nat}{E:ba}{b:ZD al}(d:Raw w gg cap c E b)(o k:Nat):∀j u,((b.drop o).take k)[j]? =ak u->w.cell? ((⟨gg,o,ar⟩:lj).add j)=ak u:=by
  intro j u a;rw[addr_add];rw[cf]at a;split at a
  · rw[cC]at a;simp[eS,d.blk,a]
  · cases a
theorem cK.srcO{α:Type}{R:lT α}{E:ba}{w:ao}{A:BS}{v:al}{l:ZD α}(h:cK R E w A v l):eO R w BE (fun b=>A b\/ob v b) v l:=by
  obtain⟨xs,d,c⟩:=h;rcases d.2 with⟨rfl,hn⟩|⟨g,cap,cur,rfl,e1,e2,e3,e4,e5,e6⟩
  · have:l=[]:=cl hn;subst this;exact eO.nil
  · refine⟨ak ⟨g,0,ar⟩,cap,Z,e3,e4,(fun h=>by cases h),fun i a=>⟨g,0,cur,E,(0,0),Z,fun h=>h,e2,?_⟩⟩;have:=c i a;rw[<-e6,eo,ef,cR ?_]at this
    · rw[fa];exact this
    · have:(i+1)*R.sz<=l.length*R.sz:=bd _ a;rw[cj]at this;omega
section
variable{P:ca}{ops:Array ei}{Q:fl->Act->ao->Prop}{n:Nat}{env:Nat->al}{w:ao}{rest:ZD ei}
 {d:Zs Nat} {ty:ba} {pos:String} {af:Array hY} {v:al} {T:ba} {x y:bo}
theorem wl_appO{α:Type}{R:lT α}{E:ba}{e a:Nat}{A:BS}{u:al}{l m:ZD α}(o:kM P T E e a)(p:R.sz=e)(hv:cK R E w A v l)(s:eO R w BE A u m)(f:ev n env x=v)(h:ev n env y=u)
  (j:∀b,ob v b->A b) (q:(l.length+m.length)*a<=140737488355328) (B:l.length+m.length<=9223372036854775807)
  (k:∀w' c,cK R E w' A c (l++m)->bL (ob v) w w'->(∀b,ob c b->b<w.heap.size->ob v b)->WL P ops Q rest n (gH env d c) w'):
  WL P ops Q (⟨d,.call {callee:=.builtin .append,args:= #[x,y],argTypes:= #[T,T]},ty,pos,af,ar⟩::rest) n env w:=by
 obtain⟨c,w',z,i,t,r⟩:=run_app (d:=d) (ty:=ty) (pos:=pos) (af:=af) (g:=ar) o p f hv h s j q B;exact J z<|k w' c i t r
end
theorem ins_av{α β:Type}{R:lT α}{R':lT β}{E f:ba}{w0 w:ao}{M K:BS}{hp:Nat->Chunk}{i j:Nat}{v u:al}{l:ZD α}{m:ZD β}(h:SH w0 M K w hp)(c:i≠j)(g:hp i=.own R E v l)(d:hp j=.own R' f u m):∀b,((M b\/rest hp i b)\/ob v b)->b<w.heap.size->(M b\/rest hp j b)\/ob u b:=by
  rintro b((a|⟨k,n,a⟩)|a)_
  · exact .inl<|.inl a
  · by_cases e:k=j
    · subst e;rw[d]at a;exact .inr a
    · exact .inl<|.inr ⟨k,e,a⟩
  · exact .inl (.inr ⟨i,c,by rw[g];exact a⟩)
open Go.RowKit
section
variable{P:ca}{ops:Array ei}
variable{Q:fl->Act->ao->Prop}{n:Nat}{env:Nat->al}{w w0:ao}{M K:BS}{hp:Nat->Chunk}
structure YT(P:ca)(ops:Array ei)(L:BS)(ws:ao)(Q:fl->Act->ao->Prop)(fuel:Nat)(listed:Array Bool)(n:Nat)(env:Nat->al)(w:ao):Prop where
 out:rn P .any ops (ps Q) (bL L ws) fuel listed (act n env) w
theorem jm{L:BS}{id:Nat}{l:ZD ei}(b:P.follows .mixedOrders=aT)(a:SH w0 M K w hp)
  (h:∀w,SH w0 M K w hp->YT P l.toArray L w Q l.length (nG l.length aq) n env w):WC P (gd id l.toArray aT) Q n env w:=
 ⟨wp_region_noPanic (wp_region_held (S:=bL L w.drew) b (h _ (a.grow (Grow.drew w))).out)⟩
variable{d:Zs Nat}{op:Op}{ty:ba}{pos:String}{af:Array hY}{v:al}{g:Zs (Nat×Ys)}{i fuel:Nat}{listed:Array Ys}
theorem whk_first{L:BS}{ws:ao}{o:ei}(c:bL L ws w)(e:ops[i]? =ak o)(d:en ops=aT)(b:fi .any ops listed i=aT)(f:(cX .any ops listed).contains i=aT)
  (a:YieldsIf P ops (bL L ws) o v (act n env)) (h:YT P ops L ws Q fuel (listed.setIfInBounds i aT) n (gH env o.dst v) w):YT P ops L ws Q (fuel+1) listed n env w:=by
 refine⟨wpAnyH_take e d b f (fun _ _ _ h=>h) a c ?_⟩;rw[FJ];exact h.out
theorem whk_ok{L:BS}{ws:ao}(i:Nat)(e:bL L ws w)(l:ops[i]? =ak ⟨d,op,ty,pos,af,g⟩)(c:cw ⟨d,op,ty,pos,af,g⟩ (eI ops (act n env).tmps)=aT)(k:en ops=aT)(b:fi .any ops listed i=aT)(m:(cX .any ops listed).contains i=aT)
  (j:∀a,bL L ws a->(bk (ev n env) ⟨d,op,ty,pos,af,g⟩).run P a=.ok (.value v) a) (h:YT P ops L ws Q fuel (listed.setIfInBounds i aT) n (gH env d v) w):YT P ops L ws Q (fuel+1) listed n env w:=
 whk_first (o:=⟨d,op,ty,pos,af,g⟩) e l k b m (.inl ⟨c,fun a f=>by rw[gX];exact j a f⟩) h
theorem whk_done{L:BS}{ws:ao}(a:cX .any ops listed=[])(h:Q .normal (act n env) w):YT P ops L ws Q fuel listed n env w:=⟨wpAnyH_done a (NoPanic.normal h) fuel⟩
def VG(P:ca)(ops:Array ei)(L:BS)(ws:ao)(Q:fl->Act->ao->Prop)(fuel:Nat)(listed:Array Ys):fl->Act->ao->Prop:=
 selK (fun a' w'=>bL L ws w'/\rn P .any ops (ps Q) (bL L ws) fuel listed a' w') (ps Q)
theorem au{L:BS}{ws:ao}(a:bL L ws w)(h:YT P ops L ws Q fuel listed n env w):VG P ops L ws Q fuel listed .normal (act n env) w:=⟨a,h.out⟩
theorem whk_eff{L:BS}{ws:ao}(i:Nat)(e:cX .any ops listed=[i])(c:ops[i]? =ak ⟨d,op,ty,pos,af,g⟩)(a:cw ⟨d,op,ty,pos,af,g⟩ (eI ops (act n env).tmps)=aT)
  (h:WL P ops (VG P ops L ws Q fuel (listed.setIfInBounds i aT)) [⟨d,op,ty,pos,af,ar⟩] n env w):YT P ops L ws Q (fuel+1) listed n env w:=by
 refine⟨nP e zq3 fun k b=>?_⟩;obtain rfl:k=i:=by simpa using b
 exact IK c a h
theorem jA{L:BS}{ws:ao}{l:Zs Nat}{c:Op}{b:ba}{a:String}{e:Array hY}{o:Zs (Nat×Ys)}(i j:Nat)(t:cX .any ops listed=[i,j])(s:ops[i]? =ak ⟨d,op,ty,pos,af,g⟩)(q:cw ⟨d,op,ty,pos,af,g⟩ (eI ops (act n env).tmps)=aT)
    (r:ops[j]? =ak ⟨l,c,b,a,e,o⟩) (f:cw ⟨l,c,b,a,e,o⟩ (eI ops (act n env).tmps)=aT)
    (h:WL P ops (VG P ops L ws Q fuel (listed.setIfInBounds i aT)) [⟨d,op,ty,pos,af,ar⟩] n env w) (p:WL P ops (VG P ops L ws Q fuel (listed.setIfInBounds j aT)) [⟨l,c,b,a,e,ar⟩] n env w):YT P ops L ws Q (fuel+1) listed n env w:=by
  refine⟨nP t zq3 fun k m=>?_⟩;rcases bm.1 m with rfl|m
  · exact IK s q h
  · obtain rfl:k=j:=by simpa using m
    exact IK r f p
end
theorem bL.GH{a b c:ao}{L N:BS}(h:bL L a b)(k:bL N b c)(hN:∀x,N x->a.heap.size<=x):bL L a c:=h.step k (fun x d e=>by have:=hN x d;omega)
theorem bL.same{a b c:ao}{L:BS}(h:bL L a b)(k:bL L b c):bL L a c:=h.step k (fun _ d _=>d)
section
variable{P:ca}{ops:Array ei}{Q:fl->Act->ao->Prop}{n:Nat}{env:Nat->al}{w w' w0:ao}{M K:BS}{hp:Nat->Chunk}{rest:ZD ei}
 {d:Zs Nat} {op:Op} {ty:ba} {pos:String} {af:Array hY} {v:al} {g:Zs (Nat×Ys)} {T:ba} {ρ:bo->al} {x y:bo}
theorem w_stOG{α:Type}{R:lT α}{E:ba}{C:Nat}{l:ZD α}{k:Int}{a a':α}{b off:Nat}{z u:al}(h:SH w0 M K w hp)(i:Nat)(s:hp i=.own R E u l)(t:ob u b)(hs:R.sz=C)(r:l[k.toNat]? =ak a)(hT:One P T z)(c:ev n env x=.pointer (ak ⟨b,k.toNat*C+off,ar⟩))
    (hy:ev n env y=v) (h1:v.oneCell'=aT) (p:nv off C=aT) (hset:∀cs,R.rd w (SH.A M hp) cs a->R.rd w (SH.A M hp) (cs.set off v) a')
    (kk:∀w',SH w0 M K w' (bY hp i (.own R E u (l.set k.toNat a')))->bL (ob u) w w'->WL P ops Q rest n (gH env d gf) w'):
    WL P ops Q (⟨d,.store T x y,ty,pos,af,ar⟩::rest) n env w:=by
  subst hs;rw[ma]at p;have f:k.toNat<l.length:=by
    rcases cI k.toNat l.length with h|h
    · exact h
    · rw[bt h]at r;cases r
  have G:l[k.toNat]=a:=by rw[bc f]at r;exact cQ r
  generalize k.toNat=k at*;have e:∀b,ob u b->SH.A M hp b:=fun b t=>.inr ⟨i,by rw[s];exact t⟩;obtain⟨xs,O,q3⟩:=h.bI i s;rcases O.2 with⟨rfl,hn⟩|⟨g',cap,cur,rfl,e1,e2,e3,e4,e5,e6⟩
  · omega
  have B:b=g':=t;subst B;have N:(k+1)*R.sz<=l.length*R.sz:=bd _ f;have X:l.length*R.sz<=cap*R.sz:=bd _ e3;rw[cj]at N;have F:k*R.sz+off<cur.size:=by omega
  have g:=bL.xz w b<|.cells (cur.setIfInBounds (k*R.sz+off) v) E (0,0);refine BJ (TM hT c e2 F hy h1) (kk _ (h.step i g (fun x c _=>by rw[s];exact c) (fun x c _=>by rw[s];exact c) ⟨xs.set (k*R.sz+off) v,⟨?_,.inr ⟨b,cap,cur.setIfInBounds (k*R.sz+off) v,?_,e1,?_,?_,e4,?_,?_⟩⟩,?_⟩) (g.weaken (fun x c _=>c)))
  · rw[cp,cp];exact O.1
  · rw[cp]
  · rw[wH (iR e2)]
  · rw[cp];exact e3
  · simpa using e5
  · rw[cp,kf,mT,e6]
  · intro m I;have L:m<l.length:=by rwa[cp]at I
    have q:=fun cs a(h:R.rd w (SH.A M hp) cs a)=>R.go (A':=fun x=>(M x\/(SH.av hp i (.own R E (.slice (ak ⟨b,0,ar⟩) l.length cap) (l.set k a'))) x)\/ob (.slice (ak ⟨b,0,ar⟩) l.length cap) x) h g (fun x c _=>e x c) (fun x c _=>by
      rcases c with(c|c|c)|c
      · exact .inl c
      · exact .inr<|lU c
      · exact e x c
      · exact e x c)
    have S:=fun j(hj:j<l.length)=>R.go (A':=SH.A M hp) (q3 j hj) (bL.refl BE w) (fun _ h=>h.elim) fun x c _=>.inl c;by_cases o:m=k
    · subst o;rw[mx,Rk rfl];exact q _ _<|hset _<|G▸S m f
    · rw[nb (Ne.symm o),OH]
      · exact q _ _<|S m L
      · rcases cI k m with h5|h5
        · left;have:(k+1)*R.sz<=m*R.sz:=bd _ h5;rw[cj]at this;omega
        · right;have:(m+1)*R.sz<=k*R.sz:=bd _ V;rw[cj]at this;omega
end
open Go.RowKit
section
variable{w0 w:ao}{M K:BS}{hp:Nat->Chunk}{α:Type}{R:lT α}
theorem SH.gL(h:SH w0 M K w hp)(i:Nat):SH w0 M K w (bY hp i .no):=h.step i (bL.refl BE w) (fun _ h=>h.elim) (fun _ h=>h.elim) U
variable{P:ca}{T T2 ty:ba}{ρ:bo->al}{d:Zs Nat}{pos:String}{af:Array hY}{g:Zs (Nat×Ys)}{x y:bo}{v:al}{A:BS}{o:Zs α}
def PtrTo(P:ca)(T:ba):Prop:=∃E,P.underlying T=ak (.pointer E)
theorem PtrTo.p(a:PtrTo P T):P.underlying T=ak (.pointer (P.pointee T)):=by
 obtain⟨E,a⟩:=a;simp[Program.pointee,a]
end
open Go.RowKit
def Chunk.TU:Chunk->Prop
 | .sr .. =>False
 | .pt .. =>False
 | .two a b=>a.TU/\b.TU
 |_=>True
theorem Chunk.re{c:Chunk}{w:ao}{M O i j:BS}(e:c.TU)(h:c.holds w M O)(d:∀b,i b\/j b->b<w.heap.size->M b\/O b):c.holds w i j:=by
 induction c with
 |no=>trivial
 |rd R v l=>exact eO.sub h d d
 |sr R v l=>exact e.elim
 |pt b o cs=>exact e.elim
 |blk b cs=>exact h
 |own R E v l=>exact cK.go h (bL.refl BE w) (fun _ h=>h.elim) (fun _ h=>h.elim) (fun b g f=>.inl (d b g f))
 |rp R v x=>exact R.go h (bL.refl BE w) (fun _ h=>h.elim) d
 |two a b iha ihb=>exact⟨iha e.1 h.1,ihb e.2 h.2.1,h.2.2⟩
 |eY S=>exact S.go h (bL.refl BE w) (fun _ h=>h.elim) (fun _ h=>h.elim) (fun b g f=>.inl (d b g f))
 |mp b jM=>exact h
section
variable{w0 w w':ao}{M K:BS}{hp:Nat->Chunk}
theorem SH.pair(h:SH w0 M K w hp)(i j:Nat)(k:i≠j):SH w0 M K w (bY (bY hp j .no) i (.two (hp i) (hp j))):=by
  have c:∀x b,(bY (bY hp j .no) i (.two (hp i)<|hp j) x).own' b->(x=i/\((hp i).own' b\/(hp j).own' b))\/(x≠i/\x≠j/\(hp x).own' b):=by
    intro x b a;by_cases e:x=i
    · subst e;rw[bZ]at a;exact .inl ⟨Z,a⟩
    · rw[eD e]at a;by_cases f:x=j
      · subst f;rw[bZ]at a;exact a.elim
      · rw[eD f]at a;exact .inr ⟨e,f,a⟩
  have d:∀b,iT (bY (bY hp j .no) i<|.two (hp i)<|hp j) b->iT hp b:=by
    rintro b⟨x,l⟩;rcases c x b l with⟨_,h1|h1⟩|⟨_,_,h1⟩
    · exact⟨i,h1⟩
    · exact⟨j,h1⟩
    · exact⟨x,h1⟩
  refine⟨h.keep,h.ltM,fun x b a=>?_,fun x=>?_,fun x y g b l m=>?_,fun x b a=>?_⟩
  · rcases c x b a with⟨_,h1|h1⟩|⟨_,_,h1⟩
    · exact h.apM i b h1
    · exact h.apM j b h1
    · exact h.apM x b h1
  · by_cases e:x=i
    · subst e;rw[bZ];exact⟨Chunk.sub (h.ok x) fun b a _=>d b a,Chunk.sub (h.ok j) fun b a _=>d b a,fun b a=>h.apart x j k b a⟩
    · rw[eD e];by_cases f:x=j
      · subst f;rw[bZ];trivial
      · rw[eD f];exact Chunk.sub (h.ok x) (fun b a _=>d b a)
  · rcases c x b l with⟨e1,h1⟩|⟨e1,e1',h1⟩<;>rcases c y b m with⟨f,h2⟩|⟨f,e2',h2⟩
    · exact g<|e1.trans f.symm
    · rcases h1 with h1|h1
      · exact h.apart i y (fun e=>f e.symm) b h1 h2
      · exact h.apart j y (fun e=>e2' e.symm) b h1 h2
    · rcases h2 with h2|h2
      · exact h.apart x i e1 b h1 h2
      · exact h.apart x j e1' b h1 h2
    · exact h.apart x y g b h1 h2
  · rcases c x b a with⟨_,h1|h1⟩|⟨_,_,h1⟩
    · exact h.old i b h1
    · exact h.old j b h1
    · exact h.old x b h1
theorem SH.unpair{a c:Chunk}(h:SH w0 M K w hp)(i j:Nat)(s:i≠j)(q:hp i=.two a c)(t:hp j=.no):SH w0 M K w (bY (bY hp i a) j c):=by
  have k:∀x b,(bY (bY hp i a) j c x).own' b->(x=i/\a.own' b)\/(x=j/\c.own' b)\/(x≠i/\x≠j/\(hp x).own' b):=by
    intro x b d;by_cases e:x=j
    · subst e;rw[bZ]at d;exact .inr (.inl ⟨Z,d⟩)
    · rw[eD e]at d;by_cases f:x=i
      · subst f;rw[bZ]at d;exact .inl ⟨Z,d⟩
      · rw[eD f]at d;exact .inr (.inr ⟨f,e,d⟩)
  have n:∀b,a.own' b->(hp i).own' b:=fun b d=>by rw[q];exact .inl d
  have o:∀b,c.own' b->(hp i).own' b:=fun b d=>by rw[q];exact .inr d
  have l:∀b,iT (bY (bY hp i a) j c) b->iT hp b:=by
    rintro b⟨x,p⟩;rcases k x b p with⟨_,h1⟩|⟨_,h1⟩|⟨_,_,h1⟩
    · exact⟨i,n b h1⟩
    · exact⟨i,o b h1⟩
    · exact⟨x,h1⟩
  have g:=h.ok i;rw[q]at g;refine⟨h.keep,h.ltM,fun x b d=>?_,fun x=>?_,fun x y m b p r=>?_,fun x b d=>?_⟩
  · rcases k x b d with⟨_,h1⟩|⟨_,h1⟩|⟨_,_,h1⟩
    · exact h.apM i b<|n b h1
    · exact h.apM i b<|o b h1
    · exact h.apM x b h1
  · by_cases e:x=j
    · subst e;rw[bZ];exact Chunk.sub g.2.1 (fun b d _=>l b d)
    · rw[eD e];by_cases f:x=i
      · subst f;rw[bZ];exact Chunk.sub g.1 (fun b d _=>l b d)
      · rw[eD f];exact Chunk.sub (h.ok x) (fun b d _=>l b d)
  · rcases k x b p with⟨e1,h1⟩|⟨e1,h1⟩|⟨e1,e1',h1⟩<;>rcases k y b r with⟨f,h2⟩|⟨f,h2⟩|⟨f,e2',h2⟩
    · exact m<|e1.trans f.symm
    · exact g.2.2 b h1 h2
    · exact h.apart i y (fun e=>f e.symm) b (n b h1) h2
    · exact g.2.2 b h2 h1
    · exact m<|e1.trans f.symm
    · exact h.apart i y (fun e=>f e.symm) b (o b h1) h2
    · exact h.apart x i e1 b h1<|n b h2
    · exact h.apart x i e1 b h1<|o b h2
    · exact h.apart x y m b h1 h2
  · rcases k x b d with⟨_,h1⟩|⟨_,h1⟩|⟨_,_,h1⟩
    · exact h.old i b<|n b h1
    · exact h.old i b<|o b h1
    · exact h.old x b h1
theorem SH.lendC(h:SH w0 M K w hp)(i:Nat)(d:(hp i).TU):(hp i).holds w (fun b=>M b\/rest hp i b) (hp i).own'/\(∀b,(hp i).own' b->¬(M b\/rest hp i b))/\(∀b,(M b\/rest hp i b)->b<w.heap.size):=by
  refine⟨Chunk.re d (h.ok i) fun b a _=>?_,fun b a c=>?_,fun b a=>?_⟩
  · rcases a with(a|a)|a
    · exact .inl a
    · exact .inr<|lU a
    · exact .inr ⟨i,a⟩
  · rcases c with c|⟨j,hj,c⟩
    · exact h.apM i b a c
    · exact h.apart j i hj b c a
  · rcases a with a|⟨j,_,a⟩
    · exact cq (h.ltM b a) h.keep.size
    · exact Chunk.lt (h.ok j) b a
theorem SH.givenC{C:Chunk}(h:SH w0 M K w hp)(i:Nat)(c:C.TU)(d:C.holds w' (fun b=>M b\/rest hp i b) C.own')(e:bL (hp i).own' w w')(hn:∀b,C.own' b->b<w.heap.size->(hp i).own' b):SH w0 M K w' (bY hp i C):=
  h.step i e (fun _ a _=>a) hn (Chunk.re c d (fun b a _=>by
    rcases a with a|a|a
    · exact .inl<|.inl a
    · exact .inl<|.inr a
    · exact .inr a))
theorem SH.zm{C:Chunk}(l:∀b,M b->b<w.heap.size)(m:C.holds w M C.own')(g:∀b,C.own' b->¬M b):SH w M C.own' w (bY hno 1 C):=by
  have a:∀b,iT (bY hno 1 C) b->C.own' b:=by
    rintro b⟨j,f⟩;by_cases e:j=1
    · subst e;rw[bZ]at f;exact f
    · rw[eD e]at f;exact f.elim
  refine⟨bL.refl _ _,l,fun i b c=>g b<|a b ⟨i,c⟩,fun i=>?_,fun i j k b c d=>?_,fun i b c _=>a b ⟨i,c⟩⟩
  · by_cases e:i=1
    · subst e;rw[bZ];exact Chunk.sub m (fun b c _=>a b c)
    · rw[eD e];trivial
  · by_cases e:i=1
    · have n:j≠1:=fun h=>k<|e.trans h.symm;rw[eD n]at d;exact d.elim
    · rw[eD e]at c;exact c.elim
theorem SH.outC{C:Chunk}(h:SH w0 M K w hp)(i:Nat)(d:hp i=C)(c:C.TU):C.holds w M C.own'/\bL K w0 w/\(∀b,C.own' b->b<w0.heap.size->K b):=by
 subst d;exact⟨Chunk.re c (h.ok i) fun b a _=>a.imp id fun a=>⟨i,a⟩,h.keep,h.old i⟩
end
structure Val where
 kind:Int
 n:Int
deriving DecidableEq
def bJ:lT Val where
 sz:=2
 rd w A cs x:=cs=[.int .i64 x.kind,.int .i64 x.n]
 len:=by rintro w A cs x rfl;rfl
 one:=by rintro w A cs x rfl u hu;simp only[bm,di,or_false]at hu;rcases hu with rfl|rfl<;>first|rfl
 pos:=by decide
 go:=fun h _ _ _=>h
structure Tok where
 kind:Int
 n:Int
deriving DecidableEq
def rP:lT Tok where
 sz:=2
 rd w A cs x:=cs=[.int .i64 x.kind,.int .i64 x.n]
 len:=by rintro w A cs x rfl;rfl
 one:=by rintro w A cs x rfl u hu;simp only[bm,di,or_false]at hu;rcases hu with rfl|rfl<;>first|rfl
 pos:=by decide
 go:=fun h _ _ _=>h
structure dE where
 from_:Int
 iF:Int
 co:Int
 aF:Int
 taken:Bool
 image:List Int
deriving DecidableEq
def eX:lT dE where
 sz:=6
 rd w A cs x:=∃qx,cs=[.int .i64 x.from_,.int .i64 x.iF,.int .i64 x.co,.int .i64 x.aF,.bool x.taken,qx]/\dx dm w A qx x.image
 len:=by rintro w A cs x ⟨qx,rfl,h0⟩;rfl
 one:=by rintro w A cs x ⟨qx,rfl,h0⟩ u hu;simp only[bm,di,or_false]at hu;rcases hu with rfl|rfl|rfl|rfl|rfl|rfl<;>first|rfl|exact h0.one
 pos:=by decide
 go:=by rintro w A cs x w2 A2 K ⟨qx,rfl,h0⟩ hk hK hA;exact⟨_,Z,h0.go hk hK hA⟩
theorem IL{w:ao}{A:BS}{cs:ZD al}{x:dE}(h:eX.rd w A cs x):∃a,cs=[.int .i64 x.from_,.int .i64 x.iF,.int .i64 x.co,.int .i64 x.aF,.bool x.taken,a]/\dx dm w A a x.image:=h
structure Co where
 kJ:Int
 aF:Int
 image:List Int
 offered:Int
deriving DecidableEq
def Il:lT Co where
 sz:=4
 rd w A cs x:=∃qx,cs=[.int .i64 x.kJ,.int .i64 x.aF,qx,.int .i64 x.offered]/\dx dm w A qx x.image
 len:=by rintro w A cs x ⟨qx,rfl,h0⟩;rfl
 one:=by rintro w A cs x ⟨qx,rfl,h0⟩ u hu;simp only[bm,di,or_false]at hu;rcases hu with rfl|rfl|rfl|rfl<;>first|rfl|exact h0.one
 pos:=by decide
 go:=by rintro w A cs x w2 A2 K ⟨qx,rfl,h0⟩ hk hK hA;exact⟨_,Z,h0.go hk hK hA⟩
theorem lv{w:ao}{A:BS}{cs:ZD al}{x:Co}(h:Il.rd w A cs x):∃a,cs=[.int .i64 x.kJ,.int .i64 x.aF,a,.int .i64 x.offered]/\dx dm w A a x.image:=h
structure Rec where
 kind:Int
 co:Int
 aF:Int
 place:Int
 says:List Int
 image:List Int
deriving DecidableEq
def TW:lT Rec where
 sz:=6
 rd w A cs x:=∃Ya,∃qx,cs=[.int .i64 x.kind,.int .i64 x.co,.int .i64 x.aF,.int .i64 x.place,Ya,qx]/\dx dm w A Ya x.says/\dx dm w A qx x.image
 len:=by rintro w A cs x ⟨Ya,qx,rfl,h0,h1⟩;rfl
 one:=by rintro w A cs x ⟨Ya,qx,rfl,h0,h1⟩ u hu;simp only[bm,di,or_false]at hu;rcases hu with rfl|rfl|rfl|rfl|rfl|rfl<;>first|rfl|exact h0.one|exact h1.one
 pos:=by decide
 go:=by rintro w A cs x w2 A2 K ⟨Ya,qx,rfl,h0,h1⟩ hk hK hA;exact⟨_,_,Z,h0.go hk hK hA,h1.go hk hK hA⟩
theorem Qo{w:ao}{A:BS}{cs:ZD al}{x:Rec}(h:TW.rd w A cs x):∃a,∃b,cs=[.int .i64 x.kind,.int .i64 x.co,.int .i64 x.aF,.int .i64 x.place,a,b]/\dx dm w A a x.says/\dx dm w A b x.image:=h
theorem eO.mapR{α:Type}{R R':lT α}{w:ao}{B A:BS}{v:al}{l:ZD α}(n:R.sz=R'.sz)(h:∀cs x,x∈l->R.rd w A cs x->R'.rd w A cs x)(hv:eO R w B A v l):eO R' w B A v l:=by
 obtain⟨a,cap,rfl,q,d,g,p⟩:=hv;refine⟨a,cap,Z,q,d,g,fun i c=>?_⟩;obtain⟨b,o,cells,E,f,e,k,j,m⟩:=p i c;refine⟨b,o,cells,E,f,e,k,j,?_⟩;rw[<-n];exact h _ _ (List.getElem_mem c) m
structure dh where
 kind:Int
 n:Int
 e:List Tok
 f:List Tok
 a:List dh
 b:List dh
def wL:Nat->{R:lT dh // R.sz=6}
 |0=>⟨{sz:=6,rd:=fun _ _ _ _=>False,len:=fun h=>h.elim,one:=fun h=>h.elim,pos:=by decide,go:=fun h=>h.elim},rfl⟩
 |d+1=>⟨{
  sz:=6
  rd:=fun w A cs x=>∃j c g i,cs=[.int .i64 x.kind,.int .i64 x.n,j,c,g,i]/\dx rP w A j x.e/\dx rP w A c x.f/\dx (wL d).1 w A g x.a/\dx (wL d).1 w A i x.b
  len:=by rintro w A cs x ⟨j,c,g,i,rfl,_⟩;rfl
  one:=by rintro w A cs x ⟨j,c,g,i,rfl,r,o,p,q⟩ u s;simp only[bm,di,or_false]at s;rcases s with rfl|rfl|rfl|rfl|rfl|rfl<;>first|rfl|exact r.one|exact o.one|exact p.one|exact q.one
  pos:=by decide
  go:=by rintro w A cs x w2 t K ⟨j,c,g,i,rfl,r,o,p,q⟩ m k l;exact⟨_,_,_,_,Z,r.go m k l,o.go m k l,p.go m k l,q.go m k l⟩},Z⟩
theorem OJ:∀(d:Nat) {w:ao} {A:BS} {cs:ZD al} {x:dh},(wL d).1.rd w A cs x->(wL (d+1)).1.rd w A cs x
 |0,_,_,_,_,h=>h.elim
 |d+1,_,_,_,_,h=>by
  obtain⟨c,g,a,b,rfl,j,e,i,f⟩:=h;exact⟨c,g,a,b,Z,j,e,i.mapR ((wL d).2.trans (wL<|d+1).2.symm) fun _ _ _ h=>OJ d h,f.mapR ((wL d).2.trans (wL<|d+1).2.symm) fun _ _ _ h=>OJ d h⟩
theorem rStmtN_le{d a:Nat}(b:d<=a){w:ao}{A:BS}{cs:ZD al}{x:dh}(h:(wL d).1.rd w A cs x):(wL a).1.rd w A cs x:=by
 induction b with
 |refl=>exact h
 |step _ ih=>exact OJ _ ih
def jb:lT dh where
 sz:=6
 rd w A cs x:=∃d,(wL d).1.rd w A cs x
 len:=by rintro w A cs x ⟨d,h⟩;exact((wL d).1.len h).trans (wL d).2
 one:=by rintro w A cs x ⟨d,h⟩;exact(wL d).1.one h
 pos:=by decide
 go:=by rintro w A cs x w2 A2 K ⟨d,h⟩ hk hK hA;exact⟨d,(wL d).1.go h hk hK hA⟩
theorem max_of{P:Nat->Nat->Prop}(f:∀d a i,d<=a->P d i->P a i):∀n,(∀i,i<n->∃d,P d i)->∃d,∀i,i<n->P d i
  |0,_=>⟨0,fun i b=>ZJ b (eM _)⟩
  |n+1,h=>by
    obtain⟨d,g⟩:=max_of f n fun i b=>h i V;obtain⟨a,c⟩:=h n V;refine⟨max d a,fun i b=>?_⟩;by_cases e:i=n
    · subst e;exact f _ _ _ (sL _ _) c
    · exact f _ _ _ (tj _ _)<|g i V
theorem Zd{w:ao}{A:BS}{v:al}{l:ZD dh}(h:dx jb w A v l):∃d,∀f,d<=f->dx (wL f).1 w A v l:=by
 obtain⟨a,cap,rfl,t,q,s,r⟩:=h;have u:=max_of (P:=fun d i=>∀h:i<l.length,∃b o cells E c,a=ak ⟨b,o,ar⟩/\¬A b/\w.heap[b]? =ak (.cells cells E c)/\(wL d).1.rd w A ((cells.toList.drop<|o+i*6).take 6) l[i])
  (fun d f i p hp h=>let ⟨b,o,cells,E,c,j,g,k,e⟩:=hp h;⟨b,o,cells,E,c,j,g,k,rStmtN_le p e⟩) l.length
  (fun i m=>by obtain⟨b,o,cells,E,c,j,g,k,d,e⟩:=r i m;exact⟨d,fun _=>⟨b,o,cells,E,c,j,g,k,e⟩⟩)
 obtain⟨d,p⟩:=u;refine⟨d,fun f n=>⟨a,cap,Z,t,q,s,fun i m=>?_⟩⟩;obtain⟨b,o,cells,E,c,j,g,k,e⟩:=p i m m;exact⟨b,o,cells,E,c,j,g,k,by rw[(wL f).2];exact rStmtN_le n e⟩
theorem M4{w:ao}{A:BS}{cs:ZD al}{x:dh}(h:jb.rd w A cs x):∃i j c g,cs=[.int .i64 x.kind,.int .i64 x.n,i,j,c,g]/\dx rP w A i x.e/\dx rP w A j x.f/\dx jb w A c x.a/\dx jb w A g x.b:=by
 obtain⟨d,h⟩:=h;cases d with
 |zero=>exact h.elim
 |succ d=>
  obtain⟨i,j,c,g,rfl,o,k,m,l⟩:=h;exact⟨i,j,c,g,Z,o,k,m.mapR (wL d).2 fun _ _ _ h=>⟨d,h⟩,l.mapR (wL d).2 fun _ _ _ h=>⟨d,h⟩⟩
theorem rStmt_mk{w:ao}{A:BS}{cs:ZD al}{x:dh}(h:∃i j c g,cs=[.int .i64 x.kind,.int .i64 x.n,i,j,c,g]/\dx rP w A i x.e/\dx rP w A j x.f/\dx jb w A c x.a/\dx jb w A g x.b):jb.rd w A cs x:=by
 obtain⟨i,j,c,g,rfl,q,m,p,o⟩:=h;obtain⟨d,r⟩:=Zd p;obtain⟨l,k⟩:=Zd o;exact⟨max d l+1,i,j,c,g,Z,q,m,r _<|tj _ _,k _<|sL _ _⟩
structure jq where
 params:Int
 locals:Int
 body:List dh
def nD:lT jq where
 sz:=3
 rd w A cs x:=∃Yb,cs=[.int .i64 x.params,.int .i64 x.locals,Yb]/\dx jb w A Yb x.body
 len:=by rintro w A cs x ⟨Yb,rfl,h0⟩;rfl
 one:=by rintro w A cs x ⟨Yb,rfl,h0⟩ u hu;simp only[bm,di,or_false]at hu;rcases hu with rfl|rfl|rfl<;>first|rfl|exact h0.one
 pos:=by decide
 go:=by rintro w A cs x w2 A2 K ⟨Yb,rfl,h0⟩ hk hK hA;exact⟨_,Z,h0.go hk hK hA⟩
theorem Cz{w:ao}{A:BS}{cs:ZD al}{x:jq}(h:nD.rd w A cs x):∃a,cs=[.int .i64 x.params,.int .i64 x.locals,a]/\dx jb w A a x.body:=h
section
variable{α β σ ρ:Type}
theorem lC{l:ZD α}{i:Nat}:idx l (i:Int)=l[i]? :=by simp[idx]
theorem xI{l:ZD α}{i:Nat}(h:i<l.length):idx l (i:Int)=ak l[i]:=by rw[lC,bc h]
theorem kz{p:Prop} [Decidable p]{x:Zs β}(h:p):iG p x=x:=Z2 h
theorem rQ{b:Nat}{a:ZD α}(h:a.length*b<=140737488355328)(c:a.length<=9223372036854775807):clone b a=ak a:=by
 unfold clone;exact kz<|Room.mk (by simpa using h) (by simpa using c)
theorem Yc{l:ZD α}{a b:Nat}(h:a<=b)(c:b<=l.length):sub? l (a:Int) (b:Int)=ak ((l.take b).drop a):=by
 unfold sub? cut;rw[Z2 ⟨by omega,by omega,by omega⟩];simp
theorem del_s{l:ZD α}{a b:Nat}(h:a<b)(c:b<=l.length):del1 l (a:Int) (b:Int)=ak (l.take a++l.drop b):=by
 unfold del1;rw[Z2 ⟨by omega,by omega,by omega⟩];simp
theorem one_at{l:ZD α}{n:Nat}(h:n<l.length):(l.take (n+1)).drop n=[l[n]]:=by
 rw[eo,cS h,show n+1-n=1 by omega];rfl
def all2(p:α->β->Ys):ZD α->ZD β->Ys
 |[],[]=>aT
 |x::xs,y::ys=>p x y&&all2 p xs ys
 |_,_=>aq
theorem Qp [DecidableEq α]{p:α->α->Ys}(hp:∀x y,p x y=ab (x=y)):∀(a b:ZD α),all2 p a b=ab (a=b)
 |[],[]=>by simp[all2]
 |[],_::_=>by simp[all2]
 |_::_,[]=>by simp[all2]
 |x::xs,y::ys=>by simp[all2,hp,Qp hp xs ys]
theorem upto_all2{body:Int->Unit->(Unit->Zs Ys)->Zs Ys}{c:Unit->Zs Ys}(p:α->β->Ys)(a:ZD α)(b:ZD β)(k:a.length=b.length)(g:c ()=ak aT)
  (j:∀(i:Nat) x y nx,a[i]? =ak x->b[i]? =ak y->body (i:Int) () nx=bif p x y then nx ()else ak aq):upto body c 0 a.length ()=ak (all2 p a b):=by
 have d:∀(m i:Nat),i+m=a.length->upto body c (i:Int) m ()=ak (all2 p (a.drop i)<|b.drop i):=by
  intro m;induction m with
  |zero=>
   intro i h;rw[cG V,cG V];exact g
  |succ m ih=>
   intro i h;have f:i<a.length:=by omega
   have e:i<b.length:=by omega
   rw[cS f,cS e];show body (i:Int) () (upto body c ((i:Int)+1) m)=_;rw[j i a[i] b[i] _ (bc f) (bc e)];cases hp:p a[i] b[i]with
   |true=>simp only[ZS,all2,hp,nj];exact ih (i+1) V
   |false=>simp[all2,hp]
 simpa using d a.length 0 V
theorem RJ{body:Int->α->Unit->(Unit->Zs Ys)->Zs Ys}{c:Unit->Zs Ys}(p:α->β->Ys)(a:ZD α)(b:ZD β)(j:a.length=b.length)(f:c ()=ak aT)
  (g:∀(i:Nat) x y nx,b[i]? =ak y->body (i:Int) x () nx=bif p x y then nx ()else ak aq):ib body c 0 a ()=ak (all2 p a b):=by
 have d:∀(l:ZD α) (i:Nat),i+l.length=b.length->ib body c (i:Int) l ()=ak (all2 p l<|b.drop i):=by
  intro l;induction l with
  |nil=>
   intro i h;rw[cG (by simp at h;omega)];exact f
  |cons x l ih=>
   intro i h;simp only[bq]at h;have e:i<b.length:=by omega
   rw[cS e];show body (i:Int) x () (ib body c ((i:Int)+1) l)=_;rw[g i x b[i] _ (bc e)];cases hp:p x b[i]with
   |true=>simp only[ZS,all2,hp,nj];exact ih (i+1) V
   |false=>simp[all2,hp]
 simpa using d a 0 V
theorem upto_eachI{body:Int->σ->(σ->ρ)->ρ}{g:Int->α->σ->(σ->ρ)->ρ}{k:σ->ρ}(l:ZD α)(c:∀(i:Nat) x s nx,l[i]? =ak x->body (i:Int) s nx=g (i:Int) x s nx)(s:σ):upto body k 0 l.length s=ib g k 0 l s:=by
 have a:∀(m i:Nat),i+m=l.length->∀s,upto body k (i:Int) m s=ib g k (i:Int) (l.drop i) s:=by
  intro m;induction m with
  |zero=>intro i h s;rw[cG V];rfl
  |succ m ih=>
   intro i h s;have b:i<l.length:=by omega
   rw[cS b];show body (i:Int) s (upto body k ((i:Int)+1) m)=g (i:Int) l[i] s (ib g k ((i:Int)+1)<|l.drop<|i+1);rw[c i l[i] s _ (bc b)];congr 1;funext s';exact ih (i+1) V s'
 simpa using a l.length 0 V s
theorem Qq{body:Int->Unit->(Unit->ρ)->ρ}{a:Unit->ρ}(p:α->Ys)(F:Int->ρ)(l:ZD α)(d:∀(i:Nat) x nx,l[i]? =ak x->body (i:Int) () nx=bif p x then F i else nx ()):
  upto body a 0 l.length ()=match l.findIdx? p with|some n=>F (n:Int)|none=>a ():=by
 have b:∀(m i:Nat),i+m=l.length->upto body a (i:Int) m ()=match (l.drop i).findIdx? p with|some n=>F ((i+n:Nat):Int)|none=>a ():=by
  intro m;induction m with
  |zero=>intro i h;rw[cG V];rfl
  |succ m ih=>
   intro i h;have c:i<l.length:=by omega
   rw[cS c,List.findIdx?_cons];show body (i:Int) () (upto body a ((i:Int)+1) m)=_;rw[d i l[i] _ (bc c)];cases hp:p l[i]with
   |true=>rfl
   |false=>
    simp only[Z1,cv,if_false];have:=ih (i+1) V;rw[show((i+1:Nat):Int)=(i:Int)+1 from rfl]at this;rw[this];cases (l.drop (i+1)).findIdx? p with
    |none=>rfl
    |some n=>simp only[dd];congr 1;omega
 have:=b l.length 0 V;simp only[ga,fa]at this;exact this
theorem del_s1{l:ZD α}{a:Nat}(h:a<l.length):del1 l (a:Int) ((a:Int)+1)=ak (l.take a++l.drop (a+1)):=by
 have:=del_s (l:=l) (a:=a) (b:=a+1) V V;exact this
theorem dT{p:Prop} [Decidable p](h:p):decide p=true:=decide_eq_true h
theorem dF{p:Prop} [Decidable p](h:¬p):decide p=false:=decide_eq_false h
theorem gI{x:Int}{y:Zs β}(b: -9223372036854775808<=x:=by omega)(a:x<=9223372036854775807:=by omega):iG (kN x) y=y:=kz (kN.mk b a)
end
open Go.RowKit
def iN:lT UInt8 where
 sz:=1
 rd _ _ cs x:=cs=[.int .u8 (x.toNat:Int)]
 len:=by rintro w A cs x rfl;rfl
 one:=by rintro w A cs x rfl u hu;simp at hu;subst hu;rfl
 pos:=by decide
 go:=fun h _ _ _=>h
def IsErr(v:al)(b:Ys):Prop:=(b=aq/\v=.nilIface)\/(b=aT/\∃t p,v=.iface t p)
structure IfaceT(P:ca)(T:ba):Prop where
 desc:P.underlying T=ak (.interface (P.methodsAt T))
def Ro{α:Type}(a:Nat)(k:Int):Zs (ZD α):=iG (0<=k/\k*a<=140737488355328) (ak [])
section
variable{P:ca}{ops:Array ei}{Q:fl->Act->ao->Prop}{n:Nat}{env:Nat->al}{w w' w0:ao}{M K:BS}{hp:Nat->Chunk}{rest:ZD ei}
 {d:Zs Nat} {op:Op} {ty:ba} {pos:String} {af:Array hY} {v:al} {g:Zs (Nat×Ys)} {T:ba} {ρ:bo->al} {x y:bo}
theorem VH{a b:Str}{T2:ba}(c:ρ x=bF a)(e:ρ y=bF b):(bk ρ ⟨d,.binOp .eql T x y T2,ty,pos,af,g⟩).run P w=.ok (.value (.bool (ab (a=b)))) w:=by
 simp[bk,lf,c,e,bF,Op.stringOp,gx];rw[ez];simp
theorem RL{a b:Str}{T2:ba}(c:ρ x=bF a)(e:ρ y=bF b):(bk ρ ⟨d,.binOp .neq T x y T2,ty,pos,af,g⟩).run P w=.ok (.value (.bool (ab (a≠b)))) w:=by
 simp[bk,lf,c,e,bF,Op.stringOp,gx];rw[ez];simp
theorem uN{a b:Str}{T2:ba}(e:ρ x=bF a)(f:ρ y=bF b)(h:a.length+b.length<=9223372036854775807):(bk ρ ⟨d,.binOp .add T x y T2,ty,pos,af,g⟩).run P w=.ok (.value (bF (a++b))) w:=by
 have c:=run_string_add_sum (P:=P) (w:=w) ⟨a.toArray⟩ ⟨b.toArray⟩ (by simpa[lz]using h);have i:(⟨a.toArray⟩++⟨b.toArray⟩:ByteArray)=⟨(a++b).toArray⟩:=by
  apply qT;simp
 rw[i]at c;simp[bk,lf,e,f,bF,gx,c]
theorem r_neqnilI{b:Ys}{T2:ba}(e:IfaceT P T)(a:ρ x=v)(hv:IsErr v b)(c:ρ (.const .nilIface)=.nilIface):(bk ρ ⟨d,.binOp .neq T x (.const .nilIface) T2,ty,pos,af,g⟩).run P w=.ok (.value (.bool b)) w:=by
  rcases hv with⟨rfl,rfl⟩|⟨rfl,t,p,rfl⟩
  · simp[bk,lf,a,c,gx,run_equal_nil_nil w T e.desc]
  · simp[bk,lf,a,c,gx,ts w T t p e.desc]
theorem r_eqlnilI{b:Ys}{T2:ba}(e:IfaceT P T)(a:ρ x=v)(hv:IsErr v b)(c:ρ (.const .nilIface)=.nilIface):(bk ρ ⟨d,.binOp .eql T x (.const .nilIface) T2,ty,pos,af,g⟩).run P w=.ok (.value (.bool !b)) w:=by
  rcases hv with⟨rfl,rfl⟩|⟨rfl,t,p,rfl⟩
  · simp[bk,lf,a,c,gx,run_equal_nil_nil w T e.desc]
  · simp[bk,lf,a,c,gx,ts w T t p e.desc]
theorem w_makeSl{α:Type}{R:lT α}{E:ba}{c:Nat}{k:Int}{z:al}{a:α}(h:SH w0 M K w hp)(i:Nat)(s:kM P T E 1 c)(hz:One P E z)(t:R.sz=1)(l:0<c)(N:ev n env x=.int .i64 k)(G:ev n env y=.int .i64 k)
    (hk:0<=k/\k*c<=140737488355328) (F:∀w A,R.rd w A [z] a)
    (L:∀w' u,SH w0 M K w' (bY hp i (.own R E u (cc k.toNat a)))->WL P ops Q rest n (gH env d u) w'):
    WL P ops Q (⟨d,.makeSlice T x y,ty,pos,af,ar⟩::rest) n env w:=by
  obtain⟨h0,h1⟩:=hk;obtain⟨m,rfl⟩:=bs h0;obtain⟨j,z',B,O,o,p,X⟩:=s.info;have e:=hz.info;rw[B]at e;simp only[dd,eJ,iC]at e;have a0:m<=m*c:=lK _ l;have S:m*c<=140737488355328:=by
    have:((m*c:Nat):Int)<=140737488355328:=by rw[ti];exact h1
    omega
  obtain⟨w',hr,ho,I⟩:=run_make_full (P:=P) w 0 T E j z 1 s.desc B e.1 o .i64 .i64 m (by rw[p,nw];omega) (by unfold lo;omega) (fN _);have g:Grow w w':=(BK (v:=.slice ar 0 0) I).weaken fun _ h _=>h.elim;have f:(bk (ev n env) ⟨d,.makeSlice T x y,ty,pos,af,ar⟩).run P w=.ok (.value<|.slice (ak ⟨w.heap.size,0,ar⟩) m m) w':=by
    simp only[bk,cy,db,bp,N,G,hr]
  refine J f<|L w' _<|h.wF i g ⟨(madeCells z.cells<|m*1).toList,?_,?_⟩ ?_
  · rw[t,jI];exact ho
  · intro q r;simp only[jI]at r;have C:q<m:=r;rw[t,hz.cell,toList_madeCells_one];have:(mA (q*1)<|cc (m*1) z).take 1=[z]:=by
      rw[List.drop_replicate,List.take_replicate,show min 1 (m*1-q*1)=1 by omega];rfl
    rw[this];simp only[List.getElem_replicate];exact F _ _
  · intro b l;have:b=w.heap.size:=l;omega
theorem run_appS{E u:ba}{A:BS}{l s:Str}(t:kM P T E 1 1)(hz:One P E (.int .u8 0))(B:P.underlying u=ak .string)(Q:ρ x=v)(hv:cK iN E w A v l)(M:ρ y=bF s)
    (o:(l.length+s.length)*1<=140737488355328) (hm:l.length+s.length<=9223372036854775807):
    ∃k w',(bk ρ ⟨d,.call {callee:=.builtin .append,args:= #[x,y],argTypes:= #[T,u]},ty,pos,af,g⟩).run P w=.ok (.value k) w'/\cK iN E w' A k (l++s)/\bL (ob v) w w'/\(∀b,ob k b->b<w.heap.size->ob v b):=by
  obtain⟨xs,ho,hr⟩:=hv;obtain⟨i,z',r,S,f,h,X⟩:=t.info;have c:=hz.info;rw[r]at c;simp only[dd,eJ,iC]at c;have e:(ot s.toArray).size=s.length:=by simp[lz]
  obtain⟨k,w',m,N,O,h4⟩:=Lib.run_append_own_string (P:=P) w 0 T u ty E i t.desc B r c.1 f h v l.length xs ho ⟨s.toArray⟩ (by rw[e];unfold lo;omega) (by rw[e];omega) (fN _);have hk:=BK O;have z:xs.length=l.length:=by simpa[iN]using ho.1
  have n:(bk ρ ⟨d,.call {callee:=.builtin .append,args:= #[x,y],argTypes:= #[T,u]},ty,pos,af,g⟩).run P w=.ok (.value k) w':=by
    simp only[bk,hU,ka,jz,cy,db,bp,fV,cg,et,Q,M];rw[show(hB #[T,u] ty #[v,bF s]).run P w=_ from m];rfl
  have I:pC ⟨s.toArray⟩=s.map fun b=>dq .u8 (b.toNat:Int):=by simp[pC]
  refine⟨k,w',n,⟨xs++pC ⟨s.toArray⟩,?_,?_⟩,hk,?_⟩
  · rw[bj,<-e];exact N
  · intro q R;show iv 1 (mA (q*1) _)=_;rw[mC,I];by_cases p:q<l.length
    · have:=hr q p;have K:iv 1 (mA (q*1) xs)=[.int .u8 (l[q].toNat:Int)]:=this;rw[mC]at K;rw[fX V,cY (by rw[cN];omega),K,eN p]
    · rw[bj]at R;rw[fm V,jt,cG V,cr,z,cS (by simp;omega)];simp
  · intro b o hl;rcases ho.2 with⟨rfl,hn⟩|⟨gg,cap,cur,rfl,_,hgg,hc,hcm,hcs',htake⟩
    · by_cases G:s.length=0
      · have C:s=[]:=cl G;subst C;have:k=.slice ar 0 0:=h4.2 ⟨Z,e⟩;subst this;exact o
      · have a:=run_append_nil_string (P:=P) w T u ty E i (.int .u8 0) t.desc B r c.1 ⟨s.toArray⟩ V V (by rw[h];omega);rw[a]at m;cases m;simp[ob]at o;omega
    · by_cases F:l.length+s.length<=cap
      · have L:cur.size=cap:=by simpa[iN]using hcs'
        have a:=Lib.run_append_room_string (P:=P) w T u ty E i t.desc B r f gg l.length cap cur hgg ⟨s.toArray⟩ V V;rw[a]at m;cases m;exact o
      · have holds:∀j u,xs[j]? =ak u->w.cell? ((⟨gg,0,ar⟩:lj).add j)=ak u:=ho.cells (g:=gg) Z;have a:=Lib.run_append_grow_string (P:=P) w T u ty E i (.int .u8 0) t.desc B r c.1 ⟨gg,0,ar⟩ l.length cap xs (by rw[f];simpa using z) holds ⟨s.toArray⟩ V V (by rw[h];exact growslice_fits V V);rw[a]at m;cases m;simp[ob]at o;omega
theorem r_b2s{E e:ba}{B A:BS}{l:Str}(m:P.underlying T=ak (.slice E))(i:P.underlying E=ak (.int .u8))(k:P.underlying e=ak .string)(C:ρ x=v)(hv:eO iN w B A v l):
    (bk ρ ⟨d,.convert T e x,ty,pos,af,g⟩).run P w=.ok (.value (bF l)) w:=by
  obtain⟨a,cap,rfl,N,G,L,q⟩:=hv;have h:(convert T e<|.slice a l.length cap).run P w=.ok (bF l) w:=by
    cases l with
    |nil=>
      cases a with
      |none=>
        rw[run_convert_bytes_string w T e E ar _ _ m i k];simp[Conv.bytesToString,bF];rfl
      |some a=>
        exact rB w T e E a cap [] m i k fun j n=>ZJ n<|eM _
    |cons c r=>
      obtain⟨b,o,cells,F,K,rfl,_,_,_⟩:=q 0 zq3;refine rB w T e E ⟨b,o,ar⟩ cap (c::r) m i k fun j n=>?_;obtain⟨b',M,f,I,t,u,_,z,y⟩:=q j n;cases u;have p:iv 1 (mA (o+j*1) f.toList)=[.int .u8 ((c::r)[j].toNat:Int)]:=y;rw[mC]at p;have s:f.toList[o+j]? =ak (.int .u8 ((c::r)[j].toNat:Int)):=by
        have:=ZL (·[0]?) p;simpa[cf,cC]using this
      rw[addr_add];simpa[eS,z]using s
  simp only[bk,cy,db,C,h,bp]
theorem str_ex(s:Str)(a b:Nat):(ot s.toArray).extract a b=⟨((s.take b).drop a).toArray⟩:=by
 apply qT;simp[ByteArray.data_extract,eo]
theorem wM(s:Str):(ot s.toArray).size=s.length:=by simp[lz]
def subs?(s:Str)(a b:Int):Zs Str:=iG (0<=a/\a<=b/\b<=s.length) (ak (cut s a b))
theorem r_sls{s:Str}{h l:Zs bo}{a b:Int}(f:P.underlying T=ak .string)(p:ρ x=bF s)(k:Rh (h.map ρ) a 0)(m:Rh (l.map ρ) b s.length)(n:0<=a)(j:a<=b)(t:b<=s.length):
    (bk ρ ⟨d,.slice T x h l ar,ty,pos,af,g⟩).run P w=.ok (.value (bF (cut s a b))) w:=by
  obtain⟨a,rfl⟩:=bs n;obtain⟨b,rfl⟩:=bs<|Int.le_trans n j;have o:a<=b:=by omega
  have q:b<=s.length:=by omega
  have r:cut s (a:Int) (b:Int)=(s.take b).drop a:=by simp[cut]
  have i:(jE T (bF s) (h.map ρ) (l.map ρ) ar).run P w=.ok (bF ((s.take b).drop a)) w:=by
    unfold bF;rcases k with⟨e1,e2⟩|e1<;>rcases m with⟨e3,e4⟩|e3
    · have e:a=0:=by omega
      have c:b=s.length:=by omega
      subst e c;rw[e1,e3,run_slice_string_all w T _ f,str_ex,wM]
    · have e:a=0:=by omega
      subst e;rw[e1,e3,run_slice_string_to_if w T _ _ _ f,Z2 ⟨by omega,by rw[wM];omega⟩,str_ex];simp
    · have c:b=s.length:=by omega
      subst c;rw[e1,e3,run_slice_string_from_if w T _ _ _ f,Z2 ⟨by omega,by rw[wM];omega⟩,str_ex,wM];simp
    · rw[e1,e3,run_slice_string w T _ _ _ _ _ f V V (by rw[wM];omega),str_ex];simp
  rw[r];simp only[bk,cy,db,p,Option.map_none,run_sliceAt_string w T _ _ _ _ f,i,bp]
theorem r_slsE{s r:Str}{h i:Zs bo}{a b:Int}(m:r=cut s a b)(n:P.underlying T=ak .string)(j:ρ x=bF s)(e:Rh (h.map ρ) a 0)(f:Rh (i.map ρ) b s.length)(k:0<=a)(c:a<=b)(l:b<=s.length):
  (bk ρ ⟨d,.slice T x h i ar,ty,pos,af,g⟩).run P w=.ok (.value (bF r)) w:=by
 subst m;exact r_sls n j e f k c l
theorem o_subs{s r:Str}{a b:Int}(h:subs? s a b=ak r):0<=a/\a<=b/\b<=s.length/\r=cut s a b:=by
 obtain⟨c,d⟩:=bD h;exact⟨c.1,c.2.1,c.2.2,(cQ d).symm⟩
theorem Ze{α:Type}{R:lT α}{E c:ba}{j a:Nat}{A:BS}{k:Nat}(m:kM P T E j a)(t:R.sz=j)(s:P.underlying c=ak (.int .i64))(r:ev n env x=.slice ar 0 0)(o:ev n env y=.int .i64 (k:Nat))(v:0<k)(p:0<a)
    (u:k*a<=140737488355328)
    (h:∀w' gg cap,Grow w w'->w.heap.size<=gg->gg<w'.heap.size->k<=cap->cK R E w' A (.slice (ak ⟨gg,0,ar⟩) 0 cap) ([]:ZD α)->WL P ops Q rest n (gH env d (.slice (ak ⟨gg,0,ar⟩) k cap)) w'):
    WL P ops Q (⟨d,.call {callee:=.builtin .append,args:= #[x,y],argTypes:= #[T,c]},ty,pos,af,ar⟩::rest) n env w:=by
  obtain⟨i,z,C,hz,q,e,g⟩:=m.info;have l:=R.pos;have B:k<=k*a:=lK _ p;have F:=Lib.run_append_nil_zeros (P:=P) w T c ty E i z .i64 .i64 m.desc s C hz k v V V (by rw[e];omega);have b:(bk (ev n env) ⟨d,.call {callee:=.builtin .append,args:= #[x,y],argTypes:= #[T,c]},ty,pos,af,ar⟩).run P w=.ok (.value<|.slice (ak ⟨w.heap.size,0,ar⟩) k<|hP w k 0 E) (w.drew.alloc<|.cells (cD z.cells k++cD z.cells (hP w k 0 E-k)) E):=by
    simp only[bk,hU,ka,jz,cy,db,bp,fV,cg,et,r,o,F]
  have hge:=grownCap_ge w k 0 E;have f:hP w k 0 E<=maxLen:=tp w k 0 E (by unfold lo;omega);refine J b<|h _ _ _ ((Grow.drew w).trans<|Grow.alloc _ _) (bE _) ?_ hge ⟨[],⟨by simp,.inr ⟨w.heap.size,_,_,Z,fN _,heap_alloc_new w.drew _,fN _,f,?_,by simp⟩⟩,fun i h=>ZJ h<|eM _⟩
  · show w.heap.size<(w.drew.alloc _).heap.size;rw[alloc_size];exact sB _
  · rw[Array.size_append,lp,lp,g,t,<-cj];congr 1;omega
end
open Go.RowKit
structure qY(P:ca)(g:Nat)(w:ao):Prop where
 pow:oy P w "internal/strconv.uint64pow10" .u64 Lib.pow10Tab
 syn:∃t p,w.var? P "strconv.ErrSyntax" =ak #[.iface t p]
 ran:∃t p,w.var? P "strconv.ErrRange" =ak #[.iface t p]
 max:∃m,w.cell? ⟨g,0,ar⟩=ak (.int .i64 m)
 many:P.globals.size<=w.heap.size
 gmax:g<P.globals.size
 asc:∀q,P.globalNamed "strings.asciiSpace" =ak q->oy P w "strings.asciiSpace" .u8 Lib.asciiSpaceTab
theorem Zf{P:ca}{s:String}{i:Nat}(h:P.globalNamed s=ak i):i<P.globals.size:=by
  unfold Program.globalNamed at h;split at h
  · rename_i g a;cases h;have:i∈(List.range P.globals.size).filter fun g=>(P.globals[g]?).any (·.name==s):=by rw[a];simp
    exact List.mem_range.1 (List.mem_filter.1 this).1
  · cases h
theorem bL.var{P:ca}{K:BS}{w w':ao}{s:String}{cs:Array al}(d:bL K w w')(a:∀b,K b->P.globals.size<=b)(h:w.var? P s=ak cs):w'.var? P s=ak cs:=by
 unfold World.var? at h⊢;cases hg:P.globalNamed s with
 |none=>simp[hg]at h
 |some g=>
  have e:=Zf hg;simp only[hg,cM]at h⊢;cases hb:w.heap[g]? with
  |none=>simp[hb]at h
  |some o=>rw[d.blk hb (fun c=>ZJ (a _ c) V)];rw[hb]at h;exact h
theorem qY.TY{P:ca}{g:Nat}{K:BS}{w w':ao}(h:qY P g w)(a:bL K w w')(c:∀b,K b->P.globals.size<=b):qY P g w':=by
 obtain⟨r,⟨t,j,f⟩,⟨k,n,l⟩,⟨m,d⟩,s,i,p⟩:=h;refine⟨a.var c r,⟨t,j,a.var c f⟩,⟨k,n,a.var c l⟩,⟨m,?_⟩,dv s a.size,i,fun q e=>a.var c<|p q e⟩;unfold eS at d⊢;cases hb:w.heap[g]? with
 |none=>simp[hb]at d
 |some o=>rw[a.blk hb (fun e=>ZJ (c _ e) V)];rw[hb]at d;exact d
theorem qY.go{P:ca}{g:Nat}{w w':ao}(h:qY P g w)(a:Grow w w'):qY P g w':=h.TY a (fun _ h=>h.elim)
theorem SH.Bg{P:ca}{g:Nat}{w0 w:ao}{M K:BS}{hp:Nat->Chunk}{C:Chunk}(h:SH w0 M K w hp)(d:qY P g w0)(a:∀b,K b->P.globals.size<=b)(i:Nat)(e:hp i=C):∀b,C.own' b->P.globals.size<=b:=by
  subst e;intro b c;rcases cI b w0.heap.size with hl|hl
  · exact a b<|h.old i b c hl
  · exact dv d.many hl
theorem Grow.drewN(w:ao)(k:Nat):Grow w (w.drewN k):=⟨rfl,rfl,rfl,bE _,fun _ _ _=>rfl⟩
theorem Grow.Ro{w:ao}{os:Array Obj}:Grow w (Sort.grow w os):=⟨rfl,rfl,rfl,by simp[Sort.grow],fun b _ a=>by simp[Sort.grow,Array.getElem?_append_left a]⟩
def OL(n:Int):Zs Str:=iG (kN n) (ak (dt n))
def Kc(s:Str):Zs (Int×Ys):=iG (s.length<=281474976710656) (ak (match ey s with| .ok v=>(v,aq)| .range=>(qq s,aT)|_=>(0,aT)))
def parseS(s:Str):Zs (Int×Ys):=iG (s.length<=281474976710656) (ak (match Lib.parseIntB 64 s with| .ok v=>(v,aq)| .range=>(Lib.intSat 64 s,aT)|_=>(0,aT)))
def Zg(l:ZD Str)(a:Str):Zs Str:=iG (l.length<=140737488355328/\(oR l a).length<=140737488355328) (ak (oR l a))
def RN(s a:Str):Zs (ZD Str):=iG (s.length<4294967281/\1<=a.length) (ak (sR s a))
def cutS(s a:Str):Zs (Str×Str×Ys):=iG (s.length<4294967281) (ak (nk s a))
section
variable{P:ca}{g:Nat}{w0:ao}{f:fY}{M:BS}
theorem itoa_w(c:∀n,-9223372036854775808<=n->n<=9223372036854775807->∀w,oy P w "internal/strconv.uint64pow10" .u64 Lib.pow10Tab->bw P f #[.int .i64 n] w fun e w'=>e=.returned (.string ⟨(dt n).toArray⟩)/\∃k os,w'=Sort.grow (w.drewN k) os)
  (d:qY P g w0) {a:Int} {r:Str} (b:OL a=ak r):bw P f #[.int .i64 a] w0 (XS w0 (bF r)):=by
 obtain⟨h,b⟩:=bD b;cases b;refine(c a h.1 h.2 w0 d.pow).mono ?_;rintro e w'⟨rfl,k,os,rfl⟩;exact⟨(Grow.drewN w0 k).trans Grow.Ro,Z⟩
theorem bw_grow(w:ao)(t:ba)(s:ByteArray):Grow w (tt w t s):=⟨rfl,rfl,rfl,by rw[Lib.bytesWorld_size];omega,fun b _ a=>Lib.bytesWorld_at_old w t _ b a⟩
theorem atoi_w{o a c:ba}{nm:ByteArray}(q:∀s:ByteArray,s.size<=9223372036854775806->∀v,ey s.data.toList=.ok v->∀w,bw P f #[.string s] w fun e w'=>e=.returned (.tuple #[.int .i64 v,.nilIface])/\(w'=w\/∃t,w'=tt w o t))
    (k:∀s:ByteArray,s.size<=281474976710656->∀e,ey s.data.toList=e->(∀v,e≠ .ok v)->e≠ .range->∀d p w,w.var? P "strconv.ErrSyntax" =ak #[.iface d p]->bw P f #[.string s] w fun e w'=>∃N,e=.returned (.tuple #[.int .i64 0,.iface a (.pointer (ak ⟨N,0,ar⟩))])/\w.heap.size<=N/\w'.heap[N]? =ak (.cells #[.string nm,.string s,.iface d p] c (0,0))/\Below w.heap.size w w')
    (n:∀s:ByteArray,s.size<=281474976710656->ey s.data.toList=.range->∀d p w,w.var? P "strconv.ErrRange" =ak #[.iface d p]->bw P f #[.string s] w fun e w'=>∃N,e=.returned (.tuple #[.int .i64 (qq s.data.toList),.iface a (.pointer (ak ⟨N,0,ar⟩))])/\w.heap.size<=N/\w'.heap[N]? =ak (.cells #[.string nm,.string s,.iface d p] c (0,0))/\Below w.heap.size w w')
    (j:qY P g w0) {s:Str} {r:Int×Ys} (b:Kc s=ak r):bw P f #[bF s] w0 (fun e w'=>Grow w0 w'/\∃u,e=.returned (.tuple #[.int .i64 r.1,u])/\IsErr u r.2):=by
  obtain⟨h,b⟩:=bD b;have m:=wM s;cases hq:ey s with
  |ok v=>
    rw[hq]at b;cases b;refine(q ⟨s.toArray⟩ V v (by simpa using hq) w0).mono ?_;rintro e w'⟨rfl,l⟩;refine⟨?_,_,Z,.inl ⟨Z,Z⟩⟩;rcases l with rfl|⟨t,rfl⟩
    · exact bL.refl _ _
    · exact bw_grow _ _ _
  |range=>
    rw[hq]at b;cases b;obtain⟨t,p,hv⟩:=j.ran;refine(n ⟨s.toArray⟩ V (by simpa using hq) t p w0 hv).mono ?_;rintro e w'⟨N,rfl,_,_,i⟩;refine⟨Grow.of_below i,.iface a<|.pointer<|some ⟨N,0,ar⟩,by simp,.inr ⟨Z,_,_,Z⟩⟩
  |_=>
    rw[hq]at b;cases b;obtain⟨t,p,hv⟩:=j.syn;refine(k ⟨s.toArray⟩ V _ (by simpa using hq) (fun v=>by simp) zq3 t p w0 hv).mono ?_;rintro e w'⟨N,rfl,_,_,i⟩;exact⟨Grow.of_below i,_,Z,.inr ⟨Z,_,_,Z⟩⟩
theorem rdStr_at{A B:BS}{a:Zs lj}{n c:Nat}{l:ZD Str}(hv:eO uZ w0 B A (.slice a n c) l)(q:0<l.length):∃e o,a=ak ⟨e,o,ar⟩/\e<w0.heap.size/\∀j x,l[j]? =ak x->w0.cell? ⟨e,o+j,ar⟩=ak (bF x):=by
  obtain⟨a',cap,g,F,v,C,k⟩:=hv;cases g;obtain⟨b,o,cells,E,y,rfl,_,r,_⟩:=k 0 q;refine⟨b,o,Z,iR r,fun j x s=>?_⟩;obtain⟨h,f⟩:=List.getElem?_eq_some_iff.1 s;obtain⟨b',z,d,w,p,g,_,u,t⟩:=k j h;cases g;have i:iv 1 (mA (o+j*1) d.toList)=[bF l[j]]:=t;rw[mC]at i;have m:d.toList[o+j]? =ak (bF l[j]):=by
    have:=ZL (·[0]?) i;simpa[cf,cC]using this
  rw[<-f];simpa[eS,u]using m
theorem join_w(q:∀(a:Zs lj) (c:Nat) (b:ByteArray) (w:ao),bw P f #[.slice a 0 c,.string b] w fun e w'=>e=.returned (.string ⟨#[]⟩)/\w'=w)
    (u:∀(d o c:Nat) (xs:ZD ByteArray) (b:ByteArray) (w:ao),(∀(j:Nat) x,xs[j]? =ak x->w.cell? ⟨d,o+j,ar⟩=ak (.string x))->d<w.heap.size->xs.length<=140737488355328->xs.length<=c->(oR (xs.map (·.data.toList)) b.data.toList).length<=140737488355328->
      bw P f #[.slice (ak ⟨d,o,ar⟩) xs.length c,.string b] w fun e w'=>e=.returned (.string ⟨(oR (xs.map (·.data.toList)) b.data.toList).toArray⟩)/\Below w.heap.size w w')
    {v:al} {A B:BS} {l:ZD Str} {b r:Str} (hv:eO uZ w0 B A v l) (k:Zg l b=ak r):bw P f #[v,bF b] w0 (XS w0 (bF r)):=by
  obtain⟨h,k⟩:=bD k;cases k;have i:=hv;obtain⟨a,cap,rfl,k1,k2,z,C⟩:=hv;cases l with
  |nil=>
    refine(q a cap _ w0).mono ?_;rintro e w'⟨rfl,rfl⟩;exact⟨bL.refl _ _,Z⟩
  |cons x l=>
    obtain⟨d,o,rfl,p,n⟩:=rdStr_at i zq3;have m:((x::l).map fun s=>(⟨s.toArray⟩:ByteArray)).map (·.data.toList)=x::l:=by simp[Function.comp_def]
    have:=u d o cap ((x::l).map fun s=>⟨s.toArray⟩) ⟨b.toArray⟩ w0 (fun j y g=>by
      rw[ej]at g;cases hq:(x::l)[j]? with
      |none=>rw[hq]at g;cases g
      |some s=>rw[hq]at g;cases g;exact n j s hq) p (by simpa using h.1) (by simpa using k1) (by rw[m];simpa using h.2)
    rw[m,cH]at this;refine this.mono ?_;rintro e w'⟨rfl,t⟩;exact⟨Grow.of_below t,by simp[bF]⟩
theorem strs_rd{E:ba}{l:ZD ByteArray}{A:BS}{cells:Array al}{cap:Nat}(w:ao)(i:∀b,A b->b<w.heap.size)(c:l.length<=cap)(m:cap<=lo)(a:∀j (h:j<l.length),cells[j]? =ak (.string l[j])):dx uZ (w.alloc (.cells cells E)) A (.slice (ak ⟨w.heap.size,0,ar⟩) l.length cap) (l.map (·.data.toList)):=by
  refine⟨ak ⟨w.heap.size,0,ar⟩,cap,by simp,by simpa using c,m,(fun h=>by cases h),fun j g=>⟨w.heap.size,0,cells,E,(0,0),Z,?_,Ql w _,?_⟩⟩
  · intro k;exact Nat.lt_irrefl _ (i _ k)
  · have e:j<l.length:=by simpa using g
    show iv 1 (mA (0+j*1) cells.toList)=_;have f:=a j e;have d:j<cells.toList.length:=by
      rw[cx];rcases cI j cells.size with q|q
      · exact q
      · rw[ly q]at f;cases f
    rw[fa,mC,cS d];have:cells.toList[j]=.string l[j]:=by
      have:=f;rw[<-iP,bc d]at this;exact cQ this
    rw[this];simp[bF]
theorem split_w{E:ba}(i:∀(s a:ByteArray) (m:Int) (w:ao),s.size<4294967281->w.cell? ⟨g,0,ar⟩=ak (.int .i64 m)->1<=a.size->
  bw P f #[.string s,.string a] w fun e w'=>e=.returned (.slice (ak ⟨w.heap.size,0,ar⟩) (gj s a+1) (gj s a+1))/\w'=w.alloc (.cells ((rI a 0 (gj s a) s).map lO).toArray E))
  (o:∀b,M b->b<w0.heap.size) (p:qY P g w0) {s a:Str} {r:ZD Str} (c:RN s a=ak r):bw P f #[bF s,bF a] w0 (fun e w'=>Grow w0 w'/\∃u,e=.returned u/\dx uZ w' M u r):=by
 obtain⟨h,c⟩:=bD c;cases c;obtain⟨m,v⟩:=p.max;refine(i ⟨s.toArray⟩ ⟨a.toArray⟩ m w0 (by rw[wM];exact h.1) v (by rw[wM];exact h.2)).mono ?_;rintro e w'⟨rfl,rfl⟩;refine⟨Grow.alloc _ _,_,Z,?_⟩;have d:=Lib.splitB_all ⟨a.toArray⟩ (by rw[wM];exact h.2) 0 _ ⟨s.toArray⟩ Z;have k:=Lib.splitB_data ⟨a.toArray⟩ 0 (gj ⟨s.toArray⟩ ⟨a.toArray⟩) ⟨s.toArray⟩;have n:gj ⟨s.toArray⟩ ⟨a.toArray⟩=Lib.count s a:=by simp[gj]
 have q:=Lib.countB_le ⟨a.toArray⟩ (by rw[wM];exact h.2) _ ⟨s.toArray⟩ (bE _);rw[wM]at q;have:=strs_rd (E:=E) (l:=rI ⟨a.toArray⟩ 0 (gj ⟨s.toArray⟩ ⟨a.toArray⟩) ⟨s.toArray⟩) (cap:=gj ⟨s.toArray⟩ ⟨a.toArray⟩+1) (cells:=((rI ⟨a.toArray⟩ 0 (gj ⟨s.toArray⟩ ⟨a.toArray⟩) ⟨s.toArray⟩).map lO).toArray) w0 o (by rw[d];exact bE _) (by unfold lo;omega) (fun j t=>by simp[t]);rw[d,k]at this;simpa[sR,n]using this
theorem cut_w(c:∀(s a:ByteArray) (m:Int) (w:ao),s.size<4294967281->w.cell? ⟨g,0,ar⟩=ak (.int .i64 m)->bw P f #[.string s,.string a] w fun e w'=>e=.returned (.tuple #[.string ⟨(nk s.data.toList a.data.toList).1.toArray⟩,.string ⟨(nk s.data.toList a.data.toList).2.1.toArray⟩,.bool (nk s.data.toList a.data.toList).2.2])/\∃n,w'=w.drewN n)
  (d:qY P g w0) {s a:Str} {r:Str×Str×Ys} (b:cutS s a=ak r):bw P f #[bF s,bF a] w0 (XS w0 (.tuple #[bF r.1,bF r.2.1,.bool r.2.2])):=by
 obtain⟨h,b⟩:=bD b;cases b;obtain⟨m,i⟩:=d.max;refine(c ⟨s.toArray⟩ ⟨a.toArray⟩ m w0 (by rw[wM];exact h) i).mono ?_;rintro e w'⟨rfl,n,rfl⟩;exact⟨Grow.drewN _ _,by simp[bF]⟩
end
open Go.RowKit
section
variable{P:ca}{ops:Array ei}{Q:fl->Act->ao->Prop}{n:Nat}{env:Nat->al}{w w' w0:ao}{M K:BS}{hp:Nat->Chunk}{rest:ZD ei}
 {d:Zs Nat} {op:Op} {ty:ba} {pos:String} {af:Array hY} {v:al} {g:Zs (Nat×Ys)} {T:ba} {ρ:bo->al} {x y:bo} {i fuel:Nat} {listed:Array Ys}
theorem SH.mF{c:Chunk}(h:SH w0 M K w hp)(i:Nat)(d:hp i=c)(e:bL c.own' w w'):SH w0 M K w' (bY hp i .no):=
 h.step i e (fun b a _=>by rw[d];exact a) (fun b a=>a.elim) U
theorem SH.Dr{c e:Chunk}(h:SH w0 M K w hp)(i j:Nat)(a:i≠j)(g:hp i=c)(d:hp j=e)(f:bL (fun b=>c.own' b\/e.own' b) w w'):SH w0 M K w' (bY (bY (bY hp j .no) i (.two (hp i) (hp j))) i .no):=by
 refine(h.pair i j a).mF i (c:=.two (hp i)<|hp j) (bZ _ _ _) ?_;rw[g,d];exact f
theorem mo{zs:ZD al}(h:SH w0 M K w hp)(i:Nat)(a:xy P T zs)(k:∀w' b,SH w0 M K w' (bY hp i (.blk b zs))->Grow w w'->w.heap.size<=b->WL P ops Q rest n (gH env d (.pointer (ak ⟨b,0,ar⟩))) w'):WL P ops Q (⟨d,.alloc T,ty,pos,af,ar⟩::rest) n env w:=
 J (r_allocN a) (k _ _ (h.newB i zs T) (Grow.alloc _ _) (bE _))
theorem fH{z:al}{b o:Nat}{cs:ZD al}(h:SH w0 M K w hp)(i:Nat)(a:ZD al)(e:hp i=.blk b cs)(p:One P T z)(m:ev n env x=.pointer (ak ⟨b,o,ar⟩))(f:ev n env y=v)(ho:cs.set o v=a)(c:nv o cs.length=aT)(hv:v.oneCell'=aT)
  (k:∀w',SH w0 M K w' (bY hp i (.blk b a))->bL (fun x=>x=b) w w'->WL P ops Q rest n (gH env d gf) w'):
  WL P ops Q (⟨d,.store T x y,ty,pos,af,ar⟩::rest) n env w:=by
 obtain⟨E,l⟩:=h.A7 i e;have:=h.putB i e a E;subst ho;have j:=TM (d:=d) (ty:=ty) (pos:=pos) (af:=af) (g:=ar) p m l (by rw[ma]at c;simpa using c) f hv;refine BJ j<|k _ ?_<|bL.xz _ _ _;simpa using this
theorem mq{zs vs:ZD al}{b o:Nat}{cs:ZD al}(h:SH w0 M K w hp)(i:Nat)(a:ZD al)(e:hp i=.blk b cs)(m:xy P T zs)(l:ev n env x=.pointer (ak ⟨b,o,ar⟩))(f:ev n env y=.agg vs.toArray)(g:vs.length=zs.length)(ho:MU cs o vs=a)(j:lA (o+vs.length) cs.length=aT)(hv:∀v∈vs,v.oneCell'=aT)
  (k:∀w',SH w0 M K w' (bY hp i (.blk b a))->bL (fun x=>x=b) w w'->WL P ops Q rest n (gH env d gf) w'):
  WL P ops Q (⟨d,.store T x y,ty,pos,af,ar⟩::rest) n env w:=by
 obtain⟨E,c⟩:=h.A7 i e;subst ho;exact BJ (TN m l c f g (gE j) hv)<|k _ (h.putB i e _ E)<|bL.xz _ _ _
theorem mK{α:Type}{R:lT α}{E:ba}{j c:Nat}{u:al}{l m:ZD α}(h:SH w0 M K w hp)(i:Nat)(f:hp i=.own R E v l)(C:eO R w BE (SH.A M hp) u m)(z:kM P T E j c)(B:R.sz=j)(q:ev n env x=v)(r:ev n env y=u)
    (a:(l.length+m.length)*c<=140737488355328) (G:l.length+m.length<=9223372036854775807)
    (k:∀w' e,SH w0 M K w' (bY hp i (.own R E e (l++m)))->bL (ob v) w w'->(∀b,ob e b->b<w.heap.size->ob v b)->WL P ops Q rest n (gH env d e) w'):
    WL P ops Q (⟨d,.call {callee:=.builtin .append,args:= #[x,y],argTypes:= #[T,T]},ty,pos,af,ar⟩::rest) n env w:=by
  obtain⟨e,w',F,s,p,o⟩:=run_app (d:=d) (ty:=ty) (pos:=pos) (af:=af) (g:=ar) z B q (h.bI i f) r C (fun b a=>.inr ⟨i,by rw[f];exact a⟩) a G;refine J F (k w' e (h.step i p (fun b a _=>by rw[f];exact a) (fun b a t=>by rw[f];exact o b a t) ?_) p o);refine cK.go s (bL.refl BE w') (fun _ h=>h.elim) (fun _ h=>h.elim) fun b a _=>?_;rcases a with a|a|a
  · exact .inl<|.inl a
  · exact .inl<|.inr<|lU a
  · exact .inr a
theorem YU{E u:ba}{l s:Str}(h:SH w0 M K w hp)(i:Nat)(e:hp i=.own iN E v l)(r:kM P T E 1 1)(hz:One P E (.int .u8 0))(p:P.underlying u=ak .string)(q:ev n env x=v)(j:ev n env y=bF s)
  (o:(l.length+s.length)*1<=140737488355328) (z:l.length+s.length<=9223372036854775807)
  (k:∀w' a,SH w0 M K w' (bY hp i (.own iN E a (l++s)))->bL (ob v) w w'->(∀b,ob a b->b<w.heap.size->ob v b)->WL P ops Q rest n (gH env d a) w'):
  WL P ops Q (⟨d,.call {callee:=.builtin .append,args:= #[x,y],argTypes:= #[T,u]},ty,pos,af,ar⟩::rest) n env w:=by
 obtain⟨a,w',t,m,c,f⟩:=run_appS (d:=d) (ty:=ty) (pos:=pos) (af:=af) (g:=ar) r hz p q (h.giveO i e) j o z;exact J t<|k w' a (h.given i e m c f) c f
theorem gm{f:sy}{R:mb->ao->Prop}{u a:Tmp}{T:ba}{v2:al}{zs vs:ZD al}{b:Nat}(p:f.results= #[.cell a T,.tmp u])(g:ev n env (.tmp a)=.pointer (ak ⟨b,0,ar⟩))(j:ev n env (.tmp u)=v2)
  (m:SH w0 M K w hp) (i:Nat) (o:hp i=.blk b vs) (l:xy P T zs) (k:vs.length=zs.length) (h:R (.returned (.tuple #[.agg vs.toArray,v2])) w):jF P f R .ret (act n env) w:=by
 refine⟨Z,_,?_,h⟩;have d:=congrFun (gX n env)<|.tmp u;have c:=congrFun (gX n env)<|.tmp a;rw[j]at d;rw[g]at c;simp only[ik]at d c;rw[cV]at d c;have e:=Dq (P:=P) m o l k Z;unfold results;rw[p];simp[d,c,asAddr,e]
theorem TZ{g:sy}{R:mb->ao->Prop}{t u a:Tmp}{T:ba}{v2 v3:al}{zs vs:ZD al}{b:Nat}(r:g.results= #[.cell a T,.tmp t,.tmp u])(j:ev n env (.tmp a)=.pointer (ak ⟨b,0,ar⟩))(p:ev n env (.tmp t)=v2)(k:ev n env (.tmp u)=v3)
  (o:SH w0 M K w hp) (i:Nat) (q:hp i=.blk b vs) (m:xy P T zs) (l:vs.length=zs.length) (h:R (.returned (.tuple #[.agg vs.toArray,v2,v3])) w):jF P g R .ret (act n env) w:=by
 refine⟨Z,_,?_,h⟩;have c:=congrFun (gX n env)<|.tmp t;have e:=congrFun (gX n env)<|.tmp u;have d:=congrFun (gX n env)<|.tmp a;rw[p]at c;rw[k]at e;rw[j]at d;simp only[ik]at c e d;rw[cV]at c e d;have f:=Dq (P:=P) o q m l Z;unfold results;rw[r];simp[c,e,d,asAddr,f]
theorem fin3{e:sy}{R:mb->ao->Prop}{t u a:Tmp}{v1 v2 v3:al}(i:e.results= #[.tmp t,.tmp u,.tmp a])(j:ev n env (.tmp t)=v1)(g:ev n env (.tmp u)=v2)(f:ev n env (.tmp a)=v3)(h:R (.returned (.tuple #[v1,v2,v3])) w):jF P e R .ret (act n env) w:=by
 refine⟨Z,_,?_,h⟩;have b:=congrFun (gX n env)<|.tmp t;have d:=congrFun (gX n env)<|.tmp u;have c:=congrFun (gX n env)<|.tmp a;rw[j]at b;rw[g]at d;rw[f]at c;simp only[ik]at b d c;rw[cV]at b d c;unfold results;rw[i];simp[b,d,c]
theorem At.grow{b o:Nat}{cs:ZD al}(h:At w b o cs)(d:Grow w w'):At w' b o cs:=by
 obtain⟨cells,E,c,e,a⟩:=h;exact⟨cells,E,c,d.blk e,a⟩
theorem yF{ws w:ao}{v u:al}(hz:ws.heap.size<=w.heap.size)(hv:∀b,ob v b->ws.heap.size<=b)(hn:∀b,ob u b->b<w.heap.size->ob v b):∀b,ob u b->ws.heap.size<=b:=
 fun b c=>sx fun a=>Nat.not_lt_of_le (hv b (hn b c (cq a hz))) a
def EffOk(P:ca)(ops:Array ei)(Q1:Nat->fl->Act->ao->Prop)(n:Nat)(env:Nat->al)(w:ao)(i:Nat):Prop:=
 ∃d op ty pos af g,ops[i]? =ak ⟨d,op,ty,pos,af,g⟩/\cw ⟨d,op,ty,pos,af,g⟩ (eI ops (act n env).tmps)=aT/\WL P ops (Q1 i) [⟨d,op,ty,pos,af,ar⟩] n env w
theorem VI{Q1:Nat->fl->Act->ao->Prop}(i:Nat)(b:ops[i]? =ak ⟨d,op,ty,pos,af,g⟩)(a:cw ⟨d,op,ty,pos,af,g⟩ (eI ops (act n env).tmps)=aT)(h:WL P ops (Q1 i) [⟨d,op,ty,pos,af,ar⟩] n env w):EffOk P ops Q1 n env w i:=⟨_,_,_,_,_,_,b,a,h⟩
def EffAll(P:ca)(ops:Array ei)(Q1:Nat->fl->Act->ao->Prop)(n:Nat)(env:Nat->al)(w:ao):ZD Nat->Prop
 |[]=>True
 |i::r=>EffOk P ops Q1 n env w i/\EffAll P ops Q1 n env w r
theorem Zh{Q1:Nat->fl->Act->ao->Prop}:∀{l:ZD Nat},EffAll P ops Q1 n env w l->∀k∈l,EffOk P ops Q1 n env w k
  |i::r,⟨h1,h2⟩,k,hk=>by
    rcases bm.1 hk with rfl|hk
    · exact h1
    · exact Zh h2 k hk
theorem whk_effs{L:BS}{ws:ao}(l:ZD Nat)(j:cX .any ops listed=l)(a:l≠[])
  (h:EffAll P ops (fun i=>VG P ops L ws Q fuel (listed.setIfInBounds i aT)) n env w l):YT P ops L ws Q (fuel+1) listed n env w:=by
 refine⟨nP j a fun k e=>?_⟩;obtain⟨d,op,ty,pos,af,g,c,b,f⟩:=Zh h k e;exact IK c b f
end
open Go.RowKit Go.ChangeShapes
theorem returns_laid{c:Type}{enc:ba×al->c}{a:Assume}{C:Checked}{os:Os}{f:fY}{o:sy}{s:ChangeSpec}{l:ZD PathCond}{d fresh k again:Ys}{X:ao->Array al->Prop}
  (O:∀(w w':ao) (args:Array al),w.heap=w'.heap->X w args->X w' args)
  (own:ownKnob C.prog.godebug=ar) (p:os.Started) (q:C.prog.inits.idxOf? f=ar) (I:C.prog.funcs[f]? =ak o)
  (n:∃(w:ao) (g:Tape) (i:Input),w.os=os/\(w.forCall g i).Shaped C.prog/\i.vars=[]/\Input.okWide C.prog (w.forCall g i) .any w.heap.size f i/\
   ((s.pre enc C.prog o l d (w.forCall g i).memory i.args/\X (w.forCall g i).memory i.args)/\sizedMet enc C.prog o (OpenSpec.ofChange s) d (w.forCall g i).memory i.args)/\a.holds C.prog (lone (Frame.enter C.prog f i.args .normal) [] (w.forCall g i)))
  (m:∀(b:ao) (x:Nat) (args:Array al) (z A:ZD (DataW c)) (h:ZD pA),
   (∀(j:Nat) t v,o.params[j]? =ak t->args[j]? =ak v->Value.okWide C.prog b .any x t v)->
   DataW.Whole enc C.prog o.params.toList s.vars d b args.toList z A h->
   l.all (PathCond.test C.prog ⟨o.params.toList,z,s.plain.varTypes C.prog,A⟩)=aT->X b args->b.ShapedOpen C.prog->
   bw C.prog f args b fun e K=>∃v,e=.returned v/\s.post enc C.prog o d fresh k again b args v K):
  ReturnsInHanded a C os f .any (fun w args=>(s.pre enc C.prog o l d w args/\X w args)/\sizedMet enc C.prog o (OpenSpec.ofChange s) d w args) (s.post enc C.prog o d fresh k again):=by
 refine returnsInHanded_of_calls own p q n ?_;intro w g i _ G _ E u _;obtain⟨_,_,_,B,r,_,_,_,_,y⟩:=E;have e:B=o:=cQ<|r.symm.trans I;subst e;obtain⟨⟨⟨z,A,h,P,L⟩,N⟩,_⟩:=u;have F:=DataW.Whole.of_heap (w':=w.forCall g i) (by rfl) P;refine(m (w.forCall g i) w.heap.size i.args z A h y F L (O _ _ _ (by rfl) N) G).mono fun e K⟨v,M,hp⟩=>?_;subst M;exact ChangeSpec.post_blind hp
def laidIn(w:ao)(g:Nat)(a:Array al):World:=
 {w with heap:=w.heap.modify g fun| .cells _ t fz=>.cells a t fz|o=>o}
def tabCells:DataW Unit->Array al
 | .agg l=>(l.map fun| .lit (.int k z)=>dq k z|_=>Value.nilIface).toArray
 |_=> #[]
structure iW where
 safe:List UInt8
 wait:List UInt8
deriving DecidableEq
theorem puint_app(a:Nat)(c:UInt8):∀(l:Str),ft a (l++[c])=match ft a l with| .ok m=>ft m [c]|e=>e:=by
  intro l;induction l generalizing a with
  |nil=>simp[ft]
  |cons b r ih=>
    simp only[ew,ft];split
    · split
      · rfl
      · split
        · rfl
        · rw[ih];rfl
    · rfl
theorem Qr{k:Nat}(h:k<10):(UInt8.ofNat (48+k)).toNat=48+k:=by
 have:(48+k)%256=48+k:=Nat.mod_eq_of_lt V;simpa[UInt8.toNat_ofNat']using this
theorem puint_dec:∀(u:Nat),u<18446744073709551616->ft 0 (hX u)=.ok u:=by
  intro u;induction u using mj with
  |ind u ih=>
    intro b;rw[hX];split
    · rename_i h;simp only[ft];rw[Qr h,Z2 V,Z3 V,Z3 V];congr 1;omega
    · rename_i h;have a:u%10<10:=nh _ zq1;rw[puint_app,ih (u / 10) V V];simp only[ft];rw[Qr a,Z2 V,Z3 V,Z3 V];congr 1;omega
theorem dec_head:∀(u:Nat),∃c r,hX u=c::r/\48<=c.toNat/\c.toNat<=57:=by
  intro u;induction u using mj with
  |ind u ih=>
    rw[hX];split
    · rename_i h;exact⟨_,[],Z,by rw[Qr h];omega,by rw[Qr h];omega⟩
    · rename_i h;obtain⟨c,r,d,b,a⟩:=ih (u / 10) V;exact⟨c,r++[UInt8.ofNat (48+u%10)],by rw[d];rfl,b,a⟩
theorem dec_chars:∀(u:Nat),∀c∈hX u,48<=c.toNat/\c.toNat<=57:=by
  intro u;induction u using mj with
  |ind u ih=>
    rw[hX];split
    · rename_i h;intro c a;simp only[eR]at a;subst a;rw[Qr h];omega
    · rename_i h;have b:u%10<10:=nh _ zq1;intro c a;rcases cE.1 a with a|a
      · exact ih (u / 10) V c a
      · simp only[eR]at a;subst a;rw[Qr b];omega
theorem itoa_chars(n:Int):∀c∈dt n,45<=c.toNat/\c.toNat<=57:=by
  intro c a;unfold dt at a;split at a
  · rcases bm.1 a with rfl|a
    · decide
    · have:=dec_chars _ c a;omega
  · have:=dec_chars _ c a;omega
theorem itoa_free{n:Int}{c:UInt8}(h:c.toNat<45):c∉dt n:=fun a=>by have:=itoa_chars n c a;omega
theorem mag_dec{u:Nat}(h:u<18446744073709551616):Lib.parseMag (hX u)=.ok u:=by
 obtain⟨c,r,a,_,_⟩:=dec_head u;unfold Lib.parseMag;rw[Z3 (by rw[a];simp),puint_dec u h]
theorem atoi_itoa{n:Int}(h:kN n):ey (dt n)=.ok n:=by
  obtain⟨d,b⟩:=h;unfold dt;split
  · rename_i hn;unfold ey;simp only;rw[Z2 (.inr zq1),mag_dec V];simp only;rw[Z3 zq3,Z3 V];simp;omega
  · rename_i hn;obtain⟨c,r,e,a,f⟩:=dec_head n.toNat;rw[e];unfold ey;simp only;rw[Z3 V,<-e,mag_dec V];simp only;rw[Z3 V,Z3 V,Z3 V];congr 1;omega
def numOf(w:Str):Zs Int:=match ey w with| .ok v=>if dt v=w then ak v else ar|_=>ar
theorem numOf_itoa{n:Int}(h:kN n):numOf (dt n)=ak n:=by simp[numOf,atoi_itoa h]
theorem numOf_some{w:Str}{n:Int}(h:numOf w=ak n):w=dt n/\kN n:=by
  unfold numOf at h;cases e:ey w with
  |ok v=>
    rw[e]at h;simp only at h;split at h
    · rename_i a;cases h;have:=Lib.atoiAll_bounds e;exact⟨a.symm,this⟩
    · cases h
  |_=>rw[e]at h;cases h
theorem itoa_len{n:Int}(h:kN n):(dt n).length<=21:=Lib.itoa_length_le n h.1 h.2
def jP(c:UInt8):Str->ZD Str
 |[]=>[[]]
 |b::r=>if b=c then []::jP c r else match jP c r with|x::xs=>(b::x)::xs|[]=>[[b]]
theorem Im(c:UInt8):∀(s:Str),jP c s≠[]
  |[]=>by simp[jP]
  |b::r=>by
    unfold jP;split
    · simp
    · split<;>simp
theorem Ke{c:UInt8}:∀{x:Str},c∉x->jP c x=[x]
 |[],_=>rfl
 |b::r,h=>by
  have a:¬b=c:=fun e=>h (by rw[e];exact eV);rw[jP,Z3 a,Ke (x:=r) (fun e=>h (bl _ e))]
theorem Cf{c:UInt8}{r:Str}:∀{x:Str},c∉x->jP c (x++c::r)=x::jP c r
 |[],_=>by simp[jP]
 |b::x,h=>by
  have a:¬b=c:=fun e=>h (by rw[e];exact eV);rw[ew,jP,Z3 a,Cf (x:=x) (fun e=>h (bl _ e))]
theorem idx1(c:UInt8):∀(s:Str),(kl s [c]= -1/\c∉s)\/∃x r,s=x++c::r/\c∉x/\kl s [c]=x.length
  |[]=>by left;exact⟨by simp[kl],by simp⟩
  |b::l=>by
    by_cases h:b=c
    · subst h;right;exact⟨[],l,Z,by simp,by simp[kl,oa]⟩
    · have a:¬c=b:=fun e=>h e.symm;have hp:oa [c] (b::l)=false:=by simp[oa,a]
      rcases idx1 c l with⟨h1,h2⟩|⟨x,r,h1,h2,h3⟩
      · left;refine⟨by rw[kl,hp,h1];simp,?_⟩;simp[h2,a]
      · right;refine⟨b::x,r,by rw[h1];rfl,by simp[h2,a],?_⟩;have:¬(kl l [c]== -1)=true:=by rw[h3];simp
        rw[kl,hp,Z3 zq3,Z3 this,h3];simp
theorem splitK_C(c:UInt8):∀(k:Nat) (s:Str),Lib.count s [c]=k->Lib.splitK [c] 0 k s=jP c s:=by
  intro k;induction k with
  |zero=>
    intro s a;rcases idx1 c s with⟨h1,h2⟩|⟨x,r,h1,h2,h3⟩
    · rw[Ke h2];rfl
    · rw[Lib.count_hit zq3 h3]at a;omega
  |succ k ih=>
    intro s a;rcases idx1 c s with⟨h1,h2⟩|⟨x,r,h1,h2,h3⟩
    · rw[Lib.count_miss h1]at a;omega
    · have b:¬(kl s [c]== -1)=true:=by rw[h3];simp
      rw[Lib.count_hit zq3 h3]at a;have d:s.drop (x.length+[c].length)=r:=by rw[h1];simp
      rw[Lib.splitK,Z3 b,h3];simp only[Int.toNat_natCast,Nat.add_zero];rw[d]at a⊢;rw[ih r V,h1,Cf h2,kj]
theorem split_C(c:UInt8)(s:Str):sR s [c]=jP c s:=splitK_C c _ s Z
def wN(c:UInt8)(l:ZD Str):Str:=oR l [c]
theorem CB(c:UInt8)(x:Str):wN c [x]=x:=Lib.join_one x [c]
theorem zn(c:UInt8)(x y:Str)(l:ZD Str):wN c (x::y::l)=x++c::wN c (y::l):=by
 unfold wN;rw[Lib.join_cons,Lib.join_cons];simp[Lib.joinTail]
theorem CE(c:UInt8):∀(s:Str),wN c (jP c s)=s
  |[]=>CB c []
  |b::r=>by
    have a:=CE c r;unfold jP;split
    · rename_i h;subst h;cases e:jP b r with
      |nil=>exact ZJ e (Im b r)
      |cons y l=>rw[zn,<-e,a];rfl
    · split
      · rename_i x xs e;rw[e]at a;cases xs with
        |nil=>rw[CB]at a⊢;rw[a]
        |cons y l=>rw[zn]at a⊢;rw[ew,a]
      · rename_i e;exact ZJ e<|Im c r
theorem Yd(c:UInt8):∀(l:ZD Str),l≠[]->(∀x∈l,c∉x)->jP c (wN c l)=l
 |[],h,_=>ZJ Z h
 |[x],_,h=>by rw[CB];exact Ke (h x zq3)
 |x::y::l,_,h=>by
  rw[zn,Cf (h x zq3),Yd c (y::l) zq3 (fun z hz=>h z (bl _ hz))]
theorem M5(c:UInt8):∀(s:Str),(jP c s).length<=s.length+1
  |[]=>by simp[jP]
  |b::r=>by
    have a:=M5 c r;unfold jP;split
    · simp;omega
    · split
      · rename_i x xs e;rw[e]at a;simp at a⊢;omega
      · simp
theorem ES(c:UInt8):∀(s x:Str),x∈jP c s->x.length<=s.length/\c∉x
  |[],x,h=>by simp[jP]at h;subst h;simp
  |b::r,x,h=>by
    unfold jP at h;split at h
    · rcases bm.1 h with rfl|h
      · simp
      · have:=ES c r x h;exact⟨by simp;omega,this.2⟩
    · rename_i d;split at h
      · rename_i y f e;rcases bm.1 h with rfl|h
        · have:=ES c r y (by rw[e];exact eV);refine⟨by simp;exact this.1,?_⟩;intro a;rcases bm.1 a with a|a
          · exact d a.symm
          · exact this.2 a
        · have:=ES c r x (by rw[e];exact bl _ h);exact⟨by simp;omega,this.2⟩
      · rename_i e;exact ZJ e<|Im c r
theorem VJ(c:UInt8)(m:Nat):∀(l:ZD Str),(∀x∈l,x.length<=m)->(wN c l).length<=l.length*(m+1)
 |[],_=>by simp[wN,Lib.join_nil]
 |[x],h=>by rw[CB];have:=h x zq3;simp;omega
 |x::y::l,h=>by
  have b:=h x zq3;have a:=VJ c m (y::l) fun z hz=>h z<|bl _ hz;rw[zn,bj,bq,bq,Nat.succ_mul];omega
def Ye(c:UInt8)(s:Str):Zs (ZD Int):=(jP c s).mapM numOf
theorem mapM_num_of{l:ZD Int}(h:∀x∈l,kN x):(l.map dt).mapM numOf=ak l:=by
 induction l with
 |nil=>rfl
 |cons x l ih=>
  rw[cg,mL,numOf_itoa (h x zq3),ih (fun y a=>h y (bl _ a))];rfl
theorem KJ:∀{w:ZD Str} {l:ZD Int},w.mapM numOf=ak l->w=l.map dt/\∀x∈l,kN x
  |[],l,h=>by cases h;exact⟨Z,by simp⟩
  |x::w,l,h=>by
    rw[mL]at h;cases e:numOf x with
    |none=>rw[e]at h;cases h
    |some v=>
      rw[e]at h;cases e2:w.mapM numOf with
      |none=>rw[e2]at h;cases h
      |some m=>
        rw[e2]at h;cases h;obtain⟨d,c⟩:=KJ e2;obtain⟨b,f⟩:=numOf_some e;refine⟨by rw[cg,<-d,<-b],?_⟩;intro y a;rcases bm.1 a with rfl|a
        · exact f
        · exact c y a
theorem nums_join{c:UInt8}(d:c.toNat<45){l:ZD Int}(a:l≠[])(h:∀x∈l,kN x):Ye c (wN c (l.map dt))=ak l:=by
 unfold Ye;rw[Yd c _ (by simpa using a) (by intro x b;obtain⟨y,_,rfl⟩:=ec.1 b;exact itoa_free d)];exact mapM_num_of h
theorem join_nums{c:UInt8}{s:Str}{l:ZD Int}(h:Ye c s=ak l):s=wN c (l.map dt)/\(∀x∈l,kN x)/\l≠[]:=by
 obtain⟨a,b⟩:=KJ h;refine⟨by rw[<-a,CE],b,?_⟩;rintro rfl;exact Im c s a
theorem Zi{n:Int}(h:kN n):OL n=ak (dt n):=by unfold OL;rw[kz h]
theorem atoiS_eq{w:Str}(h:w.length<=281474976710656):Kc w=ak (match ey w with| .ok v=>(v,aq)| .range=>(qq w,aT)|_=>(0,aT)):=by unfold Kc;rw[kz h];all_goals (cases ey w<;>rfl)
theorem parseS_eq{w:Str}(h:w.length<=281474976710656):parseS w=ak (match ey w with| .ok v=>(v,aq)| .range=>(Lib.intSat 64 w,aT)|_=>(0,aT)):=by unfold parseS;rw[kz h,Lib.parseIntB_64];all_goals (cases ey w<;>rfl)
theorem splitS_eq{s:Str}(c:UInt8)(h:s.length<4294967281):RN s [c]=ak (jP c s):=by unfold RN;rw[kz ⟨h,bE _⟩,split_C]
theorem joinS_eq{l:ZD Str}(c:UInt8)(h:l.length<=140737488355328)(a:(wN c l).length<=140737488355328):Zg l [c]=ak (wN c l):=by unfold Zg;rw[kz ⟨h,a⟩];rfl
end Go.LX