/-
  What the law StoryOne needs of our own library and of the walks, no more.
-/
import Derived.WalkKit
import Derived.Laws.StructEq
import Derived.ChangeKeysEq
import Derived.StillTail
import Derived.LoopN
import Derived.Deep.Quiet
import Derived.OrdersHeld
import Derived.Deep.RegionHeld3
import Derived.Deep.Slices
import Derived.MapKept
import Derived.Lib.Bytealg
import Derived.ChangeArms
import Derived.Lib.AppendZeros
import Derived.Lib.Overlaps
import Derived.Laws.CopyRow
import Derived.Shelf.SlSortCmp.SmallK
import Derived.Laws.Pointers
import Derived.Laws.OwnMore
import Derived.Laws.Concat
import Derived.Laws.Strings2
import Derived.Laws.Strings3
import Derived.Laws.IdiomStrings
import Derived.Lib.AppendStr
import Derived.Lib.ConvBytes
import Derived.Lib.LaidTab
import Derived.Lib.ItoaNum
import Derived.WideLaws
import Derived.Lib.SplitLaws
import Derived.Lib.JoinLaws
import Derived.Lib.AtoiAll
import Derived.Lib.ParseIntB
import Derived.Laws.NewFold
import Derived.Lib.Join
import Derived.Lib.Strings
import Derived.Sort.Grow
import Derived.Lib.Space
import Derived.Handed
import Derived.LaidMore
import Derived.LaidHandle
import Derived.Stop.LaidErr
import Derived.Shelf.Vars
import Derived.WideShapes
import Derived.Lib.ParseIntBTie
import Derived.Lib.ItoaLen
import Derived.Lib.AtoiAllCases
open Array renaming ext'->lo,ext_getElem?->pH,foldl_toList->pN,getD_eq_getD_getElem?->cQ,getElem?_eq_getElem->oe,getElem?_eq_none->lh,getElem?_modify->fY,getElem?_setIfInBounds->nq,getElem?_toList->iv,length_toList->cr,range->lX,replicate->nj,toList_push->qq,toList_setIfInBounds->jy,toList_zipIdx->py
open Bool renaming eq_false_iff->kl,eq_iff_iff->et,false_eq_true->cM,true_and->mT,false->ao,true->ba
open ByteArray renaming ext->qs,mk->oc,size->lj
open Decidable renaming decide->ab
open Go renaming Addr->kA,Calls->bE,Edge->hO,Ending->mm,Exit->fg,Func->sd,FuncId->fR,MapEntry->sb,MemPlace->ph,NoPanic->pd,Oper->ee,Operand->bo,Program->cc,TypeId->aT,Value->al,World->aq,asIntOf->ie,binOp->kx,bodyPost->jj,builtin->iQ,eqGuard->gi,execOp->bl,getObj->kp,grownCap->gS,grownCap_le_maxLen->td,invoke->ju,loadVar->qG,maxLen->kO,newRow->qH,resolve->hH,run_convert_bytes_back->qT,run_equal_held_nil->tf,run_loadCells_list->ta,run_part_plain->fL,run_program->fy,run_storeCells_at->nF,run_underlying->pj,sizeOf->fp,size_zeroCells->la,typeInfo->dt,undef->fW,underlying->cA,wpAnyH->qQ,wpAnyH_all->nr,wpList->np,wpList_plain->qD,wpQuiet->pc,wp_region_still_tail->se,yielded->ez,zeroValue->jw
open Go.Act renaming eval->hX
open Go.Addr renaming add->hF
open Go.Builtin renaming append_->gA,copy_->rv,firstCells->mu,lenOf->nG,len_->sa,nextslicecap->ix,zeroCells->cy
open Go.Code renaming cond->oT,loop->rn,region->fS,rounds->pA
open Go.Exit renaming inBlock->ib
open Go.Instr renaming fill->jz,findKey->iA,findNow->sE,indexAt->sA,keyThatStays->jA,loadAt->oX,lookup->tc,mapUpdate->lr,sameBits->sg,sameNow->sL,slice->iS,sliceAt->iy,sliceBound->ew,sliceBounds->db,storeAt->sB,sureAddr->hY
open Go.Lib renaming TabIs->oi,atoiAll->ep,atoiSat->pR,bytesWorld->tg,countB->ga,cut->mW,decDigits->hJ,index->jE,itoa->dq,join->ov,parseUint10->fj,split->sl,splitB->ra,strCells->pk
open Go.Op renaming equalIn->oE,intCmp->mz
open Go.Oper renaming quietUpon->sC,wp->qE
open Go.Region renaming free->fa,lexTailB->qP,noSelect->eg,ready->cR,wanted->cq
open Go.Result renaming andThen_ok->bp,ok->qk
open Go.Sem renaming run->kf,run_bind->ct,run_ite->pP,run_pure->cY
open Go.Value renaming cells->pe,int->dk,oneCell'->eS,ownBlock->nB,string->lx
open Go.World renaming alloc->kd,alloc_eq->hZ,cell?->eM,cells?_some->qn,frozen?->ot,shape?->te
open Int renaming eq_ofNat_of_zero_le->bs,natCast_mul->sR,natCast_nonneg->hS
open List renaming append_assoc->ck,cons_append->eo,drop->mv,drop_append->iz,drop_append_of_le_length->fN,drop_drop->mb,drop_eq_getElem_cons->cP,drop_eq_nil_of_le->cC,drop_left'->sh,drop_set->tb,drop_take->eh,drop_zero->ke,eq_nil_of_length_eq_zero->cl,ext_getElem?->df,flatten_cons->km,getElem?_append->gw,getElem?_drop->cw,getElem?_eq_getElem->bc,getElem?_eq_none->bt,getElem?_map->ef,getElem?_set->eW,getElem?_take->cf,getElem_append_left->eL,getElem_append_right->fh,getElem_drop->mY,getElem_set_ne->mF,getElem_set_self->mc,getElem_take->kn,isPrefixOf->nv,length->eR,length_append->bk,length_cons->bw,length_drop->cL,length_map->cH,length_replicate->js,length_set->cm,length_take->ca,mapM_cons->mx,map_cons->cj,map_nil->en,map_toArray->fC,mem_append->cE,mem_cons->bn,mem_cons_of_mem->bj,mem_cons_self->eN,mem_map->dJ,mem_singleton->fc,nil_append->cD,not_mem_nil->de,replicate->cd,take->ia,take_append_of_le_length->cV,take_left->jB,take_of_length_le->ij,take_set->mA,take_take->ea,zipIdx_cons->rr
open Nat renaming add_assoc->jv,add_mul->cg,beq->ft,ble->ll,blt->nc,blt_eq->lA,div_lt_of_lt_mul->pL,eq_of_beq_eq_true->gh,le_max_left->sT,le_max_right->sk,le_mul_of_pos_right->lp,le_of_ble_eq_true->gn,le_of_eq->lE,le_of_not_lt->sc,le_refl->bq,le_trans->dw,lt_of_lt_of_le->cp,lt_or_ge->cF,lt_succ_self->sf,min->iB,min_eq_left->cO,mod_lt->mS,mul_comm->nd,mul_le_mul_right->bd,mul_one->mw,not_lt_zero->eK,one_mul->ns,strongRecOn->lO,sub_mul->nt,zero_add->fT,zero_le->fv,zero_mul->pf
open Option renaming bind_some->cJ,getD_some->eJ,map_some->da,none->aw,some->aj
open Option.some renaming inj->cN,injEq->eA
open Prod.mk renaming injEq->iu
namespace Go
theorem Z.{u} {α : Sort u} {a : α} : a = a := rfl
theorem U : True := trivial
theorem V {p : Prop} (h : p := by omega) : p := h
theorem zq1 {p : Prop} (h : p := by decide) : p := h
theorem zq2 {p : Prop} (h : p := by kernel_rfl) : p := h
theorem zq3 {p : Prop} (h : p := by simp) : p := h
end Go
set_option linter.unusedSimpArgs false
set_option linter.unusedVariables false
set_option maxRecDepth 10000
namespace Go.LX
open Go.RowKit
def act(n:Nat)(env:Nat->al):Act:={tmps:=Array.ofFn (n:=n) fun i=>env i.val,defers:=[]}
def upd(env:Nat->al)(d:Nat)(v:al):Nat->Value:=fun i=>bif ft i d then v else env i
def ev(n:Nat)(env:Nat->al):bo->al
 | .tmp t=>bif nc t n then env t else fW
 | .const v=>v
 | .global g=>.pointer (aj ⟨g,0,aw⟩)
 | .func f=>.func (.func f) #[] #[]
def gD(env:Nat->al):Option Nat->al->(Nat->al)
 |some d,v=>upd env d v
 |none,_=>env
theorem gY(n:Nat)(env:Nat->al):(act n env).eval=ev n env:=by
  funext x;cases x with
  |tmp t=>
    by_cases h:t<n
    · have a:nc t n=true:=by rw[lA];exact h
      simp[hX,act,ev,h,a]
    · have a:nc t n=false:=by rw[kl,ne_eq,lA];exact h
      simp[hX,act,ev,h,a]
  |_=>rfl
theorem Fq(n:Nat)(env:Nat->al)(d:Option Nat)(v:al):(act n env).put d v=act n (gD env d v):=by
  cases d with
  |none=>rfl
  |some d=>
    simp only[Act.put,act,gD,Act.mk.injEq,and_true];apply Array.ext
    · simp
    · intro i b f;simp at b;have e:i<(Array.ofFn (n:=n) fun i=>env i.val).size:=by simp;exact b
      rw[Array.getElem_setIfInBounds e];by_cases a:d=i
      · subst a;simp[upd,Nat.beq_refl]
      · have c:ft i d=false:=by rw[kl];intro h;exact a (gh h).symm
        simp[a,upd,c]
def U7(args:List al):Nat->Value:=fun i=>args.getD i fW
theorem act_init(n:Nat)(args:List al)(h:args.length<=n):({tmps:=args.toArray++nj (n-args.toArray.size) fW,defers:=[]}:Act)=act n (U7 args):=by
  simp only[act,Act.mk.injEq,and_true];apply Array.ext
  · simp;omega
  · intro i b c;simp[Array.getElem_append,U7,List.getD];by_cases a:i<args.length
    · simp[a]
    · simp[a]
structure WL(P:cc)(ops:Array ee)(Q:fg->Act->aq->Prop)(l:List ee)(n:Nat)(env:Nat->al)(w:aq):Prop where
 out:np P ops Q l (act n env) w
structure WC(P:cc)(c:Code)(Q:fg->Act->aq->Prop)(n:Nat)(env:Nat->al)(w:aq):Prop where
 out:c.wp P Q (act n env) w
section
variable{P:cc}{ops:Array ee}{Q:fg->Act->aq->Prop}{n:Nat}{env:Nat->al}{w w':aq}{rest:List ee}
 {d:Option Nat} {op:Op} {ty:aT} {pos:String} {af:Array hO} {v:al} {g:Option (Nat×Bool)}
theorem J(b:(bl (ev n env) ⟨d,op,ty,pos,af,aw⟩).run P w=.ok (.value v) w')(h:WL P ops Q rest n (gD env d v) w'):
  WL P ops Q (⟨d,op,ty,pos,af,aw⟩::rest) n env w:=by
 refine⟨qD Z fun K a=>?_⟩;unfold qE;rw[gY,b];show K _ _;rw[Fq];exact a _ _ h.out
theorem BF(b:(bl (ev n env) ⟨d,op,ty,pos,af,aw⟩).run P w=.ok .skip w')(h:WL P ops Q rest n (gD env d fW) w'):
  WL P ops Q (⟨d,op,ty,pos,af,aw⟩::rest) n env w:=by
 refine⟨qD Z fun K a=>?_⟩;unfold qE;rw[gY,b];show K _ _;rw[Fq];exact a _ _ h.out
theorem wl_enter{f:fR}{args:Array al}{R:mm->aq->Prop}(g:(bl (ev n env) ⟨d,op,ty,pos,af,aw⟩).run P w=.ok (.enter f args) w)(a:bE P f args w R)
  (h:∀e w',R e w'->∃v,e=.returned v/\WL P ops Q rest n (gD env d v) w'):
  WL P ops Q (⟨d,op,ty,pos,af,aw⟩::rest) n env w:=by
 refine⟨qD Z fun K b=>?_⟩;unfold qE;rw[gY,g];show bE P f args w _;refine a.mono fun e w' c=>?_;obtain⟨v,rfl,i⟩:=h e w' c;show K _ _;rw[Fq];exact b _ _ i.out
theorem MG{j dj:Nat}{b:Bool}(c:(ops[j]?).bind (·.dst)=aj dj)(d:ev n env (.tmp dj)=.bool b):ez ops (act n env).tmps j=aj b:=by
  unfold ez;have a:(act n env).eval (.tmp dj)=.bool b:=by rw[gY];exact d
  simp only[c,cJ];simp only[hX]at a;cases h2:(act n env).tmps[dj]? with
  |none=>simp[cQ,h2,fW]at a
  |some x=>simp[cQ,h2]at a;subst a;rfl
theorem Xw{j dj:Nat}{b:Bool}(g:(ops[j]?).bind (·.dst)=aj dj)(e:ev n env (.tmp dj)=.bool b)
    (h:WL P ops Q (⟨d,op,ty,pos,af,aw⟩::rest) n env w):WL P ops Q (⟨d,op,ty,pos,af,aj (j,b)⟩::rest) n env w:=by
  have c:=MG (ops:=ops) g e;have f:cq ⟨d,op,ty,pos,af,aj (j,b)⟩ (ez ops (act n env).tmps)=true:=by simp[cq,c]
  have a:cq ⟨d,op,ty,pos,af,aw⟩ (ez ops (act n env).tmps)=true:=rfl;obtain⟨h⟩:=h;refine⟨?_⟩;unfold np at h⊢;rw[if_pos a]at h;rw[if_pos f];exact h
theorem jS{j dj:Nat}{b b':Bool}(g:(ops[j]?).bind (·.dst)=aj dj)(e:ev n env (.tmp dj)=.bool b')(a:(b'==b)=ao)
    (h:WL P ops Q rest n (gD env d fW) w):WL P ops Q (⟨d,op,ty,pos,af,aj (j,b)⟩::rest) n env w:=by
  have c:=MG (ops:=ops) g e;have f:cq ⟨d,op,ty,pos,af,aj (j,b)⟩ (ez ops (act n env).tmps)=false:=by simpa[cq,c]using a
  refine⟨?_⟩;unfold np;rw[if_neg (by rw[f];decide),Fq];exact h.out
theorem ai(h:Q .normal (act n env) w):WL P ops Q [] n env w:=⟨h⟩
end
section
variable{P:cc}{Q:fg->Act->aq->Prop}{n:Nat}{env:Nat->al}{w:aq}{x y:Code}
theorem ay{id:Nat}{l:List ee}(h:WL P l.toArray Q l n env w):WC P (fS id l.toArray ao) Q n env w:=⟨wp_region_lit h.out⟩
theorem aA(h:WC P x (Exit.then (y.wp P Q) Q) n env w):WC P (Code.seq x y) Q n env w:=⟨wp_seq h.out⟩
theorem aG{id:Nat}(h:WC P x (ib id Q) n env w):WC P (Code.block id x) Q n env w:=⟨wp_block h.out⟩
theorem ax(h:Q .normal (act n env) w):WC P .skip Q n env w:=⟨wp_skip h⟩
theorem BV(h:Q .ret (act n env) w):WC P .ret Q n env w:=⟨wp_ret h⟩
theorem ik{id:Nat}(h:Q (.exit id) (act n env) w):WC P (.exit id) Q n env w:=⟨wp_exit h⟩
theorem ek{c:bo}{t:Bool}(a:ev n env c=.bool t)(b:t=ba->WC P x Q n env w)(d:t=ao->WC P y Q n env w):
 WC P (oT c x y) Q n env w:=⟨wp_cond_split (by rw[gY];exact a) (fun h=>(b h).out) (fun h=>(d h).out)⟩
theorem Re{c:bo}(a:ev n env c=.bool ba)(b:WC P x Q n env w):WC P (oT c x y) Q n env w:=⟨wp_cond_true (by rw[gY];exact a) b.out⟩
theorem wc_iff{c:bo}(a:ev n env c=.bool ao)(b:WC P y Q n env w):WC P (oT c x y) Q n env w:=⟨wp_cond_false (by rw[gY];exact a) b.out⟩
theorem aa{Q':fg->Act->aq->Prop}(h:WC P y Q n env w):Exit.then (y.wp P Q) Q' .normal (act n env) w:=h.out
def hav(mod:Nat->Bool)(b a:Nat->al):Nat->Value:=fun i=>bif mod i then b i else a i
def upds(e:Nat->al):List (Nat×al)->Nat->al
 |[]=>e
 |(i,v)::r=>upd (upds e r) i v
def Holds(e:Nat->al):List (Nat×al)->Prop
 |[]=>True
 |(i,v)::r=>e i=v/\Holds e r
def JS(mod:Nat->Bool)(e a:Nat->al):Prop:=∀i,mod i=ao->e i=a i
theorem JS.refl(mod:Nat->Bool)(e:Nat->al):JS mod e e:=fun _ _=>rfl
theorem JS.hav(mod:Nat->Bool)(j e:Nat->al):JS mod (hav mod j e) e:=fun i h=>by simp[LX.hav,h]
theorem JS.upd{mod:Nat->Bool}{e a:Nat->al}{d:Nat}{v:al}(f:mod d=ba)(h:JS mod e a):JS mod (upd e d v) a:=fun i b=>by
 have:i≠d:=fun e=>by rw[e,f]at b;exact Bool.noConfusion b
 have c:ft i d=false:=by rw[kl];intro h;exact this (gh h)
 simp[LX.upd,c,h i b]
theorem upd_self(e:Nat->al){i:Nat}{v:al}(h:e i=v):upd e i v=e:=by
  funext k;by_cases a:ft k i=ba
  · have:=gh a;subst this;simp[upd,h]
  · simp[upd,a]
theorem hav_self{mod:Nat->Bool}{e a:Nat->al}(h:JS mod e a):hav mod e a=e:=by
 funext i;cases hm:mod i with
 |true=>simp[hav,hm]
 |false=>simp[hav,hm,h i hm]
theorem U8{e:Nat->al}:∀(l:List (Nat×al)),Holds e l->upds e l=e
 |[],_=>rfl
 |(i,v)::r,h=>by
  show upd (upds e r) i v=e;rw[U8 r h.2];exact upd_self e h.1
theorem wc_loop{σ:Type}{c:Code}(mod:Nat->Bool)(live:σ->List (Nat×al))(J:σ->aq->Prop)(v:σ->Nat)(F:σ)
  (R:Holds env (live F)) (O:J F w)
  (i:∀s G L,J s G->WC P c (Exit.then (fun a' w'=>∃o u,a'=act n u/\JS mod u env/\Holds u (live o)/\J o w'/\v o<v s) Q) n (upds (hav mod L env) (live s)) G):
  WC P (rn c) Q n env w:=by
 refine⟨?_⟩;intro b k cs;have E:∀m s e w,v s=m->JS mod e env->Holds e (live s)->J s w->
   ∃p a' w',Q p a' w'/\Arrives P (lone (b.at (act n e) (.code c:: .inLoop c::k)) cs w) b k cs p a' w':=by
  intro m;induction m using lO with
  |_ m ih=>
   intro s e w N M S K;have I:=(i s w e K).out;have B:upds (hav mod e env) (live s)=e:=by rw[hav_self M];exact U8 _ S
   rw[B]at I;obtain⟨p,f,d,h,a⟩:=I b (.inLoop c::k) cs;cases p with
   |normal=>
    obtain⟨o,u,rfl,y,C,A,z⟩:=h;obtain⟨r,t,q,j,g⟩:=ih (v o) (N▸z) o u d Z y C A;exact⟨r,t,q,j,.of_steps (Steps.trans a<|.one step_inLoop) g⟩
   |exit id=>exact⟨_,f,d,h,.pass (x:=.inLoop c) Z (fun _ _=>.inl zq3) a⟩
   |goto l=>exact⟨_,f,d,h,.pass (x:=.inLoop c) Z (fun _ _=>.inl zq3) a⟩
   |ret=>exact⟨_,f,d,h,.pass (x:=.inLoop c) Z (fun _ _=>.inl zq3) a⟩
   |panic ch=>exact⟨_,f,d,h,.pass (x:=.inLoop c) Z (fun _ _=>.inl zq3) a⟩
   |outgrown=>exact⟨_,f,d,h,.pass (x:=.inLoop c) Z (fun _ _=>.inl zq3) a⟩
 obtain⟨p,a',w',h,a⟩:=E _ F env w Z (JS.refl _ _) R O;exact⟨p,a',w',h,.of_steps (.one step_loop) a⟩
end
open Go.RowKit
structure One(P:cc)(T:aT)(z:al):Prop where
 desc:∃d,P.underlying T=aj d/\(match d with| .struct _| .array _ _=>False|_=>True)
 info:(P.info? T).map (fun i=>(i.zero,i.size))=aj (aj z,1)
 cell:z.cells= #[z]
structure wH(P:cc)(T:aT)(zs:List al):Prop where
 desc:∃d,P.underlying T=aj d/\(match d with| .struct _| .array _ _=>True|_=>False)
 info:(P.info? T).map (fun i=>(i.zero,i.size))=aj (aj (.agg zs.toArray),zs.length)
structure SliceOf(P:cc)(T E:aT)(sz:Nat):Prop where
  desc:P.underlying T=aj (.slice E)
  info:(P.info? E).map (·.size)=aj sz
structure dR(P:cc)(T:aT)(k off:Nat):Prop where
  desc:∃fs f s,P.underlying T=aj (.struct fs)/\fs[k]? =aj f/\f.offset=off/\(P.info? f.type).map (·.size)=aj (s+1)
section
variable{P:cc}{w:aq}{ρ:bo->al}{d:Option Nat}{ty:aT}{pos:String}{af:Array hO}{g:Option (Nat×Bool)}
theorem bB{x:bo}{v:al}(a:ρ x=v):(bl ρ ⟨d,.move x,ty,pos,af,g⟩).run P w=.ok (.value v) w:=by subst a;rfl
theorem fw{x:bo}{v:al}(a:ρ x=v):(bl ρ ⟨d,.assign x,ty,pos,af,g⟩).run P w=.ok (.value v) w:=by subst a;rfl
theorem og{c x y:bo}{b:Bool}{v:al}(a:ρ c=.bool b)(e:(if b then ρ x else ρ y)=v):(bl ρ ⟨d,.pick c x y,ty,pos,af,g⟩).run P w=.ok (.value v) w:=by
 subst e;simp[bl,a,asBool]
theorem r_not{x:bo}{T:aT}{b:Bool}(a:ρ x=.bool b):(bl ρ ⟨d,.unOp .not T x,ty,pos,af,g⟩).run P w=.ok (.value (.bool !b)) w:=by
 simp[bl,a,Op.unary]
theorem wrap_in{x:Int}(b: -9223372036854775808<=x)(a:x<=9223372036854775807):IntKind.i64.wrap x=x:=IntWalk.i64_in x ⟨b,a⟩
theorem wI{x y:bo}{T T2:aT}{p q:Int}(a:ρ x=.int .i64 p)(b:ρ y=.int .i64 q):(bl ρ ⟨d,.binOp .lss T x y T2,ty,pos,af,g⟩).run P w=.ok (.value (.bool (ab (p<q)))) w:=by
 simp[bl,a,b,gi,kx,mz]
theorem Ti{x y:bo}{T T2:aT}{p q:Int}(a:ρ x=.int .i64 p)(b:ρ y=.int .i64 q):(bl ρ ⟨d,.binOp .leq T x y T2,ty,pos,af,g⟩).run P w=.ok (.value (.bool (ab (p<=q)))) w:=by
 simp[bl,a,b,gi,kx,mz]
theorem il{x y:bo}{T T2:aT}{p q:Int}(a:ρ x=.int .i64 p)(b:ρ y=.int .i64 q):(bl ρ ⟨d,.binOp .gtr T x y T2,ty,pos,af,g⟩).run P w=.ok (.value (.bool (ab (q<p)))) w:=by
 simp[bl,a,b,gi,kx,mz]
theorem lZ{x y:bo}{T T2:aT}{p q:Int}(a:ρ x=.int .i64 p)(b:ρ y=.int .i64 q):(bl ρ ⟨d,.binOp .geq T x y T2,ty,pos,af,g⟩).run P w=.ok (.value (.bool (ab (q<=p)))) w:=by
 simp[bl,a,b,gi,kx,mz]
theorem mg{x y:bo}{T T2:aT}{p q:Int}{k:IntKind}(a:ρ x=.int k p)(b:ρ y=.int k q):(bl ρ ⟨d,.binOp .eql T x y T2,ty,pos,af,g⟩).run P w=.ok (.value (.bool (ab (p=q)))) w:=by
 simp[bl,a,b,gi,kx,mz];rfl
theorem za{x y:bo}{T T2:aT}{p q:Int}{k:IntKind}(a:ρ x=.int k p)(b:ρ y=.int k q):(bl ρ ⟨d,.binOp .neq T x y T2,ty,pos,af,g⟩).run P w=.ok (.value (.bool (ab (p≠q)))) w:=by
 simp[bl,a,b,gi,kx,mz];rfl
theorem GL{x y:bo}{T T2:aT}{p q:Int}(a:ρ x=.int .i64 p)(b:ρ y=.int .i64 q)(h: -9223372036854775808<=p+q/\p+q<=9223372036854775807):
  (bl ρ ⟨d,.binOp .add T x y T2,ty,pos,af,g⟩).run P w=.ok (.value (.int .i64 (p+q))) w:=by
 simp[bl,a,b,gi,kx,Op.intArith,wrap_in h.1 h.2]
theorem mU{x y:bo}{T T2:aT}{p q:Int}(a:ρ x=.int .i64 p)(b:ρ y=.int .i64 q)(h: -9223372036854775808<=p-q/\p-q<=9223372036854775807):
  (bl ρ ⟨d,.binOp .sub T x y T2,ty,pos,af,g⟩).run P w=.ok (.value (.int .i64 (p-q))) w:=by
 simp[bl,a,b,gi,kx,Op.intArith,wrap_in h.1 h.2]
theorem qo{x:bo}{T E:aT}{e:Nat}{a:Option kA}{l c:Nat}(f:SliceOf P T E e)(b:ρ x=.slice a l c):
  (bl ρ ⟨d,.call {callee:=.builtin .len,args:= #[x],argTypes:= #[T]},ty,pos,af,g⟩).run P w=.ok (.value (.int .i64 l)) w:=by
 simp[bl,hH,ju,iQ,sa,b,cA,f.desc,goInt]
theorem r_load1{x:bo}{T:aT}{z v:al}{b o:Nat}{cs:Array al}{E:aT}{c:Nat×Nat}(h:One P T z)(j:ρ x=.pointer (aj ⟨b,o,aw⟩))(e:w.heap[b]? =aj (.cells cs E c))(f:cs[o]? =aj v):
  (bl ρ ⟨d,.load T x,ty,pos,af,g⟩).run P w=.ok (.value v) w:=by
 obtain⟨a,l,k⟩:=h.desc;have i:w.cell? ⟨b,o,aw⟩=aj v:=by simp[eM,e,f]
 cases a<;>simp_all[bl,oX,hY,qG,isAgg,cA]
end
open Go.RowKit
abbrev BS:=Nat->Prop
abbrev BE:BS:=fun _=>False
structure bL(K:BS)(w w':aq):Prop where
 os:w'.os=w.os
 tape:w'.tape=w.tape
 output:w'.output=w.output
 size:w.heap.size<=w'.heap.size
 block:∀b,¬K b->b<w.heap.size->w'.heap[b]? =w.heap[b]?
abbrev Grow(w w':aq):Prop:=bL BE w w'
theorem bL.refl(K:BS)(w:aq):bL K w w:=⟨rfl,rfl,rfl,bq _,fun _ _ _=>rfl⟩
theorem bL.step{K N:BS}{a b c:aq}(h:bL K a b)(k:bL N b c)(hN:∀x,N x->x<a.heap.size->K x):bL K a c:=
 ⟨k.os.trans h.os,k.tape.trans h.tape,k.output.trans h.output,dw h.size k.size,fun i e d=>(k.block i (fun hn=>e (hN i hn d)) (cp d h.size)).trans (h.block i e d)⟩
theorem bL.grow{K:BS}{a b c:aq}(h:bL K a b)(k:Grow b c):bL K a c:=h.step k (fun _ h=>h.elim)
theorem bL.weaken{K N:BS}{a b:aq}(h:bL K a b)(d:∀x,K x->x<a.heap.size->N x):bL N a b:=⟨h.os,h.tape,h.output,h.size,fun i e c=>h.block i (fun hn=>e (d i hn c)) c⟩
theorem Grow.keep{K:BS}{a b:aq}(h:Grow a b):bL K a b:=h.weaken (fun _ h=>h.elim)
theorem iT{w:aq}{b:Nat}{o:Obj}(a:w.heap[b]? =aj o):b<w.heap.size:=by
  rcases cF b w.heap.size with h1|h1
  · exact h1
  · rw[lh h1]at a;cases a
theorem bL.blk{K:BS}{w w':aq}(h:bL K w w'){b:Nat}{o:Obj}(a:w.heap[b]? =aj o)(c:¬K b):w'.heap[b]? =aj o:=by
 rw[h.block b c (iT a),a]
theorem Grow.blk{w w':aq}(h:Grow w w'){b:Nat}{o:Obj}(a:w.heap[b]? =aj o):w'.heap[b]? =aj o:=bL.blk h a (fun h=>h)
theorem Grow.below{w w':aq}(h:Grow w w'):Below w.heap.size w w':=⟨h.os,h.tape,h.output,h.size,fun k a=>h.block k (fun h=>h) a⟩
theorem Grow.of_below{w w':aq}(h:Below w.heap.size w w'):Grow w w':=⟨h.os,h.tape,h.output,h.size,fun k _ a=>h.block k a⟩
theorem Grow.alloc(w:aq)(o:Obj):Grow w (w.alloc o):=Grow.of_below ((Below.refl _ _).alloc (bq _) o)
theorem PX(w:aq)(o:Obj):(w.alloc o).heap[w.heap.size]? =aj o:=by show(w.heap.push o)[w.heap.size]? =aj o;simp
theorem alloc_size(w:aq)(o:Obj):(w.alloc o).heap.size=w.heap.size+1:=by show(w.heap.push o).size=_;simp
theorem Grow.drew(w:aq):Grow w w.drew:=⟨rfl,rfl,rfl,bq _,fun _ _ _=>rfl⟩
theorem Grow.trans{a b c:aq}(h:Grow a b)(k:Grow b c):Grow a c:=h.grow k
structure lD(α:Type)where
 sz:Nat
 rd:aq->BS->List al->α->Prop
 len:∀{w A cs x},rd w A cs x->cs.length=sz
 one:∀{w A cs x},rd w A cs x->∀u∈cs,u.oneCell'=ba
 pos:0<sz
 go:∀{w A cs x w' A' K},rd w A cs x->bL K w w'->(∀b,K b->b<w.heap.size->A b)->(∀b,A' b->b<w.heap.size->A b)->rd w' A' cs x
def eF{α:Type}(R:lD α)(w:aq)(B A:BS)(v:al)(l:List α):Prop:=
 ∃a cap,v=.slice a l.length cap/\l.length<=cap/\cap<=kO/\(a=aw->cap=0)/\
  ∀i (h:i<l.length),∃b o cells E c,a=aj ⟨b,o,aw⟩/\¬B b/\w.heap[b]? =aj (.cells cells E c)/\R.rd w A ((cells.toList.drop (o+i*R.sz)).take R.sz) l[i]
abbrev di{α:Type}(R:lD α)(w:aq)(A:BS)(v:al)(l:List α):Prop:=eF R w A A v l
theorem eF.go{α:Type}{R:lD α}{w w':aq}{B e A A' K:BS}{v:al}{l:List α}(h:eF R w B A v l)(f:bL K w w')(d:∀b,K b->b<w.heap.size->B b)(s:∀b,K b->b<w.heap.size->A b)(u:∀b,e b->b<w.heap.size->B b)(k:∀b,A' b->b<w.heap.size->A b):eF R w' e A' v l:=by
 obtain⟨a,cap,rfl,r,t,x,q⟩:=h;refine⟨a,cap,Z,r,t,x,fun i j=>?_⟩;obtain⟨b,o,cells,E,n,p,g,c,m⟩:=q i j;exact⟨b,o,cells,E,n,p,fun h=>g<|u b h<|iT c,f.blk c fun h=>g<|d b h<|iT c,R.go m f s k⟩
theorem eF.sub{α:Type}{R:lD α}{w:aq}{B a A A':BS}{v:al}{l:List α}(h:eF R w B A v l)(d:∀b,a b->b<w.heap.size->B b)(c:∀b,A' b->b<w.heap.size->A b):eF R w a A' v l:=
 h.go (bL.refl BE w) (fun _ h=>h.elim) (fun _ h=>h.elim) d c
theorem eF.src{α:Type}{R:lD α}{w:aq}{B A:BS}{v:al}{l:List α}(h:eF R w B A v l):eF R w BE A v l:=h.sub (fun _ h=>h.elim) (fun _ h _=>h)
theorem di.go{α:Type}{R:lD α}{w w':aq}{A A' K:BS}{v:al}{l:List α}(h:di R w A v l)(d:bL K w w')(a:∀b,K b->b<w.heap.size->A b)(c:∀b,A' b->b<w.heap.size->A b):di R w' A' v l:=
 eF.go h d a a c c
theorem eF.one{α:Type}{R:lD α}{w:aq}{B A:BS}{v:al}{l:List α}(h:eF R w B A v l):v.oneCell'=true:=by
 obtain⟨a,cap,rfl,_⟩:=h;rfl
theorem eF.nil{α:Type}{R:lD α}{w:aq}{B A:BS}:eF R w B A (.slice aw 0 0) ([]:List α):=⟨aw,0,rfl,bq _,by unfold kO;omega,fun _=>rfl,fun i a=>absurd a (eK _)⟩
theorem eF.bG{α:Type}{R:lD α}{w:aq}{B A:BS}{v:al}{l:List α}(h:eF R w B A v l):l.length<=9223372036854775807:=by
 obtain⟨a,cap,_,c,b,_⟩:=h;unfold kO at b;omega
def yJ{α:Type}(R:lD α):lD (List α) where
 sz:=1
 rd w A cs l:=∃v,cs=[v]/\di R w A v l
 len:=by rintro w A cs x ⟨v,rfl,_⟩;rfl
 one:=by
  rintro w A cs x⟨v,rfl,h⟩u hu;simp at hu;subst hu;exact h.one
 pos:=by decide
 go:=by
  rintro w A cs x w' A' K⟨v,rfl,h⟩hk hK hA;exact⟨v,Z,h.go hk hK hA⟩
def dh:lD Int where
 sz:=1
 rd _ _ cs x:=cs=[.int .i64 x]
 len:=by rintro w A cs x rfl;rfl
 one:=by rintro w A cs x rfl u hu;simp at hu;subst hu;rfl
 pos:=by decide
 go:=fun h _ _ _=>h
abbrev Str:=List UInt8
def bH(s:Str):Value:=.string ⟨s.toArray⟩
def vv:lD Str where
 sz:=1
 rd _ _ cs x:=cs=[bH x]
 len:=by rintro w A cs x rfl;rfl
 one:=by rintro w A cs x rfl u hu;simp at hu;subst hu;rfl
 pos:=by decide
 go:=fun h _ _ _=>h
def ob:al->Nat->Prop| .slice (aj a) _ _=>fun b=>b=a.block|_=>fun _=>False
theorem ob_row{v:al}{k:Nat}:ob v k↔v.ownBlock=aj k:=by
 cases v with
 |slice a l c=>cases a with
  |none=>simp[ob,nB]
  |some a=>simp[ob,nB];exact eq_comm
 |_=>simp[ob,nB]
def cu{α:Type}(R:lD α)(E:aT)(w:aq)(A:BS)(v:al)(l:List α):Prop:=
 ∃xs,w.ownsRow 0 E R.sz v l.length xs/\∀i (h:i<l.length),R.rd w (fun b=>A b\/ob v b) ((xs.drop (i*R.sz)).take R.sz) l[i]
theorem cu.nil{α:Type}{R:lD α}{E:aT}{w:aq}{A:BS}:cu R E w A (.slice aw 0 0) ([]:List α):=
 ⟨[],World.ownsRow_nil _ _ _ _,fun i h=>absurd h (eK _)⟩
theorem cu.lt{α:Type}{R:lD α}{E:aT}{w:aq}{A:BS}{v:al}{l:List α}(h:cu R E w A v l):∀k,ob v k->k<w.heap.size:=by
 obtain⟨xs,a,_⟩:=h;intro k b;exact(a.lt k<|ob_row.1 b).2
theorem cu.go{α:Type}{R:lD α}{E:aT}{w w':aq}{A A' K:BS}{v:al}{l:List α}(h:cu R E w A v l)(e:bL K w w')(m:∀b,K b->b<w.heap.size->A b)(d:∀b,K b->¬ob v b)(j:∀b,A' b->b<w.heap.size->A b\/ob v b):cu R E w' A' v l:=by
  obtain⟨xs,c,o⟩:=h;refine⟨xs,?_,fun i f=>R.go (o i f) e (fun b c n=>.inl<|m b c n) fun b a k=>?_⟩
  · refine⟨c.1,?_⟩;rcases c.2 with h|⟨g,cap,cur,rfl,e1,e2,e3⟩
    · exact .inl h
    · exact .inr ⟨g,cap,cur,Z,e1,e.blk e2 (fun h=>d g h (by simp[ob])),e3⟩
  · rcases a with a|a
    · exact j b a k
    · exact .inr a
theorem cu.one{α:Type}{R:lD α}{E:aT}{w:aq}{A:BS}{v:al}{l:List α}(h:cu R E w A v l):v.oneCell'=true:=by
 obtain⟨xs,a,_⟩:=h;rcases a.2 with⟨rfl,_⟩|⟨g,cap,cur,rfl,_⟩<;>rfl
theorem cu.rd{α:Type}{R:lD α}{E:aT}{w:aq}{A A':BS}{v:al}{l:List α}(h:cu R E w A v l)(f:∀b,ob v b->¬A' b)(d:∀b,A' b->b<w.heap.size->A b\/ob v b):di R w A' v l:=by
  obtain⟨xs,e,c⟩:=h;rcases e.2 with⟨rfl,hn⟩|⟨g,cap,cur,rfl,e1,e2,e3,e4,e5,e6⟩
  · have:l=[]:=cl hn;subst this;exact eF.nil
  · refine⟨aj ⟨g,0,aw⟩,cap,Z,e3,e4,(fun h=>by cases h),fun i a=>⟨g,0,cur,E,(0,0),Z,f g (by simp[ob]),e2,?_⟩⟩;have:=R.go (A':=A') (c i a) (bL.refl BE w) (fun _ h=>h.elim) d;rw[<-e6,eh,ea,cO ?_]at this
    · rw[fT];exact this
    · have:(i+1)*R.sz<=l.length*R.sz:=bd _ a;rw[cg]at this;omega
def MH(b:Array sb)(a:Nat):Prop:=(∀e∈b.toList,e.born<a)/\(b.toList.map (·.born)).Nodup
def JY(w:aq)(b:Nat)(jG:List (Int×al)):Prop:=
 ∃c a,w.heap[b]? =aj (.map c a)/\c.toList.map (fun e=>(e.key,e.val))=jG.map (fun p=>(dk .i64 p.1,p.2))/\MH c a
structure Pce where
 own:BS
 P:aq->BS->Prop
 lt:∀{w A b},P w A->own b->b<w.heap.size
 go:∀{w w' A A' K},P w A->bL K w w'->(∀b,K b->b<w.heap.size->A b)->(∀b,K b->¬own b)->(∀b,A' b->b<w.heap.size->A b\/own b)->P w' A'
inductive Chunk:Type 1 where
 |no
 |rd {α:Type} (R:lD α) (v:al) (l:List α)
 |sr {α:Type} (R:lD α) (v:al) (l:List α)
 |pt (b o:Nat) (cs:List al)
 |blk (b:Nat) (cs:List al)
 |own {α:Type} (R:lD α) (E:aT) (v:al) (l:List α)
 |mp (b:Nat) (jG:List (Int×al))
 |rp {α:Type} (R:lD α) (v:al) (x:α)
 |two (a b:Chunk)
 |eX (S:Pce)
def Chunk.own':Chunk->BS
 | .blk b _=>fun x=>x=b
 | .own _ _ v _=>ob v
 | .mp b _=>fun x=>x=b
 | .two a b=>fun x=>a.own' x\/b.own' x
 | .eX S=>S.own
 |_=>BE
def Chunk.holds(w:aq)(M O:BS):Chunk->Prop
 | .no=>True
 | .rd R v l=>di R w (fun b=>M b\/O b) v l
 | .sr R v l=>eF R w O (fun b=>M b\/O b) v l
 | .pt b o cs=>¬O b/\∃cells E c,w.heap[b]? =aj (.cells cells E c)/\(cells.toList.drop o).take cs.length=cs
 | .blk b cs=>∃E,w.heap[b]? =aj (.cells cs.toArray E (0,0))
 | .own R E v l=>cu R E w (fun b=>M b\/O b) v l
 | .mp b jG=>JY w b jG
 | .rp R v x=>R.rd w (fun b=>M b\/O b) [v] x
 | .two a b=>a.holds w M O/\b.holds w M O/\∀x,a.own' x->¬b.own' x
 | .eX S=>S.P w (fun b=>M b\/O b)
theorem Chunk.go{c:Chunk}{w w':aq}{M O n N:BS}(h:c.holds w M O)(g:bL N w w')(hN:∀b,N b->b<w.heap.size->O b)(f:∀b,N b->¬c.own' b)(j:∀b,n b->b<w.heap.size->M b\/O b)(i:∀b,n b->b<w.heap.size->O b):c.holds w' M n:=by
 induction c with
 |no=>trivial
 |rd R v l=>exact di.go h g (fun b d e=>.inr (hN b d e)) (fun b d e=>d.elim .inl (fun d=>j b d e))
 |sr R v l=>exact eF.go h g hN (fun b d e=>.inr (hN b d e)) i (fun b d e=>d.elim .inl (fun d=>j b d e))
 |pt b o cs=>
  obtain⟨p,cells,E,r,m,u⟩:=h;exact⟨fun h=>p<|i b h<|iT m,cells,E,r,g.blk m fun h=>p<|hN b h<|iT m,u⟩
 |blk b cs=>
  obtain⟨E,h⟩:=h;exact⟨E,g.blk h fun d=>f b d Z⟩
 |own R E v l=>exact cu.go h g (fun b d e=>.inr (hN b d e)) f (fun b d e=>.inl (d.elim .inl (fun d=>j b d e)))
 |rp R v x=>exact R.go h g (fun b d e=>.inr (hN b d e)) (fun b d e=>d.elim .inl (fun d=>j b d e))
 |two a b iha ihb=>exact⟨iha h.1 (fun x k q=>f x k (.inl q)),ihb h.2.1 (fun x k d=>f x k (.inr d)),h.2.2⟩
 |eX S=>exact S.go h g (fun b d e=>.inr (hN b d e)) f (fun b d e=>.inl (d.elim .inl (fun d=>j b d e)))
 |mp b jG=>
  obtain⟨s,c,h,t⟩:=h;exact⟨s,c,g.blk h fun d=>f b d Z,t⟩
theorem Chunk.sub{c:Chunk}{w:aq}{M O d:BS}(h:c.holds w M O)(a:∀b,d b->b<w.heap.size->O b):c.holds w M d:=
 Chunk.go h (bL.refl BE w) (fun _ h=>h.elim) (fun _ h=>h.elim) (fun b e f=>.inr (a b e f)) a
theorem Chunk.lt{c:Chunk}{w:aq}{M O:BS}(h:c.holds w M O):∀b,c.own' b->b<w.heap.size:=by
 intro b d;induction c with
 |no=>exact d.elim
 |rd=>exact d.elim
 |sr=>exact d.elim
 |pt=>exact d.elim
 |blk b' cs=>
  cases d;exact iT h.choose_spec
 |own R E v l=>exact cu.lt h b d
 |rp=>exact d.elim
 |two a c iha ihc=>exact d.elim (fun d=>iha h.1 d) (fun d=>ihc h.2.1 d)
 |eX S=>exact S.lt h d
 |mp b' jG=>
  cases d;obtain⟨_,_,h,_⟩:=h;exact iT h
def bV(hp:Nat->Chunk)(i:Nat)(c:Chunk):Nat->Chunk:=fun j=>bif ft j i then c else hp j
theorem bW(hp:Nat->Chunk)(i:Nat)(c:Chunk):bV hp i c i=c:=by simp[bV,Nat.beq_refl]
theorem dZ{hp:Nat->Chunk}{i j:Nat}{c:Chunk}(h:j≠i):bV hp i c j=hp j:=by
 have:ft j i=false:=by rw[kl];intro e;exact h (gh e)
 simp[bV,this]
def hno:Nat->Chunk:=fun _=>.no
def iU(hp:Nat->Chunk):BS:=fun b=>∃j,(hp j).own' b
structure SH(w0:aq)(M K:BS)(w:aq)(hp:Nat->Chunk):Prop where
 keep:bL K w0 w
 ltM:∀b,M b->b<w0.heap.size
 apM:∀i b,(hp i).own' b->¬M b
 ok:∀i,(hp i).holds w M (iU hp)
 apart:∀i j,i≠j->∀b,(hp i).own' b->¬(hp j).own' b
 old:∀i b,(hp i).own' b->b<w0.heap.size->K b
section
variable{w0 w w':aq}{M K:BS}{hp:Nat->Chunk}{i:Nat}{c:Chunk}
def rest(hp:Nat->Chunk)(i:Nat):BS:=fun b=>∃j,j≠i/\(hp j).own' b
theorem lF{hp:Nat->Chunk}{i b:Nat}(h:rest hp i b):iU hp b:=let ⟨j,_,h⟩:=h;⟨j,h⟩
abbrev SH.av(hp:Nat->Chunk)(i:Nat)(c:Chunk):BS:=fun b=>rest hp i b\/c.own' b
theorem SH.step{N:BS}(h:SH w0 M K w hp)(i:Nat)(r:bL N w w')(hN:∀b,N b->b<w.heap.size->(hp i).own' b)
    (ho:∀b,c.own' b->b<w.heap.size->(hp i).own' b) (t:c.holds w' M (SH.av hp i c)):SH w0 M K w' (bV hp i c):=by
  have u:∀b,M b->b<w.heap.size:=fun b a=>cp (h.ltM b a) h.keep.size;have m:∀b,iU (bV hp i c) b->rest hp i b\/c.own' b:=by
    rintro b⟨j,o⟩;by_cases e:j=i
    · subst e;rw[bW]at o;exact .inr o
    · rw[dZ e]at o;exact .inl ⟨j,e,o⟩
  have g:∀b,iU (bV hp i c) b->b<w.heap.size->iU hp b:=fun b a f=>(m b a).elim lF fun h=>⟨i,ho b h f⟩;refine⟨?_,h.ltM,?_,?_,?_,?_⟩
  · exact h.keep.step r (fun x q f=>by
      have n:=cp f h.keep.size;exact h.old i x (hN x q n) f)
  · intro j b a;by_cases e:j=i
    · subst e;rw[bW]at a;intro s;exact h.apM j b (ho b a<|u b s) s
    · rw[dZ e]at a;exact h.apM j b a
  · intro j;by_cases e:j=i
    · subst e;rw[bW];exact Chunk.sub t fun b a _=>m b a
    · rw[dZ e];have f:=h.ok j;refine Chunk.go f (r.weaken (N:=fun b=>N b/\b<w.heap.size) fun b a f=>⟨a,f⟩) ?_ ?_ ?_ ?_
      · intro b a n;exact⟨i,hN b a.1 n⟩
      · intro b a o;exact h.apart j i e b o<|hN b a.1 a.2
      · exact fun b a f=>.inr<|g b a f
      · exact g
  · intro j k l b a d;have lt:∀x,x≠i->(hp x).own' b->b<w.heap.size:=fun x _ q=>Chunk.lt (h.ok x) b q;by_cases e:j=i
    · subst e;have p:k≠j:=fun e=>l e.symm;rw[bW]at a;rw[dZ p]at d;exact h.apart j k l b (ho b a<|lt k p d) d
    · rw[dZ e]at a;by_cases p:k=i
      · subst p;rw[bW]at d;exact h.apart j k l b a<|ho b d<|lt j e a
      · rw[dZ p]at d;exact h.apart j k l b a d
  · intro j b a f;by_cases e:j=i
    · subst e;rw[bW]at a;exact h.old j b (ho b a<|cp f h.keep.size) f
    · rw[dZ e]at a;exact h.old j b a f
abbrev SH.A(M:BS)(hp:Nat->Chunk):BS:=fun b=>M b\/iU hp b
theorem SH.lt(h:SH w0 M K w hp):∀b,SH.A M hp b->b<w.heap.size:=by
  rintro b(a|⟨j,a⟩)
  · exact cp (h.ltM b a) h.keep.size
  · exact Chunk.lt (h.ok j) b a
theorem SH.learn(h:SH w0 M K w hp)(i:Nat)(e:Grow w w')(ho:∀b,c.own' b->w.heap.size<=b)(d:c.holds w' M (fun b=>iU hp b\/c.own' b)):SH w0 M K w' (bV hp i c):=
 h.step i e (fun _ h=>h.elim) (fun b a f=>absurd (ho b a) V) (Chunk.sub d (fun b a _=>a.imp lF id))
theorem SH.grow(h:SH w0 M K w hp)(c:Grow w w'):SH w0 M K w' hp:=
 ⟨h.keep.grow c,h.ltM,h.apM,fun i=>Chunk.go (h.ok i) c (fun _ h=>h.elim) (fun _ h=>h.elim) (fun b a _=>.inr a) (fun b a _=>a),h.apart,h.old⟩
theorem SH.know(h:SH w0 M K w hp)(i:Nat)(ho:∀b,¬c.own' b)(d:c.holds w M (iU hp)):SH w0 M K w (bV hp i c):=
 h.learn i (bL.refl BE w) (fun b a=>absurd a (ho b)) (Chunk.sub d (fun b a _=>a.elim id (fun a=>absurd a (ho b))))
theorem SH.freeze{α:Type}{R:lD α}{E:aT}{v:al}{l:List α}(h:SH w0 M K w hp)(i:Nat)(f:hp i=.own R E v l):SH w0 M K w (bV hp i (.rd R v l)):=by
  refine h.step i (bL.refl BE w) (fun _ h=>h.elim) (fun b a=>a.elim) ?_;have e:=h.ok i;rw[f]at e;refine cu.rd e (fun b a c=>?_) fun b a e=>?_
  · have d:(hp i).own' b:=by rw[f];exact a
    rcases c with c|⟨j,hj,c⟩|c
    · exact h.apM i b d c
    · exact h.apart j i hj b c d
    · exact c
  · rcases a with a|a|a
    · exact .inl<|.inl a
    · exact .inl<|.inr<|lF a
    · exact a.elim
def hset:List (Nat×Chunk)->Nat->Chunk
 |[]=>hno
 |(i,c)::r=>bV (hset r) i c
def HoldsC(hp:Nat->Chunk):List (Nat×Chunk)->Prop
 |[]=>True
 |(i,c)::r=>hp i=c/\HoldsC hp r
theorem hset_is{hp:Nat->Chunk}:∀{l:List (Nat×Chunk)},HoldsC hp l->∀j,hset l j=hp j\/hset l j=.no
  |[],_,_=>.inr Z
  |(i,c)::r,h,j=>by
    by_cases e:j=i
    · subst e;left;show bV _ _ _ _=_;rw[bW];exact h.1.symm
    · show bV _ _ _ _=_\/bV _ _ _ _=_;rw[dZ e];exact hset_is h.2 j
theorem SH.canon(h:SH w0 M K w hp)(l:List (Nat×Chunk))(k:HoldsC hp l):SH w0 M K w (hset l):=by
  have c:=hset_is k;have own:∀j b,(hset l j).own' b->(hp j).own' b:=by
    intro j b a;rcases c j with e|e
    · rw[e]at a;exact a
    · rw[e]at a;exact a.elim
  refine⟨h.keep,h.ltM,fun i b a=>h.apM i b<|own i b a,fun i=>?_,fun i j d b a f=>h.apart i j d b (own i b a)<|own j b f,fun i b a=>h.old i b<|own i b a⟩;rcases c i with e|e
  · rw[e];exact Chunk.sub (h.ok i) fun b⟨j,g⟩_=>⟨j,own j b g⟩
  · rw[e];trivial
theorem SH.init{w:aq}{M:BS}(a:∀b,M b->b<w.heap.size):SH w M BE w hno:=
 ⟨bL.refl _ _,a,fun _ _ h=>h.elim,fun _=>trivial,fun _ _ _ _ h=>h.elim,fun _ _ h=>h.elim⟩
theorem SH.wJ{α:Type}{R:lD α}{E:aT}{v:al}{l:List α}(h:SH w0 M K w hp)(i:Nat)(d:Grow w w')(ho:cu R E w' (SH.A M hp) v l)(a:∀b,ob v b->w.heap.size<=b):SH w0 M K w' (bV hp i (.own R E v l)):=
 h.learn i d a (cu.go ho (bL.refl BE w') (fun _ h=>h.elim) (fun _ h=>h.elim) (fun b c _=>c.elim (fun h=>.inl (.inl h)) (fun h=>h.elim (fun h=>.inl (.inr h)) .inr)))
theorem SH.AZ{α:Type}{R:lD α}{v:al}{l:List α}(h:SH w0 M K w hp)(i:Nat)(c:Grow w w')(ho:di R w' (SH.A M hp) v l):SH w0 M K w' (bV hp i (.rd R v l)):=
 h.learn i c (fun _ h=>h.elim) (di.go ho (bL.refl BE w') (fun _ h=>h.elim) (fun b a _=>a.elim .inl (fun h=>h.elim .inr (fun h=>h.elim))))
theorem SH.aK{α:Type}{R:lD α}{v:al}{l:List α}(h:SH w0 M K w hp)(i:Nat)(ho:di R w (SH.A M hp) v l):SH w0 M K w (bV hp i (.rd R v l)):=h.AZ i (bL.refl BE w) ho
theorem SH.Iw{α:Type}{R:lD α}{v:al}{l:List α}(h:SH w0 M K w hp)(i:Nat)(ho:di R w M v l)(hn:∀b,¬iU hp b):SH w0 M K w (bV hp i (.rd R v l)):=
 h.aK i (ho.go (bL.refl BE w) (fun _ h=>h.elim) (fun b a _=>a.elim id (fun h=>absurd h (hn b))))
theorem SH.dE{α:Type}{R:lD α}{v:al}{l:List α}(h:SH w0 M K w hp)(i:Nat)(ho:eF R w BE M v l)(hn:∀b,¬iU hp b):SH w0 M K w (bV hp i (.sr R v l)):=
 h.know i (fun _ h=>h) (ho.sub (fun b a _=>absurd a (hn b)) (fun b a _=>a.elim id (fun h=>absurd h (hn b))))
theorem SH.bC{α:Type}{R:lD α}{v:al}{l:List α}(h:SH w0 M K w hp)(i:Nat)(a:hp i=.rd R v l):di R w (SH.A M hp) v l:=by
 have:=h.ok i;rw[a]at this;exact this
theorem SH.srAt{α:Type}{R:lD α}{v:al}{l:List α}(h:SH w0 M K w hp)(i:Nat)(a:hp i=.sr R v l):eF R w (iU hp) (SH.A M hp) v l:=by
 have:=h.ok i;rw[a]at this;exact this
theorem SH.bJ{α:Type}{R:lD α}{E:aT}{v:al}{l:List α}(h:SH w0 M K w hp)(i:Nat)(a:hp i=.own R E v l):cu R E w (SH.A M hp) v l:=by
 have:=h.ok i;rw[a]at this;exact this
theorem SH.A7{b:Nat}{cs:List al}(h:SH w0 M K w hp)(i:Nat)(a:hp i=.blk b cs):∃E,w.heap[b]? =aj (.cells cs.toArray E (0,0)):=by
 have:=h.ok i;rw[a]at this;exact this
theorem SH.ptAt{b o:Nat}{cs:List al}(h:SH w0 M K w hp)(i:Nat)(a:hp i=.pt b o cs):∃cells E c,w.heap[b]? =aj (.cells cells E c)/\(cells.toList.drop o).take cs.length=cs:=by
 have:=h.ok i;rw[a]at this;exact this.2
theorem SH.mpAt{b:Nat}{a:List (Int×al)}(h:SH w0 M K w hp)(i:Nat)(c:hp i=.mp b a):JY w b a:=by
 have:=h.ok i;rw[c]at this;exact this
theorem SH.grown(h:SH w0 M BE w hp):Grow w0 w:=h.keep
theorem SH.fresh(h:SH w0 M BE w hp)(i:Nat):∀b,(hp i).own' b->w0.heap.size<=b:=fun b a=>sc (fun c=>h.old i b a c)
theorem SH.kT{α:Type}{R:lD α}{v:al}{l:List α}(h:SH w0 M K w hp)(i:Nat)(a:hp i=.rd R v l):eF R w BE (SH.A M hp) v l:=(h.bC i a).src
theorem SH.gm{α:Type}{R:lD α}{v:al}{l:List α}(h:SH w0 M K w hp)(i:Nat)(a:hp i=.sr R v l):eF R w BE (SH.A M hp) v l:=(h.srAt i a).src
theorem cu.src{α:Type}{R:lD α}{E:aT}{w:aq}{A:BS}{v:al}{l:List α}(h:cu R E w A v l):eF R w BE A v l:=by
  obtain⟨xs,d,e⟩:=h;rcases d.2 with⟨rfl,hn⟩|⟨g,cap,cur,rfl,e1,e2,e3,e4,e5,e6⟩
  · have:l=[]:=cl hn;subst this;exact eF.nil
  · refine⟨aj ⟨g,0,aw⟩,cap,Z,e3,e4,(fun h=>by cases h),fun i a=>⟨g,0,cur,E,(0,0),Z,fun h=>h,e2,?_⟩⟩;have:=R.go (A':=A) (e i a) (bL.refl BE w) (fun _ h=>h.elim) fun b c _=>.inl c;rw[<-e6,eh,ea,cO ?_]at this
    · rw[fT];exact this
    · have:(i+1)*R.sz<=l.length*R.sz:=bd _ a;rw[cg]at this;omega
theorem SH.dx{α:Type}{R:lD α}{E:aT}{v:al}{l:List α}(h:SH w0 M K w hp)(i:Nat)(a:hp i=.own R E v l):eF R w BE (SH.A M hp) v l:=(h.bJ i a).src
theorem aQ:∀b,¬iU hno b:=fun _⟨_,h⟩=>h
theorem xK{α:Type}{R:lD α}{v:al}{l:List α}{i:Nat}(h:∀b,¬iU hp b):∀b,¬iU (bV hp i (.rd R v l)) b:=by
  rintro b⟨j,a⟩;by_cases e:j=i
  · subst e;rw[bW]at a;exact a
  · rw[dZ e]at a;exact h b ⟨j,a⟩
theorem aU{α:Type}{R:lD α}{v:al}{l:List α}{i:Nat}(h:∀b,¬iU hp b):∀b,¬iU (bV hp i (.sr R v l)) b:=by
  rintro b⟨j,a⟩;by_cases e:j=i
  · subst e;rw[bW]at a;exact a
  · rw[dZ e]at a;exact h b ⟨j,a⟩
end
open Go.RowKit
def gv(c:Bool)(v:al):Value:=(bif c then [v]else []).headD fW
theorem eB{c:Bool}{v:al}(h:c=ba):gv c v=v:=by rw[h];rfl
theorem gl{a b:Bool}(h:(a&&b)=ba):a=true:=by cases a<;>simp_all
theorem gr{a b:Bool}(h:(a&&b)=ba):b=true:=by cases a<;>simp_all
structure kD(P:cc)(T E:aT)(sz bytes:Nat):Prop where
 desc:P.underlying T=aj (.slice E)
 info:∃i z,P.info? E=aj i/\i.zero=aj z/\i.size=sz/\i.bytes=bytes/\z.cells.size=sz
theorem Tj{P:cc}{T:aT}{z:Option al}{s:Nat}(h:(P.info? T).map (fun i=>(i.zero,i.size))=aj (z,s)):∃i,P.info? T=aj i/\i.zero=z/\i.size=s:=by
 cases hi:P.info? T with
 |none=>simp[hi]at h
 |some i=>simp[hi]at h;exact⟨i,Z,h.1,h.2⟩
def xH(w:aq)(b:Nat)(o:Obj):World:={w with heap:=w.heap.setIfInBounds b o}
theorem wK{w:aq}{b:Nat}{o:Obj}(h:b<w.heap.size):(xH w b o).heap[b]? =aj o:=by simp[xH,h]
theorem bL.xH(w:aq)(b:Nat)(o:Obj):bL (fun x=>x=b) w (xH w b o):=
 ⟨rfl,rfl,rfl,by simp[LX.xH],fun k a _=>by
  have:b≠k:=fun e=>a (by simp[e]);show(w.heap.setIfInBounds b o)[k]? =_;rw[Array.getElem?_setIfInBounds_ne this]⟩
theorem setCell_putb{w:aq}{b o:Nat}{cs:Array al}{E:aT}{e:Nat×Nat}{v:al}(c:w.heap[b]? =aj (.cells cs E e)):w.setCell ⟨b,o,aw⟩ v=xH w b (.cells (cs.setIfInBounds o v) E e):=by
  simp only[World.setCell,xH];congr 1;have a:=iT c;apply pH;intro i;simp only[fY,nq];by_cases d:b=i
  · subst d;rw[if_pos rfl,if_pos rfl,if_pos a,c];rfl
  · simp[d]
theorem JZ{w:aq}{b:Nat}{cs a:Array al}{E:aT}{f:Nat×Nat}(d:w.heap[b]? =aj (.cells cs E f)):w.setRow b a=xH w b (.cells a E f):=by
  simp only[World.setRow,xH];congr 1;have c:=iT d;apply pH;intro i;simp only[fY,nq];by_cases e:b=i
  · subst e;rw[if_pos rfl,if_pos rfl,if_pos c,d];rfl
  · simp[e]
def MF(cs:List al)(o:Nat)(vs:List al):List Value:=cs.take o++vs++cs.drop (o+vs.length)
def At(w:aq)(b o:Nat)(cs:List al):Prop:=∃cells E a,w.heap[b]? =aj (.cells cells E a)/\(cells.toList.drop o).take cs.length=cs
section
variable{P:cc}{ops:Array ee}{Q:fg->Act->aq->Prop}{n:Nat}{env:Nat->al}{w w' w0:aq}{M K:BS}{hp:Nat->Chunk}{rest:List ee}
 {d:Option Nat} {op:Op} {ty:aT} {pos:String} {af:Array hO} {v:al} {g:Option (Nat×Bool)} {T:aT} {ρ:bo->al} {x y:bo}
theorem kg{j dj:Nat}{b a:Bool}(c:Bool)(k:(ops[j]?).bind (·.dst)=aj dj)(i:ev n env (.tmp dj)=gv c (.bool b))
    (o:(c&&(b==a))=ba->(bl (ev n env) ⟨d,op,ty,pos,af,aw⟩).run P w=.ok (.value v) w) (h:WL P ops Q rest n (gD env d (gv (c&&(b==a)) v)) w):
    WL P ops Q (⟨d,op,ty,pos,af,aj (j,a)⟩::rest) n env w:=by
  by_cases e:(c&&(b==a))=ba
  · have m:=gl e;have g:=gr e;rw[eB m]at i;rw[eB e]at h;have q:b=a:=by simpa using g
    subst q;exact Xw k i<|J (o e) h
  · have f:(c&&(b==a))=false:=by simpa using e
    rw[f]at h;cases c with
    |true=>
      refine jS k i ?_ h;simpa using f
    |false=>
      have l:ev n env (.tmp dj)=undef:=i;have p:ez ops (act n env).tmps j=none:=by
        unfold ez;have g:(act n env).eval (.tmp dj)=undef:=by rw[gY];exact l
        simp only[k,cJ];simp only[hX]at g;cases h2:(act n env).tmps[dj]? with
        |none=>rfl
        |some x=>simp[cQ,h2]at g;subst g;rfl
      have r:cq ⟨d,op,ty,pos,af,aj (j,a)⟩ (ez ops (act n env).tmps)=false:=by simp[cq,p]
      refine⟨?_⟩;unfold np;rw[if_neg (by rw[r];decide),Fq];exact h.out
theorem aO{j dj:Nat}{b a:Bool}(e:(ops[j]?).bind (·.dst)=aj dj)(f:ev n env (.tmp dj)=.bool b)
    (c:(b==a)=ba->(bl (ev n env) ⟨d,op,ty,pos,af,aw⟩).run P w=.ok (.value v) w) (h:WL P ops Q rest n (gD env d (gv (b==a) v)) w):
    WL P ops Q (⟨d,op,ty,pos,af,aj (j,a)⟩::rest) n env w:=
  kg ba e f (fun h=>c (by simpa using h)) (by simpa using h)
theorem fq{c a:bo}{b p:Bool}(e:ρ c=.bool b)(h:ρ a=gv (b==ao) (.bool p))(f:∀v,ρ (.const v)=v):(bl ρ ⟨d,.pick c (.const (.bool ba)) a,ty,pos,af,g⟩).run P w=.ok (.value (.bool (b||p))) w:=by
 cases b<;>simp_all[bl,asBool,gv]
theorem gK{c a:bo}{b p:Bool}(e:ρ c=.bool b)(h:ρ a=gv (b==ba) (.bool p))(f:∀v,ρ (.const v)=v):(bl ρ ⟨d,.pick c a (.const (.bool ao)),ty,pos,af,g⟩).run P w=.ok (.value (.bool (b&&p))) w:=by
 cases b<;>simp_all[bl,asBool,gv]
theorem kX{n:Nat}{env:Nat->al}:∀v,ev n env (.const v)=v:=fun _=>rfl
theorem gF{T:aT}{b:Bool}(a:ρ x=.bool b):(bl ρ ⟨d,.unOp .not T x,ty,pos,af,g⟩).run P w=.ok (.value (.bool !b)) w:=r_not a
theorem r_neqb{T2:aT}{p q:Bool}(c:P.underlying T=aj .bool)(a:ρ x=.bool p)(b:ρ y=.bool q):(bl ρ ⟨d,.binOp .neq T x y T2,ty,pos,af,g⟩).run P w=.ok (.value (.bool (p !=q))) w:=by
 simp[bl,a,b,gi,kx,run_equal_bool w T p q c,bne]
theorem bZ{z:al}{b o:Nat}{cs:List al}(h:SH w0 M K w hp)(i:Nat)(f:hp i=.blk b cs)(j:One P T z)(a:ρ x=.pointer (aj ⟨b,o,aw⟩))(e:cs[o]? =aj v):
 (bl ρ ⟨d,.load T x,ty,pos,af,g⟩).run P w=.ok (.value v) w:=let ⟨_,c⟩:=h.A7 i f;r_load1 j a c (by simpa using e)
theorem r_loadN{zs vs:List al}{b o:Nat}{cells:Array al}{E:aT}{p:Nat×Nat}(k:wH P T zs)(u:ρ x=.pointer (aj ⟨b,o,aw⟩))(l:w.heap[b]? =aj (.cells cells E p))(z:(cells.toList.drop o).take zs.length=vs)(q:vs.length=zs.length):
    (bl ρ ⟨d,.load T x,ty,pos,af,g⟩).run P w=.ok (.value (.agg vs.toArray)) w:=by
  obtain⟨i,m,hz,t⟩:=Tj k.info;obtain⟨y,r,n⟩:=k.desc;have s:∀j v,vs[j]? =aj v->w.cell? ((⟨b,o,aw⟩:kA).add j)=aj v:=by
    intro j v a;have c:j<zs.length:=by
      rcases cF j vs.length with h|h
      · omega
      · rw[bt h]at a;cases a
    rw[<-z,cf,if_pos c,cw]at a;by_cases e:j=0
    · subst e;simpa[hF,eM,l]using a
    · simpa[hF,eM,l,e]using a
  have f:=ta (P:=P) (w:=w) ⟨b,o,aw⟩ vs s;rw[q]at f;cases y<;>simp at n<;>simp[bl,oX,u,hY,qG,isAgg,cA,r,fp,dt,m,t,f]
theorem yR{zs vs:List al}{b o:Nat}{cs:List al}(h:SH w0 M K w hp)(i:Nat)(f:hp i=.blk b cs)(k:wH P T zs)(a:ρ x=.pointer (aj ⟨b,o,aw⟩))(e:(cs.drop o).take zs.length=vs)(j:vs.length=zs.length):
 (bl ρ ⟨d,.load T x,ty,pos,af,g⟩).run P w=.ok (.value (.agg vs.toArray)) w:=let ⟨_,c⟩:=h.A7 i f;r_loadN k a c (by simpa using e) j
theorem kY{z:al}{b o k:Nat}{cs:List al}(h:At w b o cs)(l:One P T z)(f:ρ x=.pointer (aj ⟨b,o+k,aw⟩))(a:cs[k]? =aj v):
    (bl ρ ⟨d,.load T x,ty,pos,af,g⟩).run P w=.ok (.value v) w:=by
  obtain⟨cells,E,m,i,e⟩:=h;refine r_load1 l f i ?_;have j:k<cs.length:=by
    rcases cF k cs.length with h1|h1
    · exact h1
    · rw[bt h1]at a;cases a
  have c:((cells.toList.drop o).take cs.length)[k]? =aj v:=by rw[e];exact a
  rw[cf,if_pos j,cw]at c;simpa using c
theorem drop_take_add{α:Type}{l:List α}{o k m s:Nat}{cs:List α}(h:(l.drop o).take s=cs)(a:k+m<=s):(l.drop (o+k)).take m=(cs.drop k).take m:=by
 rw[<-h,eh,ea,mb,cO V]
theorem kP{zs vs:List al}{b o k:Nat}{cs:List al}(h:At w b o cs)(l:wH P T zs)(c:ρ x=.pointer (aj ⟨b,o+k,aw⟩))(f:(cs.drop k).take zs.length=vs)(i:vs.length=zs.length)(j:k+zs.length<=cs.length):
  (bl ρ ⟨d,.load T x,ty,pos,af,g⟩).run P w=.ok (.value (.agg vs.toArray)) w:=by
 obtain⟨cells,E,m,e,a⟩:=h;exact r_loadN l c e (by rw[drop_take_add a j];exact f) i
theorem gu{z:al}{b o k:Nat}{cs:List al}(h:SH w0 M K w hp)(i:Nat)(e:hp i=.pt b o cs)(f:One P T z)(a:ρ x=.pointer (aj ⟨b,o+k,aw⟩))(c:cs[k]? =aj v):
 (bl ρ ⟨d,.load T x,ty,pos,af,g⟩).run P w=.ok (.value v) w:=kY (h.ptAt i e) f a c
theorem MI{zs vs:List al}{b o k:Nat}{cs:List al}(h:SH w0 M K w hp)(i:Nat)(e:hp i=.pt b o cs)(l:wH P T zs)(a:ρ x=.pointer (aj ⟨b,o+k,aw⟩))(c:(cs.drop k).take zs.length=vs)(f:vs.length=zs.length)(j:k+zs.length<=cs.length):
 (bl ρ ⟨d,.load T x,ty,pos,af,g⟩).run P w=.ok (.value (.agg vs.toArray)) w:=kP (h.ptAt i e) l a c f j
theorem aM{b o k off:Nat}(n:dR P T k off)(h:ρ x=.pointer (aj ⟨b,o,aw⟩)):
  (bl ρ ⟨d,.fieldAddr T x k,ty,pos,af,g⟩).run P w=.ok (.value (.pointer (aj ⟨b,o+off,aw⟩))) w:=by
 obtain⟨q,f,s,j,l,p,c⟩:=n.desc;obtain⟨i,a,e⟩:∃i,P.info? f.type=aj i/\i.size=s+1:=by
  cases a:P.info? f.type with
  |none=>simp[a]at c
  |some i=>simp[a]at c;exact⟨i,Z,c⟩
 by_cases m:off=0<;>simp[bl,Instr.fieldAt,cA,j,l,h,hY,fieldPlace,fp,dt,a,e,p,hF,m]
theorem aR{a:kA}(b:ρ x=.pointer (aj a)):(bl ρ ⟨d,.nilCheck x,ty,pos,af,g⟩).run P w=.ok (.value (.pointer (aj a))) w:=by
 simp[bl,b]
theorem fV{α:Type}{R:lD α}{E:aT}{e:Nat}{B A:BS}{l:List α}{b:aq}(h:SliceOf P T E e)(c:ρ x=v)(f:eF R b B A v l):
  (bl ρ ⟨d,.call {callee:=.builtin .len,args:= #[x],argTypes:= #[T]},ty,pos,af,g⟩).run P w=.ok (.value (.int .i64 l.length)) w:=by
 obtain⟨a,cap,rfl,_⟩:=f;exact qo h c
theorem Kw{s:Str}(a:P.underlying T=aj .string)(c:ρ x=bH s):
  (bl ρ ⟨d,.call {callee:=.builtin .len,args:= #[x],argTypes:= #[T]},ty,pos,af,g⟩).run P w=.ok (.value (.int .i64 s.length)) w:=by
 have b:(⟨s.toArray⟩:ByteArray).size=s.length:=by simp[lj]
 simp[bl,hH,ju,iQ,sa,c,bH,cA,a,goInt,b]
theorem r_ix{α:Type}{R:lD α}{E:aT}{B A:BS}{l:List α}{k:Int}{a:α}{q:aq}(r:SliceOf P T E R.sz)(L:eF R q B A v l)(j:0<=k)(f:l[k.toNat]? =aj a):
    ∃b o cs,(∀(ρ:bo->al) x y w d ty pos af g,ρ x=v->ρ y=.int .i64 k->(bl ρ ⟨d,.indexAddr T x y,ty,pos,af,g⟩).run P w=.ok (.value (.pointer (aj ⟨b,o,aw⟩))) w)/\¬B b/\At q b o cs/\R.rd q A cs a:=by
  have c:k.toNat<l.length:=by
    rcases cF k.toNat l.length with h|h
    · exact h
    · rw[bt h]at f;cases f
  obtain⟨a',cap,rfl,M,N,O,z⟩:=L;obtain⟨b,o,cells,F,t,rfl,K,I,m⟩:=z k.toNat c;obtain⟨i,e,C⟩:∃i,P.info? E=aj i/\i.size=R.sz:=by
    have:=r.info;cases e:P.info? E with
    |none=>simp[e]at this
    |some i=>simp[e]at this;exact⟨i,Z,this⟩
  have n:l[k.toNat]=a:=by rw[bc c]at f;exact cN f
  rw[n]at m;refine⟨b,o+k.toNat*R.sz,_,?_,K,⟨cells,F,t,I,by rw[R.len m]⟩,m⟩;intro ρ x y w d ty pos af g G u;simp only[bl,sA,G,u,ie,cA,fp,dt];have s:(⟨b,o,aw⟩:kA).add (k.toNat*R.sz)=⟨b,o+k.toNat*R.sz,aw⟩:=by
    unfold hF;split
    · next hz=>rw[hz];rfl
    · rfl
  have p:k<(l.length:Int):=by omega
  simp[r.desc,e,C,j,p,s]
theorem SH.pt(h:SH w0 M K w hp)(i:Nat){b o:Nat}{cs:List al}(c:¬iU hp b)(a:At w b o cs):SH w0 M K w (bV hp i (.pt b o cs)):=
 h.know i (fun _ h=>h) ⟨c,a⟩
theorem allOwn_up{i:Nat}{c:Chunk}(d:∀b,¬c.own' b):∀b,iU (bV hp i c) b->iU hp b:=by
  rintro b⟨j,a⟩;by_cases e:j=i
  · subst e;rw[bW]at a;exact absurd a (d b)
  · rw[dZ e]at a;exact⟨j,a⟩
theorem eF.up{α:Type}{R:lD α}{l:List α}{i:Nat}{c:Chunk}(h:di R w (SH.A M hp) v l)(d:∀b,¬c.own' b:=by exact fun _ h=>h):di R w (SH.A M (bV hp i c)) v l:=
 h.sub (fun b a _=>a.imp id (allOwn_up d b)) (fun b a _=>a.imp id (allOwn_up d b))
abbrev IxOk(P:cc)(T:aT)(v:al)(k:Int)(p:al):Prop:=∀(ρ:bo->al) x y w d ty pos af g,ρ x=v->ρ y=.int .i64 k->(bl ρ ⟨d,.indexAddr T x y,ty,pos,af,g⟩).run P w=.ok (.value p) w
theorem SH.JU{α:Type}{R:lD α}{E:aT}{d:Nat}{l:List α}{k:Int}{a:α}(h:SH w0 M K w hp)(i j:Nat)(e:hp i=.rd R v l)(g:SliceOf P T E d)(m:R.sz=d)(c:0<=k)(p:l[k.toNat]? =aj a):
  ∃b o cs,SH w0 M K w (bV hp j (.pt b o cs))/\R.rd w (SH.A M hp) cs a/\IxOk P T v k (.pointer (aj ⟨b,o,aw⟩)):=by
 subst m;obtain⟨b,o,cs,q,r,s,f⟩:=r_ix g (h.bC i e) c p;exact⟨b,o,cs,h.pt j (fun n=>r<|.inr n) s,f,q⟩
theorem SH.C8{α:Type}{R:lD α}{E:aT}{d:Nat}{l:List α}{k:Int}{a:α}(h:SH w0 M K w hp)(i j:Nat)(e:hp i=.sr R v l)(g:SliceOf P T E d)(m:R.sz=d)(c:0<=k)(n:l[k.toNat]? =aj a):
  ∃b o cs,SH w0 M K w (bV hp j (.pt b o cs))/\R.rd w (SH.A M hp) cs a/\IxOk P T v k (.pointer (aj ⟨b,o,aw⟩)):=by
 subst m;obtain⟨b,o,cs,p,q,r,f⟩:=r_ix g (h.srAt i e) c n;exact⟨b,o,cs,h.pt j q r,f,p⟩
def QU(o:Option al)(a:Int)(other:Nat):Prop:=(o=aw/\a=other)\/o=aj (.int .i64 a)
def cut{α:Type}(l:List α)(a b:Int):List α:=(l.take b.toNat).drop a.toNat
theorem r_slv{α:Type}{R:lD α}{E:aT}{a b:Int}{B A:BS}{l:List α}{M:aq}(S:SliceOf P T E R.sz)(hv:eF R M B A v l)(ha:0<=a)(m:a<=b)(X:b<=l.length):
    ∃u,(∀(ρ:bo->al) x (s h:Option bo) w d ty pos af g,ρ x=v->QU (s.map ρ) a 0->QU (h.map ρ) b l.length->(bl ρ ⟨d,.slice T x s h aw,ty,pos,af,g⟩).run P w=.ok (.value u) w)/\eF R M B A u (cut l a b)/\(∀(p:aq) (q n:BS) (f:List α),eF R p q n v f->f.length=l.length->eF R p q n u (cut f a b)):=by
  obtain⟨a,rfl⟩:=bs ha;obtain⟨b,rfl⟩:=bs (by omega:0<=b);have m:a<=b:=by omega
  have X:b<=l.length:=by omega
  obtain⟨ad,cap,rfl,h1,h2,N,L⟩:=hv;obtain⟨i,C,z⟩:∃i,P.info? E=aj i/\i.size=R.sz:=by
    have:=S.info;cases h:P.info? E with
    |none=>simp[h]at this
    |some i=>simp[h]at this;exact⟨i,Z,this⟩
  have r:b<=cap:=by omega
  refine⟨.slice (if cap=a then ad else ad.map (·.add (a*R.sz))) (b-a)<|cap-a,fun ρ x s h w d ty pos af g hx t G=>?_,?_⟩
  · have K:(db ba l.length cap (s.map ρ) (h.map ρ) aw).run P w=.ok (a,b,cap) w:=by
      have h0:(0:Int)<=(a:Int):=hS a;have a5:(0:Int)<=(b:Int):=hS b;have a1:(a:Int)<=(b:Int):=by omega
      have a0:(b:Int)<=(cap:Int):=by omega
      rcases t with⟨k,e2⟩|k<;>rcases G with⟨f1,f2⟩|f1
      · obtain rfl:a=0:=by omega
        obtain rfl:b=l.length:=by omega
        simp[db,k,f1]
      · obtain rfl:a=0:=by omega
        simp[db,k,f1,ew,ie,r]
      · obtain rfl:b=l.length:=by omega
        simp[db,k,f1,ew,ie,m]
      · simp[db,k,f1,ew,ie,m,r]
    simp only[bl,iy,iS,cA,hx];simp[S.desc,K,fp,dt,C,z]
  suffices c:∀(p:aq) (q n:BS) (f:List α),eF R p q n (.slice ad l.length cap) f->f.length=l.length->eF R p q n (.slice (if cap=a then ad else ad.map (·.add (a*R.sz))) (b-a) (cap-a)) (cut f a b)from⟨c _ _ _ l ⟨ad,cap,Z,h1,h2,N,L⟩ Z,c⟩
  · intro M B A l⟨a2,Q,e0,h1,h2,N,L⟩a3;obtain⟨y,a4,I⟩:=Value.slice.inj e0;subst y;subst I;have X:b<=l.length:=by omega
    have e:(cut l a b).length=b-a:=by simp[cut];omega
    refine⟨_,cap-a,by rw[e],by rw[e];omega,by omega,?_,?_⟩
    · intro hn;split at hn
      · omega
      · cases ad with
        |none=>have:=N Z;omega
        |some x=>simp at hn
    · intro j O;rw[e]at O;obtain⟨bb,o,cells,F,fz,k,e2,e3,e4⟩:=L (a+j) V;subst k;refine⟨bb,o+a*R.sz,cells,F,fz,?_,e2,e3,?_⟩
      · rw[if_neg V];simp only[da,eA];unfold hF;split
        · next hz=>rw[hz];rfl
        · rfl
      · have:(cut l a b)[j]'(by rw[e];exact O)=l[a+j]'V:=by simp[cut]
        rw[this];rw[show o+a*R.sz+j*R.sz=o+(a+j)*R.sz by rw[cg,jv]];exact e4
theorem r_sl{α:Type}{R:lD α}{E:aT}{a b:Int}{B A:BS}{l:List α}{h:aq}(j:SliceOf P T E R.sz)(o:eF R h B A v l)(i:0<=a)(c:a<=b)(k:b<=l.length):
  ∃u,(∀(ρ:bo->al) x (f e:Option bo) w d ty pos af g,ρ x=v->QU (f.map ρ) a 0->QU (e.map ρ) b l.length->(bl ρ ⟨d,.slice T x f e aw,ty,pos,af,g⟩).run P w=.ok (.value u) w)/\eF R h B A u (cut l a b):=
 let ⟨u,m,n,_⟩:=r_slv j o i c k;⟨u,m,n⟩
abbrev SlOk(P:cc)(T:aT)(v:al)(a b:Int)(n:Nat)(u:al):Prop:=∀(ρ:bo->al) x (e c:Option bo) w d ty pos af g,ρ x=v->QU (e.map ρ) a 0->QU (c.map ρ) b n->(bl ρ ⟨d,.slice T x e c aw,ty,pos,af,g⟩).run P w=.ok (.value u) w
theorem SH.slR{α:Type}{R:lD α}{E:aT}{d:Nat}{a b:Int}{l:List α}(h:SH w0 M K w hp)(i j:Nat)(e:hp i=.rd R v l)(g:SliceOf P T E d)(k:R.sz=d)(f:0<=a)(c:a<=b)(m:b<=l.length):
  ∃u,SH w0 M K w (bV hp j (.rd R u (cut l a b)))/\SlOk P T v a b l.length u:=by
 subst k;obtain⟨u,n,o⟩:=r_sl g (h.bC i e) f c m;exact⟨u,h.aK j o,n⟩
theorem SH.slS{α:Type}{R:lD α}{E:aT}{d:Nat}{a b:Int}{l:List α}(h:SH w0 M K w hp)(i j:Nat)(e:hp i=.sr R v l)(g:SliceOf P T E d)(k:R.sz=d)(f:0<=a)(c:a<=b)(m:b<=l.length):
  ∃u,SH w0 M K w (bV hp j (.sr R u (cut l a b)))/\SlOk P T v a b l.length u:=by
 subst k;obtain⟨u,n,o⟩:=r_sl g (h.srAt i e) f c m;exact⟨u,h.know j (fun _ h=>h) o,n⟩
theorem r_allocN{zs:List al}(b:wH P T zs):(bl ρ ⟨d,.alloc T,ty,pos,af,g⟩).run P w=.ok (.value (.pointer (aj ⟨w.heap.size,0,aw⟩))) (w.alloc (.cells zs.toArray T)):=by
 obtain⟨i,a,hz,c⟩:=Tj b.info;simp[bl,Instr.alloc,jw,dt,a,hz,newVar,qH,pe,kd,-hZ]
theorem r_alloc1{z:al}(a:One P T z):(bl ρ ⟨d,.alloc T,ty,pos,af,g⟩).run P w=.ok (.value (.pointer (aj ⟨w.heap.size,0,aw⟩))) (w.alloc (.cells #[z] T)):=by
 obtain⟨i,b,hz,c⟩:=Tj a.info;simp[bl,Instr.alloc,jw,dt,b,hz,newVar,qH,a.cell,kd,-hZ]
theorem r_box(a:ρ x=v):(bl ρ ⟨d,.box T x,ty,pos,af,g⟩).run P w=.ok (.value (.pointer (aj ⟨w.heap.size,0,aw⟩))) (w.alloc (.cells v.cells T)):=by
 simp[bl,Instr.box,newVar,qH,a,kd,-hZ]
theorem SH.newB(h:SH w0 M K w hp)(i:Nat)(cs:List al)(T:aT):SH w0 M K (w.alloc (.cells cs.toArray T)) (bV hp i (.blk w.heap.size cs)):=
 h.learn i (Grow.alloc _ _) (fun b a=>lE a.symm) ⟨T,PX _ _⟩
theorem aW{zs:List al}(h:SH w0 M K w hp)(i:Nat)(a:wH P T zs)(k:∀w' b,SH w0 M K w' (bV hp i (.blk b zs))->WL P ops Q rest n (gD env d (.pointer (aj ⟨b,0,aw⟩))) w'):WL P ops Q (⟨d,.alloc T,ty,pos,af,aw⟩::rest) n env w:=
 J (r_allocN a) (k _ _ (h.newB i zs T))
theorem zt{z:al}(h:SH w0 M K w hp)(i:Nat)(a:One P T z)(k:∀w' b,SH w0 M K w' (bV hp i (.blk b [z]))->WL P ops Q rest n (gD env d (.pointer (aj ⟨b,0,aw⟩))) w'):WL P ops Q (⟨d,.alloc T,ty,pos,af,aw⟩::rest) n env w:=
 J (r_alloc1 a) (k _ _ (h.newB i [z] T))
theorem iM{cs:List al}(h:SH w0 M K w hp)(i:Nat)(a:ev n env x=v)(c:v.cells=cs.toArray)(k:∀w' b,SH w0 M K w' (bV hp i (.blk b cs))->WL P ops Q rest n (gD env d (.pointer (aj ⟨b,0,aw⟩))) w'):WL P ops Q (⟨d,.box T x,ty,pos,af,aw⟩::rest) n env w:=
 J (by rw[r_box a,c]) (k _ _ (h.newB i cs T))
theorem Tk{z:al}{b o:Nat}{cs:Array al}{E:aT}(n:One P T z)(k:ρ x=.pointer (aj ⟨b,o,aw⟩))(a:w.heap[b]? =aj (.cells cs E (0,0)))(ho:o<cs.size)(l:ρ y=v)(e:v.oneCell'=ba):
  (bl ρ ⟨d,.store T x y,ty,pos,af,g⟩).run P w=.ok .skip (xH w b (.cells (cs.setIfInBounds o v) E (0,0))):=by
 obtain⟨i,m,hz,j⟩:=Tj n.info;have f:w.cell? ⟨b,o,aw⟩=aj cs[o]:=by simp[eM,a,ho]
 have h:w.frozen? ⟨b,o,aw⟩=false:=by simp[ot,a]
 have c:v.cells= #[v]:=by cases v<;>first|rfl|simp[eS]at e
 rw[<-setCell_putb a];simp only[bl,sB,k,l,hY,storeVar,c,fp,dt];simp[m,j,storeCells,run_store _ _ _ _ _ e,f,h,hF]
theorem Tm{zs vs:List al}{b o:Nat}{cs:List al}{E:aT}(l:wH P T zs)(e:ρ x=.pointer (aj ⟨b,o,aw⟩))(a:w.heap[b]? =aj (.cells cs.toArray E (0,0)))(f:ρ y=.agg vs.toArray)(k:vs.length=zs.length)(ho:o+vs.length<=cs.length)(h:∀v∈vs,v.oneCell'=ba):
  (bl ρ ⟨d,.store T x y,ty,pos,af,g⟩).run P w=.ok .skip (xH w b (.cells (MF cs o vs).toArray E (0,0))):=by
 obtain⟨i,j,hz,c⟩:=Tj l.info;have:=nF (P:=P) b o E vs 0 cs.toArray w a (by simpa using ho) h;simp only[bl,sB,e,f,hY,storeVar,pe,fp,dt];simp[j,c,k,this,JZ a,MF]
theorem SH.putB{b:Nat}{cs:List al}(h:SH w0 M K w hp)(i:Nat)(e:hp i=.blk b cs)(a:List al)(E:aT):SH w0 M K (xH w b (.cells a.toArray E (0,0))) (bV hp i (.blk b a)):=by
 have d:=h.A7 i e;obtain⟨f,d⟩:=d;exact h.step i (bL.xH _ _ _) (fun x c _=>by rw[e];exact c) (fun x c _=>by rw[e];exact c) ⟨E,wK (iT d)⟩
theorem gG{z:al}{b o:Nat}{cs:List al}(h:SH w0 M K w hp)(i:Nat)(a:List al)(c:hp i=.blk b cs)(m:One P T z)(f:ev n env x=.pointer (aj ⟨b,o,aw⟩))(g:ev n env y=v)(ho:cs.set o v=a)(e:nc o cs.length=ba)(l:v.oneCell'=ba)
  (k:∀w',SH w0 M K w' (bV hp i (.blk b a))->WL P ops Q rest n (gD env d fW) w'):
  WL P ops Q (⟨d,.store T x y,ty,pos,af,aw⟩::rest) n env w:=by
 obtain⟨E,j⟩:=h.A7 i c;refine BF (Tk m f j (by rw[lA]at e;simpa using e) g l) (k _ ?_);have:=h.putB i c a E;subst ho;simpa using this
theorem w_stN{zs vs:List al}{b o:Nat}{cs:List al}(h:SH w0 M K w hp)(i:Nat)(a:List al)(e:hp i=.blk b cs)(j:wH P T zs)(l:ev n env x=.pointer (aj ⟨b,o,aw⟩))(f:ev n env y=.agg vs.toArray)(g:vs.length=zs.length)(ho:MF cs o vs=a)(m:ll (o+vs.length) cs.length=ba)(p:∀v∈vs,v.oneCell'=ba)
  (k:∀w',SH w0 M K w' (bV hp i (.blk b a))->WL P ops Q rest n (gD env d fW) w'):
  WL P ops Q (⟨d,.store T x y,ty,pos,af,aw⟩::rest) n env w:=by
 obtain⟨E,c⟩:=h.A7 i e;subst ho;exact BF (Tm j l c f g (gn m) p)<|k _<|h.putB i e _ E
def Tn(P:cc)(f:fR):Prop:=∃a,P.funcs[f]? =aj a/\(a.name== "runtime.NumGoroutine")=ao/\a.body.isNone=ao
theorem r_call{f:fR}{first captured:Array al}{xs:Array bo}{h:Array aT}(i:Tn P f)(j:ρ x=.func (.func f) first captured):
  (bl ρ ⟨d,.call {callee:=.value x,args:=xs,argTypes:=h},ty,pos,af,g⟩).run P w=.ok (.enter f (first++xs.map ρ++captured)) w:=by
 obtain⟨c,k,l,m⟩:=i;have a:¬c.name= "runtime.NumGoroutine" :=by simpa using l
 have b:¬c.body=none:=fun e=>by simp[e]at m
 simp[bl,hH,j,Deferred.ofValue,ju,callFunc,k,a,b]
theorem bX{f:fR}{first captured:Array al}{xs:Array bo}{a:Array aT}{args:List al}{R:mm->aq->Prop}(b:Tn P f)(g:ev n env x=.func (.func f) first captured)
  (i:first.toList++xs.toList.map (ev n env)++captured.toList=args) (c:bE P f args.toArray w R)
  (h:∀e w',R e w'->∃v,e=.returned v/\WL P ops Q rest n (gD env d v) w'):
  WL P ops Q (⟨d,.call {callee:=.value x,args:=xs,argTypes:=a},ty,pos,af,aw⟩::rest) n env w:=by
 refine wl_enter (r_call b g) ?_ h;have:first++xs.map (ev n env)++captured=args.toArray:=by
  rw[<-i];apply lo;simp
 rw[this];exact c
theorem dS{i:Nat}{vs:List al}(b:ρ x=.tuple vs.toArray)(a:vs[i]? =aj v):(bl ρ ⟨d,.extract x i,ty,pos,af,g⟩).run P w=.ok (.value v) w:=by
 simp[bl,Instr.extract,b,a]
theorem sO{f:fR}{first captured:Array bo}{c1 c2:List al}(b:first.toList.map ρ=c1)(e:captured.toList.map ρ=c2):
  (bl ρ ⟨d,.makeFunc (.func f) first captured,ty,pos,af,g⟩).run P w=.ok (.value (.func (.func f) c1.toArray c2.toArray)) w:=by
 have c:first.map ρ=c1.toArray:=by rw[<-b];apply lo;simp
 have a:captured.map ρ=c2.toArray:=by rw[<-e];apply lo;simp
 simp[bl,Instr.makeFunc,c,a]
theorem calls_start{f:fR}{a:sd}{c:Code}{args:List al}{R:mm->aq->Prop}{n:Nat}
  (b:P.funcs[f]? =aj a) (d:a.body=aj c) (hn:a.ntmps=n) (e:args.length<=n)
  (h:WC P c (jj P a R) n (U7 args) w):bE P f args.toArray w R:=by
 refine calls_of_wp b d ?_;rw[hn,act_init n args e];exact h.out
theorem bg{a:sd}{R:mm->aq->Prop}{t:Tmp}(b:a.results= #[.tmp t])(c:ev n env (.tmp t)=v)(h:R (.returned v) w):jj P a R .ret (act n env) w:=by
 refine⟨Z,v,?_,h⟩;rw[results_tmp b];have:=congrFun (gY n env)<|.tmp t;rw[c]at this;exact congrArg (fun v=>qk v w) this
theorem fin0{a:sd}{R:mm->aq->Prop}(b:a.results= #[])(h:R (.returned (.tuple #[])) w):jj P a R .ret (act n env) w:=⟨rfl,_,results_none b _ _ _,h⟩
theorem Tp{a:sd}{R:mm->aq->Prop}(b:a.results= #[])(h:R (.returned (.tuple #[])) w):jj P a R .normal (act n env) w:=⟨rfl,_,results_none b _ _ _,h⟩
theorem wL{c:sd}{R:mm->aq->Prop}{t u:Tmp}{v1 v2:al}(d:c.results= #[.tmp t,.tmp u])(e:ev n env (.tmp t)=v1)(f:ev n env (.tmp u)=v2)(h:R (.returned (.tuple #[v1,v2])) w):jj P c R .ret (act n env) w:=by
 refine⟨Z,_,?_,h⟩;rw[results_tmp2 d];have a:=congrFun (gY n env)<|.tmp t;have b:=congrFun (gY n env)<|.tmp u;rw[e]at a;rw[f]at b;simp only[hX]at a b;rw[a,b]
end
section
variable{α β σ ρ:Type}{r:ρ}{G:Prop}
theorem lT{b:Bool}{X a:ρ}(c:cond b X a=r)(d:b=ba->X=r->G)(e:b=ao->a=r->G):G:=by
  cases b
  · exact e Z c
  · exact d Z c
theorem aC{o:Option α}{f:α->Option β}{r:β}(h:o.bind f=aj r):∃x,o=aj x/\f x=aj r:=by
 cases o with
 |none=>cases h
 |some x=>exact⟨x,rfl,h⟩
def iF(p:Prop) [Decidable p](x:Option β):Option β:=if p then x else aw
theorem bF{p:Prop} [Decidable p]{x:Option β}{r:β}(h:iF p x=aj r):p/\x=aj r:=by
  unfold iF at h;by_cases hp:p
  · rw[if_pos hp]at h;exact⟨hp,h⟩
  · rw[if_neg hp]at h;cases h
def idx(l:List α)(k:Int):Option α:=if 0<=k then l[k.toNat]? else aw
theorem aF{l:List α}{k:Int}{x:α}(h:idx l k=aj x):0<=k/\l[k.toNat]? =aj x:=by
  unfold idx at h;by_cases hp:0<=k
  · rw[if_pos hp]at h;exact⟨hp,h⟩
  · rw[if_neg hp]at h;cases h
def sub?(l:List α)(a b:Int):Option (List α):=if 0<=a/\a<=b/\b<=l.length then aj (cut l a b)else aw
theorem K6{l:List α}{a b:Int}{x:List α}(h:sub? l a b=aj x):x=cut l a b/\0<=a/\a<=b/\b<=l.length:=by
  unfold sub? at h;by_cases hp:0<=a/\a<=b/\b<=l.length
  · rw[if_pos hp]at h;cases h;exact⟨Z,hp⟩
  · rw[if_neg hp]at h;cases h
def kv(x:Int):Prop:= -9223372036854775808<=x/\x<=9223372036854775807
def i64b:Int->Bool
 | .ofNat n=>ll n 9223372036854775807
 | .negSucc n=>ll n 9223372036854775807
theorem i64b_iff{x:Int}:i64b x=ba↔kv x:=by
 unfold kv;cases x with
 |ofNat n=>simp[i64b,Nat.ble_eq];omega
 |negSucc n=>simp[i64b,Nat.ble_eq];omega
instance (x:Int):Decidable (kv x):=decidable_of_iff (i64b x=ba) i64b_iff
theorem kv.mk{x:Int}(b: -9223372036854775808<=x)(a:x<=9223372036854775807):kv x:=⟨b,a⟩
def each(body:α->σ->(σ->ρ)->ρ)(k:σ->ρ):List α->σ->ρ
 |[],s=>k s
 |x::r,s=>body x s (each body k r)
def gU(body:Int->α->σ->(σ->ρ)->ρ)(k:σ->ρ):Int->List α->σ->ρ
 |_,[],s=>k s
 |i,x::r,s=>body i x s (gU body k (i+1) r)
def upto(body:Int->σ->(σ->ρ)->ρ)(k:σ->ρ):Int->Nat->σ->ρ
 |_,0,s=>k s
 |i,m+1,s=>body i s (upto body k (i+1) m)
def again(body:σ->(σ->Option β)->Option β):Nat->σ->Option β
 |0,_=>aw
 |n+1,s=>body s (again body n)
end
section
variable{P:cc}{Q:fg->Act->aq->Prop}{n:Nat}{env:Nat->al}{w:aq}{x y:Code}
theorem aD{ρ:Type}{r X a:ρ}{c:bo}{b:Bool}(d:cond b X a=r)(e:ev n env c=.bool b)(f:b=ba->X=r->WC P x Q n env w)(g:b=ao->a=r->WC P y Q n env w):
 WC P (oT c x y) Q n env w:=ek e (fun h=>f h (by rw[h]at d;exact d)) (fun h=>g h (by rw[h]at d;exact d))
def JP{σ:Type}(n:Nat)(mod:Nat->Bool)(U7:Nat->al)(live:σ->List (Nat×al))(J:σ->aq->Prop):Act->aq->Prop:=
 fun a' w'=>∃s e,a'=act n e/\JS mod e U7/\Holds e (live s)/\J s w'
def JL{σ:Type}(n:Nat)(mod:Nat->Bool)(U7:Nat->al)(live:σ->List (Nat×al))(J:σ->aq->Prop)(a:σ->Nat)(b:σ):Act->aq->Prop:=
 fun a' w'=>∃s e,a'=act n e/\JS mod e U7/\Holds e (live s)/\J s w'/\a s<a b
theorem eQ{σ:Type}{c:Code}(mod:Nat->Bool)(live:σ->List (Nat×al))(J:σ->aq->Prop)(d:σ->Nat)(b:σ)
 (g:Holds env (live b)) (f:J b w)
 (a:∀s e h,J s e->WC P c (Exit.then (JL n mod env live J d s) Q) n (upds (hav mod h env) (live s)) e):
 WC P (rn c) Q n env w:=wc_loop mod live J d b g f a
theorem bT{σ:Type}(mod:Nat->Bool)(live:σ->List (Nat×al))(J:σ->aq->Prop)
  (c:∀s w d,J s w->WC P y Q n (upds (hav mod d env) (live s)) w)
  (h:WC P x (Exit.then (JP n mod env live J) Q) n env w):WC P (Code.seq x y) Q n env w:=by
 refine aA ⟨wp_mono h.out fun i a w h=>?_⟩;cases i with
 |normal=>
  obtain⟨s,e,rfl,f,g,b⟩:=h;have:=c s w e b;rw[hav_self f,U8 _ g]at this;exact this.out
 |_=>exact h
end
section
variable{K:Act->aq->Prop}{Q:fg->Act->aq->Prop}{a:Act}{w:aq}{i j:Nat}
theorem ah(h:K a w):Exit.then K Q .normal a w:=h
theorem ag(h:Q .ret a w):Exit.then K Q .ret a w:=h
theorem bD(h:Q (.exit i) a w):Exit.then K Q (.exit i) a w:=h
theorem ak(h:Q .normal a w):ib i Q .normal a w:=h
theorem az(h:Q .ret a w):ib i Q .ret a w:=h
theorem dP(h:Q .normal a w):ib i Q (.exit i) a w:=by simp only[ib,if_true];exact h
theorem Iy(hn:¬j=i)(h:Q (.exit j) a w):ib i Q (.exit j) a w:=by simp only[ib,if_neg hn];exact h
end
theorem JS.os{mod:Nat->Bool}{e a:Nat->al}{d:Nat}{v:al}(b:mod d=ba)(h:JS mod e a):JS mod (gD e (aj d) v) a:=JS.upd b h
theorem JS.on{mod:Nat->Bool}{e a:Nat->al}{v:al}(h:JS mod e a):JS mod (gD e aw v) a:=h
theorem JS.uc{mod:Nat->Bool}{e a:Nat->al}{d:Nat}{v:al}{l:List (Nat×al)}(b:mod d=ba)(h:JS mod (upds e l) a):JS mod (upds e ((d,v)::l)) a:=JS.upd b h
theorem JS.un{mod:Nat->Bool}{e a:Nat->al}(h:JS mod e a):JS mod (upds e []) a:=h
def inl(l:List Nat)(i:Nat):Bool:=match l with|[]=>ao|a::r=>bif ft i a then ba else inl r i
def subl(l m:List Nat):Bool:=match l with|[]=>ba|a::r=>bif inl m a then subl r m else ao
theorem subl_inl{m:List Nat}:∀{l:List Nat},subl l m=ba->∀i,inl l i=ba->inl m i=ba
 |[],_,i,h=>by simp[inl]at h
 |a::r,hs,i,h=>by
  unfold subl at hs;unfold inl at h;cases ha:inl m a with
  |false=>simp[ha]at hs
  |true=>
   simp only[ha,cond_true]at hs;cases hb:ft i a with
   |true=>have:=gh hb;subst this;exact ha
   |false=>simp only[hb,cond_false]at h;exact subl_inl hs i h
theorem JS.hin{l m:List Nat}{j e a:Nat->al}(c:subl l m=ba)(h:JS (inl m) e a):JS (inl m) (LX.hav (inl l) j e) a:=fun i b=>by
 have:inl l i=false:=by
  cases hc:inl l i with
  |false=>rfl
  |true=>rw[subl_inl c i hc]at b;cases b
 simp only[LX.hav,this,cond_false];exact h i b
open Go.RowKit
theorem eF.row{α:Type}{R:lD α}{w:aq}{B A:BS}{v:al}{l:List α}(h:eF R w B A v l):
    (v=.slice aw 0 0/\l=[])\/∃(a:kA) (cap:Nat) (news:List al),v=.slice (aj a) l.length cap/\news.length=l.length*R.sz/\(∀j u,news[j]? =aj u->w.cell? (a.add j)=aj u)/\(∀u∈news,u.oneCell'=ba)/\
      ∀i (h:i<l.length),R.rd w A ((news.drop (i*R.sz)).take R.sz) l[i]:=by
  obtain⟨a,cap,rfl,M,N,F,s⟩:=h;cases a with
  |none=>
    have C:=F Z;subst C;have q:l=[]:=cl V;subst q;exact .inl ⟨Z,Z⟩
  |some a=>
    right;by_cases q:l.length=0
    · have:l=[]:=cl q;subst this;exact⟨a,cap,[],Z,by simp,fun j u h=>by simp at h,fun u h=>by simp at h,fun i h=>absurd h<|eK _⟩
    · obtain⟨b,o,cells,E,I,p,O,t,G⟩:=s 0 V;cases p;have f:∀i (d:i<l.length),R.rd w A ((cells.toList.drop<|o+i*R.sz).take R.sz) l[i]:=by
        intro i d;obtain⟨b',L,n,P,z,p,_,m,r⟩:=s i d;cases p;rw[t]at m;cases m;exact r
      have c:=R.len<|f (l.length-1) V;simp only[ca,cL,cr]at c;have k:=R.pos;have x:o+l.length*R.sz<=cells.size:=by
        have K:l.length*R.sz=(l.length-1)*R.sz+R.sz:=by
          conv=>lhs;rw[show l.length=(l.length-1)+1 by omega]
          rw[cg,ns]
        omega
      refine⟨⟨b,o,aw⟩,cap,(cells.toList.drop o).take<|l.length*R.sz,Z,?_,?_,?_,?_⟩
      · simp only[ca,cL,cr];omega
      · intro j u e;rw[cf]at e;split at e
        · rw[cw]at e;have y:(⟨b,o,aw⟩:kA).add j=⟨b,o+j,aw⟩:=by unfold hF;split<;>simp_all
          rw[y];simpa[eM,t]using e
        · cases e
      · intro u e;obtain⟨j,g⟩:=List.getElem?_of_mem e;rw[cf]at g;split at g
        · next hlt=>
          rw[cw]at g;have d:j / R.sz<l.length:=pL (by rw[nd];exact hlt);refine R.one (f (j / R.sz) d) u ?_;refine List.mem_of_getElem? (i:=j%R.sz) ?_;rw[cf,if_pos (mS _ k),cw];rw[show o+j / R.sz*R.sz+j%R.sz=o+j by rw[jv,Nat.div_add_mod' j R.sz]];exact g
        · cases g
      · intro i d;rw[eh,ea,mb,cO]
        · exact f i d
        · have:(i+1)*R.sz<=l.length*R.sz:=bd _ d;rw[cg]at this;omega
theorem fill_fold(c:List al):∀(cells:Array al) (o:Nat),o+c.length<=cells.size->
  (c.zipIdx.foldl (fun cs(p:al×Nat)=>cs.setIfInBounds (o+p.2) p.1) cells).toList=MF cells.toList o c:=by
 suffices a:∀(k:Nat) (cells:Array al) (o:Nat),o+k+c.length<=cells.size->
   ((c.zipIdx k).foldl (fun cs(p:al×Nat)=>cs.setIfInBounds (o+p.2) p.1) cells).toList=MF cells.toList (o+k) c by
  intro cells o h;have:=a 0 cells o (by simpa using h);simpa using this
 induction c with
 |nil=>intro k cells o h;simp[MF]
 |cons x r ih=>
  intro k cells o h;simp only[bw]at h;rw[rr,List.foldl_cons,ih (k+1) _ o (by simp;omega)];simp only[jy,MF];rw[show o+(k+1)=o+k+1 by omega];apply df;intro i;simp only[ck,gw,ca,cm,cr,cf,eW,cw,bw,List.getElem?_cons]
  grind
theorem Yv{a:Nat}(hz:0<a):∀(vs:List al) (k:Nat) (cells:Array al),(∀v∈vs,v.cells.size=a)->(k+vs.length)*a<=cells.size->
    ∃out,jz (fun i=>aj (i*a,a)) cells ((vs.zipIdx k).map fun p=>(p.2,p.1))=aj out/\out.toList=MF cells.toList (k*a) (vs.map fun v=>v.cells.toList).flatten
  |[],k,cells,_,_=>⟨cells,rfl,by simp[MF]⟩
  |v::r,k,cells,hv,hs=>by
    have f:v.cells.size=a:=hv v zq3;simp only[bw]at hs;have e:(k+1+r.length)*a<=cells.size:=by rw[show k+1+r.length=k+(r.length+1) by omega];exact hs
    have m:k*a+a<=cells.size:=by
      have:(k+1)*a<=(k+1+r.length)*a:=bd _ V;rw[cg,ns]at this;omega
    have j:=fill_fold v.cells.toList cells (k*a) (by rw[cr,f];exact m);let c2:=v.cells.zipIdx.foldl (fun cs(p:al×Nat)=>cs.setIfInBounds (k*a+p.2) p.1) cells;have b:c2.toList=MF cells.toList (k*a) v.cells.toList:=by
      rw[<-j];show(v.cells.zipIdx.foldl _ cells).toList=_;rw[<-pN,py]
    have d:c2.size=cells.size:=by
      have:=congrArg eR b;simp only[MF,bk,ca,cL,cr]at this;omega
    obtain⟨out,g,h⟩:=Yv hz r (k+1) c2 (fun x l=>hv x (by simp[l])) (by rw[d];exact e);refine⟨out,?_,?_⟩
    · rw[rr,cj];unfold jz;simp only[f,ne_eq,not_true_eq_false,decide_false,Bool.false_or];rw[if_neg (by simp;omega)];exact g
    · rw[h,b];simp only[cj,km,MF];rw[show(k+1)*a=k*a+a by rw[cg,ns]];have n:v.cells.toList.length=a:=by rw[cr,f]
      generalize v.cells.toList=c at*;generalize (r.map fun v=>v.cells.toList).flatten=q;apply df;intro i;simp only[ck,gw,ca,cr,bk,cf,cw,cL]
      grind
def K7{α:Type}(R:lD α)(w:aq)(A:BS):List al->List α->Prop
 |[],[]=>True
 |v::vs,x::xs=>R.rd w A v.cells.toList x/\K7 R w A vs xs
 |_,_=>False
theorem K7.len{α:Type}{R:lD α}{w:aq}{A:BS}:∀{vs:List al} {xs:List α},K7 R w A vs xs->vs.length=xs.length
 |[],[],_=>rfl
 |v::vs,x::xs,h=>by simp[K7.len h.2]
 |[],_::_,h=>h.elim
 |_::_,[],h=>h.elim
theorem K7.sizes{α:Type}{R:lD α}{w:aq}{A:BS}:∀{vs:List al} {xs:List α},K7 R w A vs xs->∀v∈vs,v.cells.size=R.sz
  |[],[],_=>by simp
  |v::vs,x::xs,h=>by
    intro u a;rcases bn.1 a with rfl|a
    · have:=R.len h.1;simpa using this
    · exact K7.sizes h.2 u a
  |[],_::_,h=>h.elim
  |_::_,[],h=>h.elim
theorem flat_len{a:Nat}:∀{vs:List al},(∀v∈vs,v.cells.size=a)->(vs.map fun v=>v.cells.toList).flatten.length=vs.length*a
 |[],_=>by simp
 |v::r,h=>by
  have c:=h v zq3;have d:=flat_len fun u b=>h u<|bj _ b;simp only[cj,km,bk,d,cr,c,bw,cg];omega
theorem K7.at{α:Type}{R:lD α}{w:aq}{A:BS}:∀{vs:List al} {xs:List α},K7 R w A vs xs->∀i (h:i<xs.length),R.rd w A (((vs.map fun v=>v.cells.toList).flatten.drop (i*R.sz)).take R.sz) xs[i]
 |[],[],_,i,h=>absurd h (eK _)
 |v::vs,x::xs,h,i,hi=>by
  have a:v.cells.toList.length=R.sz:=R.len h.1;cases i with
  |zero=>
   simp only[cj,km,pf,ke,List.getElem_cons_zero];rw[cV V,ij V];exact h.1
  |succ i=>
   have:=K7.at h.2 i (by simpa using hi);simp only[cj,km,List.getElem_cons_succ];rw[iz,cC (by rw[a,cg];omega),cD,a,show(i+1)*R.sz-R.sz=i*R.sz by rw[cg];omega];exact this
 |[],_::_,h,_,_=>h.elim
 |_::_,[],h,_,_=>h.elim
structure Struct(P:cc)(T:aT)(zs:List al)(pl:List (Nat×Nat)):Prop where
  zero:(P.info? T).map (·.zero)=aj (aj (.agg zs.toArray))
  desc:∃fs,P.underlying T=aj (.struct fs)/\fs.toList.map (fun f=>(f.offset,(P.info? f.type).map (·.size)))=pl.map (fun p=>(p.1,aj p.2))
def FillOk(pl:List (Nat×Nat))(cs:List al):List (Nat×al)->List al->Prop
 |[],out=>cs=out
 |(i,v)::r,out=>∃off a vs,pl[i]? =aj (off,a)/\v.cells.toList=vs/\vs.length=a/\off+a<=cs.length/\FillOk pl (MF cs off vs) r out
theorem fill_ok{pl:List (Nat×Nat)}:∀{a:List (Nat×al)} {cs out:List al},FillOk pl cs a out->jz (fun i=>pl[i]?) cs.toArray a=aj out.toArray
 |[],cs,out,h=>by cases h;rfl
 |(i,v)::r,cs,out,h=>by
  obtain⟨off,b,vs,l,e,f,k,j⟩:=h;unfold jz;simp only[l];have c:v.cells.size=b:=by rw[<-f,<-e,cr]
  rw[if_neg (by simp[c];omega)];have g:=fill_fold vs cs.toArray off (by rw[f];simpa using k);have:(v.cells.zipIdx.foldl (fun cs(p:al×Nat)=>cs.setIfInBounds (off+p.2) p.1) cs.toArray)=(MF cs off vs).toArray:=by
   apply lo;rw[<-pN,py,e];exact g
  have d:=fill_ok j;rw[<-this]at d;exact d
section
variable{P:cc}{ops:Array ee}{Q:fg->Act->aq->Prop}{n:Nat}{env:Nat->al}{w w' w0:aq}{M K:BS}{hp:Nat->Chunk}{rest:List ee}
 {d:Option Nat} {op:Op} {ty:aT} {pos:String} {af:Array hO} {v:al} {g:Option (Nat×Bool)} {T:aT} {ρ:bo->al} {x y:bo}
theorem BG(h:w.grownBy w' v.ownBlock):bL (ob v) w w':=
 ⟨h.os,h.tape,h.output,h.size,fun b a c=>h.block b c (fun e=>a (ob_row.2 e.symm))⟩
theorem QV{E:aT}{j b:Nat}{a:Option kA}{l c:Nat}(e:kD P T E j b)(f:ρ x=.slice a l c)(m:l<=c)(h:ρ y=.slice aw 0 0):
  (bl ρ ⟨d,.call {callee:=.builtin .append,args:= #[x,y],argTypes:= #[T,T]},ty,pos,af,g⟩).run P w=.ok (.value (.slice a l c)) w:=by
 obtain⟨i,z,k,hz,n,_,_⟩:=e.info;cases a<;>simp[bl,hH,ju,iQ,f,h,gA,cA,e.desc,fp,dt,k,nG,m,mu,storeCells]
theorem run_app{α:Type}{R:lD α}{E:aT}{sz f:Nat}{A:BS}{u:al}{l m:List α}(o:kD P T E sz f)(p:R.sz=sz)(hx:ρ x=v)(hv:cu R E w A v l)(S:ρ y=u)(hu:eF R w BE A u m)
    (hA:∀b,ob v b->A b) (a:(l.length+m.length)*f<=140737488355328) (hm:l.length+m.length<=9223372036854775807):
    ∃q w',(bl ρ ⟨d,.call {callee:=.builtin .append,args:= #[x,y],argTypes:= #[T,T]},ty,pos,af,g⟩).run P w=.ok (.value q) w'/\cu R E w' A q (l++m)/\bL (ob v) w w'/\(∀b,ob q b->b<w.heap.size->ob v b):=by
  subst p;have Q:=hv;obtain⟨xs,B,h3⟩:=hv;rcases hu.row with⟨rfl,rfl⟩|⟨ad,c,news,rfl,n1,n2,n3,n4⟩
  · have hw:(bl ρ ⟨d,.call {callee:=.builtin .append,args:= #[x,y],argTypes:= #[T,T]},ty,pos,af,g⟩).run P w=.ok (.value v) w:=by
      rcases B.2 with⟨rfl,hn⟩|⟨gg,cap,cur,rfl,_,_,hc,_⟩
      · exact QV o hx (bq _) S
      · exact QV o hx hc S
    exact⟨v,w,hw,by simpa using Q,bL.refl _ _,fun _ a _=>a⟩
  · obtain⟨i,z,C,hz,p,r,X⟩:=o.info;obtain⟨q,w',k,G,hg,_⟩:=run_append_own (P:=P) w 0 T ty E i z R.sz f o.desc C hz p r X R.pos v l.length xs B ad m.length c news n1 n2 n3 (by unfold kO;omega) a (fv _);have hk:=BG hg;have n:∀b,ob q b->b<w.heap.size->ob v b:=by
      rcases B.2 with⟨rfl,hn⟩|⟨gg,cap,cur,rfl,_,hgg,hc,hcm,hcs,htake⟩
      · by_cases N:m.length=0
        · have t:news=[]:=cl (by rw[n1,N];simp);subst t;have e:(gA #[T,T] ty #[.slice aw 0 0,.slice (aj ad) m.length c]).run P w=.ok (.slice aw 0 0) w:=by
            simp[gA,cA,o.desc,fp,dt,C,nG,N,mu,loadCells,loadCellsFrom]
          rw[e]at k;cases k;exact fun b a _=>a
        · have e:=run_append_nil (P:=P) w T ty E i z o.desc C hz ad m.length c news (by rw[p];exact n1) n2 V V (by rw[r];have:=a;rw[cg]at this;omega);rw[e]at k;cases k;intro b a I;simp[ob]at a;omega
      · by_cases h:l.length+m.length<=cap
        · have M:l.length*i.size+news.length<=cur.size:=by rw[n1,p,hcs,<-cg];exact bd _ h
          have e:=run_append_room (P:=P) w T ty E i o.desc C gg l.length cap cur hgg ad m.length c news (by rw[p];exact n1) n2 n3 h M;rw[e]at k;cases k;exact fun b a _=>a
        · have holds:∀j u,xs[j]? =aj u->w.cell? ((⟨gg,0,aw⟩:kA).add j)=aj u:=B.cells (g:=gg) Z;have e:=run_append_grow (P:=P) w T ty E i z o.desc C hz ⟨gg,0,aw⟩ l.length cap xs (by rw[p];exact B.1) holds ad m.length c news (by rw[p];exact n1) n2 V V (growslice_fits V (by rw[r];exact a));rw[e]at k;cases k;intro b a I;simp[ob]at a;omega
    have K:(bl ρ ⟨d,.call {callee:=.builtin .append,args:= #[x,y],argTypes:= #[T,T]},ty,pos,af,g⟩).run P w=.ok (.value q) w':=by
      simp only[bl,hH,ju,iQ,ct,cY,bp,fC,cj,en,hx,S,k]
    refine⟨q,w',K,⟨xs++news,by rw[bk];exact G,?_⟩,hk,n⟩;intro i O;have F:=B.1;have L:∀b,A b\/ob q b->b<w.heap.size->A b\/ob v b:=fun b a I=>a.imp id fun a=>n b a I;by_cases s:i<l.length
    · have h5:=R.go (h3 i s) hk (fun b a _=>.inr a) L;have a0:(i+1)*R.sz<=l.length*R.sz:=bd _ s;rw[cg]at a0;rw[eL s,fN V,cV (by rw[cL];omega)];exact h5
    · rw[bk]at O;have h5:=R.go (n4 (i-l.length) V) hk (fun b a _=>hA b a) fun b a I=>(L b a I).elim id<|hA b;rw[fh V,iz,cC (by rw[F];exact bd _ V),cD,F,<-nt];exact h5
theorem SH.C9{α:Type}{R:lD α}{E:aT}(h:SH w0 M K w hp)(i:Nat):SH w0 M K w (bV hp i (.own R E (.slice aw 0 0) ([]:List α))):=
 h.learn i (bL.refl BE w) (fun _ h=>h.elim) cu.nil
theorem lG{α:Type}{R:lD α}{E:aT}{j c:Nat}{u:al}{l m:List α}(h:SH w0 M K w hp)(i:Nat)(f:hp i=.own R E v l)(t:eF R w BE (SH.A M hp) u m)(F:kD P T E j c)(o:R.sz=j)(p:ev n env x=v)(z:ev n env y=u)
    (a:(l.length+m.length)*c<=140737488355328) (r:l.length+m.length<=9223372036854775807)
    (k:∀w' e,SH w0 M K w' (bV hp i (.own R E e (l++m)))->WL P ops Q rest n (gD env d e) w'):
    WL P ops Q (⟨d,.call {callee:=.builtin .append,args:= #[x,y],argTypes:= #[T,T]},ty,pos,af,aw⟩::rest) n env w:=by
  obtain⟨e,w',q,s,G,B⟩:=run_app (d:=d) (ty:=ty) (pos:=pos) (af:=af) (g:=aw) F o p (h.bJ i f) z t (fun b a=>.inr ⟨i,by rw[f];exact a⟩) a r;refine J q (k w' e (h.step i G (fun b a _=>by rw[f];exact a) (fun b a C=>by rw[f];exact B b a C) ?_));refine cu.go s (bL.refl BE w') (fun _ h=>h.elim) (fun _ h=>h.elim) fun b a _=>?_;rcases a with a|a|a
  · exact .inl<|.inl a
  · exact .inl<|.inr<|lF a
  · exact .inr a
theorem run_bs{α:Type}{R:lD α}{E:aT}{G o:Nat}{A:BS}{a:Array (Nat×bo)}{len:Nat}{vs:List al}{xs:List α}(K:kD P T E G o)(X:R.sz=G)
    (hx:(a.toList.map fun p=>(p.1,ev n env p.2))=vs.zipIdx.map fun p=>(p.2,p.1)) (C:vs.length=len) (F:K7 R w A vs xs) (hA:∀b,A b->b<w.heap.size) (S:len*G<=16777216):
    ∃u w',(bl (ev n env) ⟨d,.buildSlice T len a,ty,pos,af,g⟩).run P w=.ok (.value u) w'/\Grow w w'/\cu R E w' A u xs/\∀b,ob u b->w.heap.size=b:=by
  subst X;subst C;obtain⟨i,z,O,hz,q,Q,a0⟩:=K.info;have e:=F.sizes;have m:=F.len;let zero:Array Value:=if vs.length*R.sz=0 then #[]else z.cells
  let c:Array Value:=(lX (vs.length*R.sz)).map (zero[· %zero.size]!);have j:c.size=vs.length*R.sz:=by simp[c]
  obtain⟨out,s,L⟩:=Yv R.pos vs 0 c e (by rw[j];simp);have f:=flat_len e;have t:out.toList=(vs.map fun v=>v.cells.toList).flatten:=by
    rw[L,pf];simp only[MF,List.take_zero,cD,fT];rw[cC (by rw[cr,j,f];omega),List.append_nil]
  have k:out.size=vs.length*R.sz:=by rw[<-cr,t,f]
  have r:(a.map fun p=>(p.1,ev n env p.2)).toList=vs.zipIdx.map fun p=>(p.2,p.1):=by simpa using hx
  have B:(bl (ev n env) ⟨d,.buildSlice T vs.length a,ty,pos,af,g⟩).run P w=.ok (.value<|.slice (aj ⟨w.heap.size,0,aw⟩) vs.length vs.length) (w.alloc<|.cells out E):=by
    simp only[bl,Instr.buildSlice,cA,fp,dt];have M:¬(vs.length*R.sz>2 ^ 24):=by omega
    by_cases y:vs.length*R.sz=0
    · simp only[ct,fy,bp,K.desc,cY,O,q,pP,y,if_true];have:out= #[]:=Array.eq_empty_of_size_eq_zero (by rw[k,y]);have N:jz (fun i=>aj (i*R.sz,R.sz)) ((lX 0).map fun x=>(#[]:Array al)[x%(#[]:Array al).size]!) (a.map fun p=>(p.1,ev n env p.2)).toList=aj out:=by
        rw[r];have:c=(lX 0).map (fun x=>(#[]:Array al)[x%(#[]:Array al).size]!):=by simp[c,y]
        rw[<-this];exact s
      rw[N];simp[qH,kd,-hZ]
    · simp only[ct,fy,bp,K.desc,cY,O,q,pP,if_neg M,y,if_false,jw,dt,hz];have N:jz (fun i=>aj (i*R.sz,R.sz)) ((lX<|vs.length*R.sz).map fun x=>z.cells[x%z.cells.size]!) (a.map fun p=>(p.1,ev n env p.2)).toList=aj out:=by
        rw[r];have:c=(lX<|vs.length*R.sz).map (fun x=>z.cells[x%z.cells.size]!):=by simp[c,zero,y]
        rw[<-this];exact s
      rw[N];simp[qH,kd,-hZ]
  refine⟨_,_,B,Grow.alloc _ _,⟨out.toList,⟨by rw[cr,k,m],.inr ⟨w.heap.size,vs.length,out,by rw[m],fv _,PX _ _,by omega,?_,k,?_⟩⟩,?_⟩,?_⟩
  · unfold kO;have:vs.length<=vs.length*R.sz:=lp _ R.pos;omega
  · rw[ij];rw[cr,k,m];exact bq _
  · intro i I;have h5:=R.go (A':=fun b=>A b\/ob (.slice (aj ⟨w.heap.size,0,aw⟩) vs.length vs.length) b) (F.at i I) (Grow.alloc w (.cells out E)) (fun _ h=>h.elim) (fun b l hl=>by
      rcases l with l|l
      · exact l
      · simp[ob]at l;omega)
    rw[t];exact h5
  · intro b l;simp[ob]at l;exact l.symm
theorem qR{α:Type}{R:lD α}{E:aT}{f c:Nat}{a:Array (Nat×bo)}{len:Nat}{vs:List al}{xs:List α}(h:SH w0 M K w hp)(i:Nat)(v:kD P T E f c)(l:R.sz=f)
  (m:(a.toList.map fun p=>(p.1,ev n env p.2))=vs.zipIdx.map fun p=>(p.2,p.1)) (e:vs.length=len) (s:K7 R w (SH.A M hp) vs xs) (j:ll (len*f) 16777216=ba)
  (k:∀w' u,SH w0 M K w' (bV hp i (.own R E u xs))->WL P ops Q rest n (gD env d u) w'):
  WL P ops Q (⟨d,.buildSlice T len a,ty,pos,af,aw⟩::rest) n env w:=by
 obtain⟨u,w',q,r,x,t⟩:=run_bs (d:=d) (ty:=ty) (pos:=pos) (af:=af) (g:=aw) v l m e s h.lt<|gn j;exact J q<|k w' u<|h.wJ i r x fun b o=>lE<|t b o
theorem run_places{P:cc}{w:aq}:∀(a:List Field) (pl:List (Nat×Nat)),a.map (fun f=>(f.offset,(P.info? f.type).map (·.size)))=pl.map (fun p=>(p.1,aj p.2))->
    (a.mapM (m:=Sem) fun f=>do pure (f.offset,<-fp f.type)).run P w=.ok pl w
  |[],[],_=>rfl
  |[],_::_,h=>by simp at h
  |_::_,[],h=>by simp at h
  |f::a,p::pl,h=>by
    simp only[cj,List.cons.injEq,iu]at h;obtain⟨⟨g,c⟩,j⟩:=h;have d:=run_places (w:=w) a pl j;obtain⟨i,b,e⟩:∃i,P.info? f.type=aj i/\i.size=p.2:=by
      cases b:P.info? f.type with
      |none=>simp[b]at c
      |some i=>simp[b]at c;exact⟨i,Z,c⟩
    rw[mx];simp only[ct,fp,dt,fy,bp,b,cY,e,g];simp only[fp,dt]at d;rw[d];simp
theorem pI{zs out:List al}{pl:List (Nat×Nat)}{a:Array (Nat×bo)}{pv:List (Nat×al)}(n:Struct P T zs pl)(hp:(a.toList.map fun p=>(p.1,ρ p.2))=pv)(r:FillOk pl zs pv out):
  (bl ρ ⟨d,.build T a,ty,pos,af,g⟩).run P w=.ok (.value (.agg out.toArray)) w:=by
 obtain⟨o,k,j⟩:=n.desc;obtain⟨i,c,hz⟩:∃i,P.info? T=aj i/\i.zero=aj (.agg zs.toArray):=by
  have:=n.zero;cases c:P.info? T with
  |none=>simp[c]at this
  |some i=>simp[c]at this;exact⟨i,Z,this⟩
 have q:=run_places (w:=w) o.toList pl j;have l:(o.mapM (m:=Sem) fun f=>do pure (f.offset,<-fp f.type)).run P w=.ok pl.toArray w:=by
  rw[Array.mapM_eq_mapM_toList];simp only[Sem.run_map,q,bp]
 have h:(a.map fun p=>(p.1,ρ p.2)).toList=pv:=by rw[<-hp];simp
 have b:=fill_ok r;simp only[bl,Instr.build,jw,dt,cA];simp only[ct,fy,bp,c,cY,hz,k,l,h,pe];have e:(fun(x:Nat)=>pl.toArray[x]?)=fun(i:Nat)=>pl[i]? :=by funext x;simp
 rw[e,b];simp
def isNil:al->Bool| .slice aw _ _=>ba|_=>ao
theorem Fs{α:Type}{R:lD α}{T2 E:aT}{f:Nat}{B A:BS}{l:List α}{i:aq}(h:SliceOf P T E f)(j:ρ x=v)(k:eF R i B A v l)(e:ρ y=.slice aw 0 0):(bl ρ ⟨d,.binOp .eql T x y T2,ty,pos,af,g⟩).run P w=.ok (.value (.bool (isNil v))) w:=by
 obtain⟨a,cap,rfl,n,o,p,m⟩:=k;have b:∀a l c,(oE Op.maxDepth T (.slice a l c)<|.slice aw 0 0).run P w=.ok a.isNone w:=by
  intro a l c;show(oE (9999+1) T (.slice a l c)<|.slice aw 0 0).run P w=_;unfold oE;simp only[ct,cA,fy,bp,h.desc,cY];cases a<;>simp
 cases a<;>simp[bl,j,e,gi,kx,isNil,Op.equal,b]
theorem qi{α:Type}{R:lD α}{B A:BS}{l:List α}(c:eF R w B A v l)(h:isNil v=ba):v=.slice aw 0 0/\l=[]:=by
 obtain⟨a,cap,rfl,e,f,d,g⟩:=c;cases a with
 |none=>
  have:=d Z;subst this;have b:l.length=0:=by omega
  exact⟨by rw[b],cl b⟩
 |some a=>simp[isNil]at h
theorem SH.wM{α:Type}{R:lD α}{E:aT}{l:List α}{k:Int}{a:α}{b:Nat}(h:SH w0 M K w hp)(i:Nat)(j:hp i=.own R E v l)(p:ob v b)(f:l[k.toNat]? =aj a):
    ∃cs,At w b (k.toNat*R.sz) cs/\R.rd w (SH.A M hp) cs a:=by
  have c:k.toNat<l.length:=by
    rcases cF k.toNat l.length with h|h
    · exact h
    · rw[bt h]at f;cases f
  have g:l[k.toNat]=a:=by rw[bc c]at f;exact cN f
  obtain⟨a',cap,rfl,s,t,u,n⟩:=h.dx i j;obtain⟨b',o,cells,F,m,rfl,_,q,d⟩:=n k.toNat c;have:b=b':=p;subst this;have ho:o=0:=by
    obtain⟨xs,r,_⟩:=h.bJ i j;rcases r.2 with⟨e,_⟩|⟨_,_,_,e,_⟩
    · cases e
    · cases e;rfl
  subst ho;rw[g]at d;rw[fT]at d;exact⟨_,⟨cells,F,m,q,by rw[R.len d]⟩,d⟩
theorem SH.uB{α:Type}{R:lD α}{E:aT}{j:Nat}{l:List α}{k:Int}{a:α}(h:SH w0 M K w hp)(i:Nat)(c:hp i=.own R E v l)(n:SliceOf P T E j)(m:R.sz=j)(e:0<=k)(o:l[k.toNat]? =aj a):
    ∃b,ob v b/\IxOk P T v k (.pointer (aj ⟨b,k.toNat*j,aw⟩)):=by
  subst m;have s:k.toNat<l.length:=by
    rcases cF k.toNat l.length with h|h
    · exact h
    · rw[bt h]at o;cases o
  obtain⟨xs,t,_⟩:=h.bJ i c;rcases t.2 with⟨rfl,hn⟩|⟨g',cap,cur,rfl,_⟩
  · omega
  refine⟨g',Z,fun ρ x y w d ty pos af g r q=>?_⟩;obtain⟨i,c,m⟩:∃i,P.info? E=aj i/\i.size=R.sz:=by
    have:=n.info;cases c:P.info? E with
    |none=>simp[c]at this
    |some i=>simp[c]at this;exact⟨i,Z,this⟩
  simp only[bl,sA,r,q,ie,cA,fp,dt];have p:(⟨g',0,aw⟩:kA).add (k.toNat*R.sz)=⟨g',k.toNat*R.sz,aw⟩:=by
    unfold hF;split
    · next hz=>rw[hz]
    · simp
  have f:k<(l.length:Int):=by omega
  simp[n.desc,c,m,e,f,p]
theorem SH.cutO{α:Type}{R:lD α}{E:aT}{Q:Nat}{l:List α}{b:Int}(h:SH w0 M K w hp)(i:Nat)(B:hp i=.own R E v l)(p:SliceOf P T E Q)(hs:R.sz=Q)(m:0<=b)(S:b<=l.length):
    ∃u,SH w0 M K w (bV hp i (.own R E u (l.take b.toNat)))/\SlOk P T v 0 b l.length u:=by
  subst hs;have n:b.toNat<=l.length:=by omega
  have d:(l.take b.toNat).length=b.toNat:=by rw[ca];omega
  obtain⟨xs,N,q2⟩:=h.bJ i B;obtain⟨u,C,hr⟩:=r_sl (P:=P) (T:=T) p (h.dx i B) (Int.le_refl 0) m S;have hv:∃cap,v=.slice aw 0 0\/∃g,v=.slice (aj ⟨g,0,aw⟩) l.length cap:=by
    rcases N.2 with⟨rfl,_⟩|⟨g',cap,cur,rfl,_⟩
    · exact⟨0,.inl Z⟩
    · exact⟨cap,.inr ⟨g',Z⟩⟩
  have e:=C (fun o=>match o with| .tmp 0=>v| .const v=>v|_=>fW) (.tmp 0) aw (aj<|.const<|.int .i64 b) w aw 0 "" #[] aw Z (.inl ⟨Z,Z⟩) (.inr Z);rcases N.2 with⟨rfl,hn⟩|⟨g',cap,cur,rfl,e1,e2,e3,e4,e5,e6⟩
  · have F:l=[]:=cl hn;subst F;obtain⟨a,cap,rfl,h1,h2,h3,h4⟩:=hr;have L:b=0:=by simp at S;omega
    subst L;have:a=aw/\cap=0:=by
      obtain⟨q,k⟩:∃q,P.info? E=aj q:=by
        have:=p.info;cases r:P.info? E with
        |none=>simp[r]at this
        |some i=>exact⟨i,rfl⟩
      simp[bl,iy,iS,cA,p.desc,db,ew,ie,fp,dt,k,cut]at e;exact⟨e.1.symm,e.2.symm⟩
    obtain⟨rfl,rfl⟩:=this;refine⟨_,?_,C⟩;have:=h.step (c:=.own R E (.slice aw 0 0) ([]:List α)) i (bL.refl BE w) (fun _ h=>h.elim) (fun _ h=>h.elim) cu.nil;simpa[cut]using this
  · have G:u=.slice (aj ⟨g',0,aw⟩) b.toNat cap:=by
      obtain⟨q,k,s⟩:∃q,P.info? E=aj q/\q.size=R.sz:=by
        have:=p.info;cases r:P.info? E with
        |none=>simp[r]at this
        |some i=>simp[r]at this;exact⟨i,Z,this⟩
      obtain⟨t,rfl⟩:=bs m;have I:t<=cap:=by simp at n;omega
      have z:(⟨g',0,aw⟩:kA).add 0=⟨g',0,aw⟩:=rfl;have a0:(0:Int)<=(t:Int):=hS t;have X:(t:Int)<=(cap:Int):=by omega
      by_cases y:cap=0
      · subst y;have m:t=0:=by omega
        subst m;simp[bl,iy,iS,cA,p.desc,db,ew,ie,fp,dt,k,s]at e;simpa using e.symm
      · simp[bl,iy,iS,cA,p.desc,db,ew,ie,fp,dt,k,s,I,y,z]at e;simpa using e.symm
    subst G;refine⟨_,h.step (c:=.own R E (.slice (aj ⟨g',0,aw⟩) b.toNat cap) (l.take b.toNat)) i (bL.refl BE w) (fun _ h=>h.elim) (fun x f _=>by rw[B];exact f) ⟨xs.take (b.toNat*R.sz),⟨?_,.inr ⟨g',cap,cur,by rw[d],e1,e2,?_,e4,e5,?_⟩⟩,?_⟩,C⟩
    · rw[d,ca,N.1,cO (bd _ n)]
    · rw[d];omega
    · rw[d,<-e6,ea,cO (bd _ n)]
    · intro j O;rw[d]at O;have A:j<l.length:=by omega
      have r:=R.go (A':=fun x=>(M x\/SH.av hp i (.own R E (.slice (aj ⟨g',0,aw⟩) b.toNat cap) (l.take b.toNat)) x)\/ob (.slice (aj ⟨g',0,aw⟩) b.toNat cap) x) (q2 j A) (bL.refl BE w) (fun _ h=>h.elim) (fun x f _=>by
        rcases f with(f|f|f)|f
        · exact .inl<|.inl f
        · exact .inl<|.inr<|lF f
        · exact .inr f
        · exact .inr f)
      rw[kn];rw[eh,ea,cO]
      · exact r
      · have:(j+1)*R.sz<=b.toNat*R.sz:=bd _ O;rw[cg]at this;omega
theorem QW{α:Type}{l:List α}{i o s off:Nat}{x:α}(ho:o=i+off):((l.set o x).drop i).take s=((l.drop i).take s).set off x:=by
 subst ho;rw[tb,if_neg V,Nat.add_sub_cancel_left,mA]
theorem Ol{α:Type}{l:List α}{i o s:Nat}{x:α}(h:o<i\/i+s<=o):((l.set o x).drop i).take s=(l.drop i).take s:=by
  rw[tb];split
  · rfl
  · rw[mA,List.set_eq_of_length_le];rw[ca];omega
theorem K8{α:Type}{R:lD α}{E:aT}{C:Nat}{l:List α}{k:Int}{a a':α}{b off:Nat}{z u:al}(h:SH w0 M K w hp)(i:Nat)(r:hp i=.own R E u l)(G:ob u b)(hs:R.sz=C)(s:l[k.toNat]? =aj a)(hT:One P T z)(c:ev n env x=.pointer (aj ⟨b,k.toNat*C+off,aw⟩))
    (hy:ev n env y=v) (h1:v.oneCell'=ba) (o:nc off C=ba) (hset:∀cs,R.rd w (SH.A M hp) cs a->R.rd w (SH.A M hp) (cs.set off v) a')
    (kk:∀w',SH w0 M K w' (bV hp i (.own R E u (l.set k.toNat a')))->WL P ops Q rest n (gD env d fW) w'):
    WL P ops Q (⟨d,.store T x y,ty,pos,af,aw⟩::rest) n env w:=by
  subst hs;rw[lA]at o;have g:k.toNat<l.length:=by
    rcases cF k.toNat l.length with h|h
    · exact h
    · rw[bt h]at s;cases s
  have B:l[k.toNat]=a:=by rw[bc g]at s;exact cN s
  generalize k.toNat=k at*;have e:∀b,ob u b->SH.A M hp b:=fun b G=>.inr ⟨i,by rw[r];exact G⟩;obtain⟨xs,S,q3⟩:=h.bJ i r;rcases S.2 with⟨rfl,hn⟩|⟨g',cap,cur,rfl,e1,e2,e3,e4,e5,e6⟩
  · omega
  have t:b=g':=G;subst t;have L:(k+1)*R.sz<=l.length*R.sz:=bd _ g;have a0:l.length*R.sz<=cap*R.sz:=bd _ e3;rw[cg]at L;have I:k*R.sz+off<cur.size:=by omega
  have p:=bL.xH w b<|.cells (cur.setIfInBounds (k*R.sz+off) v) E (0,0);refine BF (Tk hT c e2 I hy h1) (kk _ (h.step i p (fun x c _=>by rw[r];exact c) (fun x c _=>by rw[r];exact c) ⟨xs.set (k*R.sz+off) v,⟨?_,.inr ⟨b,cap,cur.setIfInBounds (k*R.sz+off) v,?_,e1,?_,?_,e4,?_,?_⟩⟩,?_⟩))
  · rw[cm,cm];exact S.1
  · rw[cm]
  · rw[wK (iT e2)]
  · rw[cm];exact e3
  · simpa using e5
  · rw[cm,jy,mA,e6]
  · intro f F;have N:f<l.length:=by rwa[cm]at F
    have m:=fun cs a(h:R.rd w (SH.A M hp) cs a)=>R.go (A':=fun x=>(M x\/(SH.av hp i (.own R E (.slice (aj ⟨b,0,aw⟩) l.length cap) (l.set k a'))) x)\/ob (.slice (aj ⟨b,0,aw⟩) l.length cap) x) h p (fun x c _=>e x c) (fun x c _=>by
      rcases c with(c|c|c)|c
      · exact .inl c
      · exact .inr<|lF c
      · exact e x c
      · exact e x c)
    have O:=fun j(X:j<l.length)=>R.go (A':=SH.A M hp) (q3 j X) (bL.refl BE w) (fun _ h=>h.elim) fun x c _=>.inl c;by_cases q:f=k
    · subst q;rw[mc,QW rfl];exact m _ _<|hset _<|B▸O f g
    · rw[mF (Ne.symm q),Ol]
      · exact m _ _<|O f N
      · rcases cF k f with h5|h5
        · left;have:(k+1)*R.sz<=f*R.sz:=bd _ h5;rw[cg]at this;omega
        · right;have:(f+1)*R.sz<=k*R.sz:=bd _ V;rw[cg]at this;omega
structure WK(P:cc)(ops:Array ee)(w:aq)(Q:Act->Prop)(l:List ee)(n:Nat)(env:Nat->al):Prop where
 out:pc P ops (fun x=>x=w) Q l (act n env)
end
section
variable{P:cc}{ops:Array ee}
theorem wN{w:aq}{Q:Act->Prop}:∀{l:List ee} {a:Act},pc P ops (fun x=>x=w) Q l a->wpStill P ops w Q l a
  |[],_,h=>h
  |o::rest,a,h=>by
    unfold pc at h;unfold wpStill;split
    · rename_i d;rw[if_pos d]at h;obtain⟨v,i,c⟩:=h;have b:=i w Z;unfold Oper.quietAt at b;unfold Oper.still;generalize (bl a.eval o).run P w=r at b⊢;cases r with
      |ok n w'=>
        cases n<;>simp only[sC]at b<;>simp only[Oper.stillUpon];case value u=>exact⟨b.1,by rw[b.2];exact wN c⟩
        case skip=>exact⟨b.1,by rw[<-b.2];exact wN c⟩
        case enter f args=>exact⟨b.1,v,b.2.mono (fun e g h=>h),wN c⟩
      |halt x w'=>simp only[sC]at b
    · rename_i d;rw[if_neg d]at h;exact wN h
end
section
variable{P:cc}{ops:Array ee}{Q:fg->Act->aq->Prop}{n:Nat}{env:Nat->al}{w w' w0:aq}{M K:BS}{hp:Nat->Chunk}{rest:List ee}
 {d:Option Nat} {op:Op} {ty:aT} {pos:String} {af:Array hO} {v:al} {g:Option (Nat×Bool)} {T:aT} {ρ:bo->al} {x y:bo}
variable{Q1:Act->Prop}
theorem aH(b:(bl (ev n env) ⟨d,op,ty,pos,af,aw⟩).run P w=.ok (.value v) w)(h:WK P ops w Q1 rest n (gD env d v)):WK P ops w Q1 (⟨d,op,ty,pos,af,aw⟩::rest) n env:=by
  refine⟨?_⟩;unfold pc;have a:cq ⟨d,op,ty,pos,af,aw⟩ (ez ops (act n env).tmps)=true:=rfl;rw[if_pos a];refine⟨v,fun w' c=>?_,?_⟩
  · subst c;unfold Oper.quietAt;rw[gY,b];exact⟨Z,Z⟩
  · rw[Fq];exact h.out
theorem gp{j dj:Nat}{b:Bool}(g:(ops[j]?).bind (·.dst)=aj dj)(e:ev n env (.tmp dj)=.bool b)(h:WK P ops w Q1 (⟨d,op,ty,pos,af,aw⟩::rest) n env):WK P ops w Q1 (⟨d,op,ty,pos,af,aj (j,b)⟩::rest) n env:=by
  have c:=MG (ops:=ops) g e;have f:cq ⟨d,op,ty,pos,af,aj (j,b)⟩ (ez ops (act n env).tmps)=true:=by simp[cq,c]
  have a:cq ⟨d,op,ty,pos,af,aw⟩ (ez ops (act n env).tmps)=true:=rfl;obtain⟨h⟩:=h;refine⟨?_⟩;unfold pc at h⊢;rw[if_pos a]at h;rw[if_pos f];exact h
theorem wk_skip(a:cq ⟨d,op,ty,pos,af,g⟩ (ez ops (act n env).tmps)=ao)(h:WK P ops w Q1 rest n (gD env d fW)):WK P ops w Q1 (⟨d,op,ty,pos,af,g⟩::rest) n env:=by
 refine⟨?_⟩;unfold pc;rw[if_neg (by rw[a];decide),Fq];exact h.out
theorem dQ{j dj:Nat}{b b':Bool}(f:(ops[j]?).bind (·.dst)=aj dj)(e:ev n env (.tmp dj)=.bool b')(a:(b'==b)=ao)(h:WK P ops w Q1 rest n (gD env d fW)):WK P ops w Q1 (⟨d,op,ty,pos,af,aj (j,b)⟩::rest) n env:=
  wk_skip (by have c:=MG (ops:=ops) f e;simpa[cq,c]using a) h
theorem QX{j dj:Nat}(c:(ops[j]?).bind (·.dst)=aj dj)(b:ev n env (.tmp dj)=fW):ez ops (act n env).tmps j=none:=by
  unfold ez;have a:(act n env).eval (.tmp dj)=undef:=by rw[gY];exact b
  simp only[c,cJ];simp only[hX]at a;cases h2:(act n env).tmps[dj]? with
  |none=>rfl
  |some x=>simp[cQ,h2]at a;subst a;rfl
theorem BH{j dj:Nat}{b:Bool}(a:(ops[j]?).bind (·.dst)=aj dj)(c:ev n env (.tmp dj)=fW)(h:WK P ops w Q1 rest n (gD env d fW)):WK P ops w Q1 (⟨d,op,ty,pos,af,aj (j,b)⟩::rest) n env:=
  wk_skip (by simp[cq,QX a c]) h
theorem wl_offU{j dj:Nat}{b:Bool}(c:(ops[j]?).bind (·.dst)=aj dj)(e:ev n env (.tmp dj)=fW)(h:WL P ops Q rest n (gD env d fW) w):WL P ops Q (⟨d,op,ty,pos,af,aj (j,b)⟩::rest) n env w:=by
  have a:cq ⟨d,op,ty,pos,af,aj (j,b)⟩ (ez ops (act n env).tmps)=false:=by simp[cq,QX c e]
  refine⟨?_⟩;unfold np;rw[if_neg (by rw[a];decide),Fq];exact h.out
theorem wk_gd{j dj:Nat}{b a:Bool}(c:Bool)(i:(ops[j]?).bind (·.dst)=aj dj)(g:ev n env (.tmp dj)=gv c (.bool b))
    (l:(c&&(b==a))=ba->(bl (ev n env) ⟨d,op,ty,pos,af,aw⟩).run P w=.ok (.value v) w) (h:WK P ops w Q1 rest n (gD env d (gv (c&&(b==a)) v))):
    WK P ops w Q1 (⟨d,op,ty,pos,af,aj (j,a)⟩::rest) n env:=by
  by_cases e:(c&&(b==a))=ba
  · have k:=gl e;have o:=gr e;rw[eB k]at g;rw[eB e]at h;have m:b=a:=by simpa using o
    subst m;exact gp i g<|aH (l e) h
  · have f:(c&&(b==a))=false:=by simpa using e
    rw[f]at h;cases c with
    |true=>exact dQ i g (by simpa using f) h
    |false=>exact BH i g h
theorem nX{j dj:Nat}{b a:Bool}(e:(ops[j]?).bind (·.dst)=aj dj)(f:ev n env (.tmp dj)=.bool b)
    (c:(b==a)=ba->(bl (ev n env) ⟨d,op,ty,pos,af,aw⟩).run P w=.ok (.value v) w) (h:WK P ops w Q1 rest n (gD env d (gv (b==a) v))):
    WK P ops w Q1 (⟨d,op,ty,pos,af,aj (j,a)⟩::rest) n env:=
  wk_gd ba e f (fun h=>c (by simpa using h)) (by simpa using h)
theorem Cn{l:List ee}(h:WL P ops Q l n env w):WK P ops w (fun a=>np P ops Q l a w) [] n env:=⟨h.out⟩
theorem wC{id:Nat}(k:Nat){l:List ee}(b:P.follows .mixedOrders=ba)(c:qP .any l.toArray k=ba)(h:SH w0 M K w hp)
  (kk:∀w,SH w0 M K w hp->WK P l.toArray w (fun a=>np P l.toArray Q (l.drop k) a w) (l.take k) n env):WC P (fS id l.toArray ba) Q n env w:=
 ⟨se k b c (wN (kk _ (h.grow (Grow.drew w))).out)⟩
theorem ry{id:Nat}{l:List ee}(b:P.follows .mixedOrders=ba)(c:Region.lexB .any l.toArray=ba)(h:SH w0 M K w hp)
  (kk:∀w,SH w0 M K w hp->WK P l.toArray w (fun a=>∀w',w'=w->Q .normal a w') l n env):WC P (fS id l.toArray ba) Q n env w:=
 ⟨wp_region_quiet (C:=fun x=>x=w.drew) b c Z (kk _ (h.grow (Grow.drew w))).out⟩
theorem rG(h:Q .normal (act n env) w):WK P ops w (fun a=>∀w',w'=w->Q .normal a w') [] n env:=⟨fun _ e=>by rw[e];exact h⟩
end
open Go.RowKit
section
variable{P:cc}{ops:Array ee}{Q:fg->Act->aq->Prop}{n:Nat}{env:Nat->al}{w w' w0:aq}{M K:BS}{hp:Nat->Chunk}{rest:List ee}
 {d:Option Nat} {op:Op} {ty:aT} {pos:String} {af:Array hO} {v:al} {g:Option (Nat×Bool)} {T:aT} {ρ:bo->al} {x y:bo}
theorem GY{v:al}(h:v.oneCell'=ba):v.cells= #[v]:=by
 cases v<;>first|rfl|simp[eS]at h
theorem dU{v:al}(h:v.oneCell'=ba):v.cells.toList=[v]:=by rw[GY h]
theorem eF.rdc{α:Type}{R:lD α}{A:BS}{l:List α}(h:di R w A v l):(yJ R).rd w A v.cells.toList l:=by
 rw[GY h.one];exact⟨v,Z,h⟩
theorem gvn{c d:Bool}{v:al}(h:c=ba):gv (c&&d) v=gv d v:=by rw[h,mT]
theorem aL:∀v∈([]:List al),v.oneCell'=true:=fun _ h=>by cases h
theorem ae{a:al}{l:List al}(b:a.oneCell'=ba)(c:∀v∈l,v.oneCell'=ba):∀v∈a::l,v.oneCell'=true:=fun v h=>by
  rcases bn.1 h with rfl|h
  · exact b
  · exact c v h
def Room{α:Type}(a:Nat)(l m:List α):Prop:=(l.length+m.length)*a<=140737488355328/\l.length+m.length<=9223372036854775807
instance {α:Type} (bytes:Nat) (l m:List α):Decidable (Room bytes l m):=inferInstanceAs (Decidable (_/\_))
theorem Room.mk{α:Type}{a:Nat}{l m:List α}(b:(l.length+m.length)*a<=140737488355328)(c:l.length+m.length<=9223372036854775807):Room a l m:=⟨b,c⟩
theorem set1{α:Type}{R:lD α}{A:BS}{cs:List al}{a a':α}{v:al}(h:R.rd w A v.cells.toList a')(e:R.rd w A cs a)(b:R.sz=1:=by rfl)(d:v.oneCell'=true:=by assumption):R.rd w A (cs.set 0 v) a':=by
 have:=R.len e;rw[b]at this
 match cs,this with
 |[c],_=>rw[dU d]at h;exact h
theorem iN{f:fR}{first captured:Array al}{xs:Array bo}{a:Array aT}{args:List al}(b:Tn P f)(g:ev n env x=.func (.func f) first captured)
  (i:first.toList++xs.toList.map (ev n env)++captured.toList=args) (c:bE P f args.toArray w (fun e w'=>∃v,e=.returned v/\WL P ops Q rest n (gD env d v) w')):
  WL P ops Q (⟨d,.call {callee:=.value x,args:=xs,argTypes:=a},ty,pos,af,aw⟩::rest) n env w:=
 bX b g i c (fun _ _ h=>h)
theorem lv{α:Type}{a b:α}{l m:List α}(h:a=b)(c:l=m):a::l=b::m:=by rw[h,c]
theorem w_callG{f:fR}{first captured:Array al}{xs:Array bo}{o:Array aT}{args:List al}{j dj:Nat}{b a:Bool}(g:Bool)(m:(ops[j]?).bind (·.dst)=aj dj)(l:ev n env (.tmp dj)=gv g (.bool b))(s:Tn P f)(t:ev n env x=.func (.func f) first captured)
    (p:(g&&(b==a))=ba->first.toList++xs.toList.map (ev n env)++captured.toList=args) (r:bE P f args.toArray w (fun e w'=>Grow w w'/\e=.returned v))
    (k:∀w',Grow w w'->WL P ops Q rest n (gD env d (gv (g&&(b==a)) v)) w'):
    WL P ops Q (⟨d,.call {callee:=.value x,args:=xs,argTypes:=o},ty,pos,af,aj (j,a)⟩::rest) n env w:=by
  by_cases c:(g&&(b==a))=ba
  · have q:=gl c;have z:=gr c;rw[eB q]at l;have u:b=a:=by simpa using z
    subst u;refine Xw m l<|bX s t (p c) r ?_;rintro e w'⟨y,rfl⟩;refine⟨_,Z,?_⟩;have:=k w' y;rw[eB c]at this;exact this
  · have i:(g&&(b==a))=false:=by simpa using c
    have h:=k w<|bL.refl _ _;rw[i]at h;cases g with
    |true=>exact jS m l (by simpa using i) h
    |false=>exact wl_offU m l h
theorem w_callG0{f:fR}{first captured:Array al}{xs:Array bo}{c:Array aT}{args:List al}{j dj:Nat}{b a:Bool}(o:(ops[j]?).bind (·.dst)=aj dj)(m:ev n env (.tmp dj)=.bool b)(g:Tn P f)(l:ev n env x=.func (.func f) first captured)
    (p:(b==a)=ba->first.toList++xs.toList.map (ev n env)++captured.toList=args) (i:bE P f args.toArray w (fun e w'=>Grow w w'/\e=.returned v))
    (k:∀w',Grow w w'->WL P ops Q rest n (gD env d (gv (b==a) v)) w'):
    WL P ops Q (⟨d,.call {callee:=.value x,args:=xs,argTypes:=c},ty,pos,af,aj (j,a)⟩::rest) n env w:=
  w_callG ba o m g l (fun h=>p (by simpa using h)) i (by simpa using k)
theorem SH.dX{α:Type}{R:lD α}{E:aT}{l:List α}(h:SH w0 M BE w hp)(i:Nat)(c:hp i=.own R E v l):cu R E w M v l/\∀b,ob v b->w0.heap.size<=b:=
 ⟨cu.go (h.bJ i c) (bL.refl BE w) (fun _ h=>h.elim) (fun _ h=>h.elim) (fun b a _=>.inl (.inl a)),fun b a=>h.fresh i b (by rw[c];exact a)⟩
theorem eU{s:Nat}:∀b,ob (.slice aw 0 0) b->s<=b:=fun _ h=>h.elim
theorem qj{P:cc}{E:aT}{z:al}{s b:Nat}(h:(P.info? E).map (fun i=>(i.zero,i.size,i.bytes))=aj (aj z,s,b))(hz:z.cells.size=s):∃i z,P.info? E=aj i/\i.zero=aj z/\i.size=s/\i.bytes=b/\z.cells.size=s:=by
 cases hi:P.info? E with
 |none=>simp[hi]at h
 |some i=>simp[hi]at h;exact⟨i,z,Z,h.1,h.2.1,h.2.2,hz⟩
theorem r_max{T2:aT}{p q:Int}(a:ρ x=.int .i64 p)(b:ρ y=.int .i64 q):(bl ρ ⟨d,.call {callee:=.builtin .max,args:= #[x,y],argTypes:= #[T,T2]},ty,pos,af,g⟩).run P w=.ok (.value (.int .i64 (max p q))) w:=by
 have h:(if q>p then q else p)=max p q:=by split<;>omega
 simp[bl,hH,ju,iQ,Builtin.max_,Builtin.max2,a,b,h]
theorem r_min{T2:aT}{p q:Int}(a:ρ x=.int .i64 p)(b:ρ y=.int .i64 q):(bl ρ ⟨d,.call {callee:=.builtin .min,args:= #[x,y],argTypes:= #[T,T2]},ty,pos,af,g⟩).run P w=.ok (.value (.int .i64 (min p q))) w:=by
 have h:(if q<p then q else p)=min p q:=by split<;>omega
 simp[bl,hH,ju,iQ,Builtin.min_,Builtin.min2,a,b,h]
theorem Dc{zs vs cs:List al}{b i:Nat}(f:SH w0 M K w hp)(k:hp i=.blk b cs)(l:wH P T zs)(e:vs.length=zs.length)(j:cs=vs):(qG T ⟨b,0,aw⟩).run P w=.ok (.agg vs.toArray) w:=by
 subst j;have h:=yR (P:=P) (ρ:=fun _=>.pointer (aj ⟨b,0,aw⟩)) (d:=aw) (ty:=0) (pos:= "") (af:= #[]) (g:=aw) (x:=.tmp 0) (o:=0) (vs:=cs) f i k l Z (by rw[<-e];simp) e;simp only[bl,oX,hY]at h;have c:((qG T ⟨b,0,aw⟩).run P w).andThen (fun a w'=>qk (Next.value a) w')=qk (Next.value (Value.agg cs.toArray)) w:=by simpa using h
 cases hres:(qG T ⟨b,0,aw⟩).run P w with
 |ok v w'=>rw[hres]at c;simp at c;rw[c.1,c.2]
 |halt x w'=>rw[hres]at c;simp[Result.andThen]at c
theorem fin_tct{g:sd}{R:mm->aq->Prop}{t u a:Tmp}{T:aT}{v1 v3:al}{zs vs:List al}{b:Nat}(p:g.results= #[.tmp t,.cell a T,.tmp u])(k:ev n env (.tmp t)=v1)(m:ev n env (.tmp a)=.pointer (aj ⟨b,0,aw⟩))(l:ev n env (.tmp u)=v3)
  (o:SH w0 M K w hp) (i:Nat) (j:hp i=.blk b vs) (r:wH P T zs) (q:vs.length=zs.length) (h:R (.returned (.tuple #[v1,.agg vs.toArray,v3])) w):jj P g R .ret (act n env) w:=by
 refine⟨Z,_,?_,h⟩;have d:=congrFun (gY n env)<|.tmp t;have e:=congrFun (gY n env)<|.tmp u;have c:=congrFun (gY n env)<|.tmp a;rw[k]at d;rw[l]at e;rw[m]at c;simp only[hX]at d e c;rw[cQ]at d e c;have f:=Dc (P:=P) o j r q Z;unfold results;rw[p];simp[d,e,c,asAddr,f]
theorem SH.kF{α:Type}{R:lD α}{E:aT}{l:List α}(h:SH w0 M K w hp)(j i:Nat)(n:hp j=.own R E v l)(u:hp i=.no)(t:j≠i):SH w0 M K w (bV (bV hp j .no) i (.own R E v l)):=by
  have ho:=h.bJ j n;have d:∀x b,(bV (bV hp j .no) i (.own R E v l) x).own' b->∃y,(hp y).own' b/\(x=i->y=j)/\(x≠i->y=x/\x≠j):=by
    intro x b a;by_cases e:x=i
    · subst e;rw[bW]at a;exact⟨j,by rw[n];exact a,fun _=>rfl,fun h=>absurd Z h⟩
    · rw[dZ e]at a;by_cases c:x=j
      · subst c;rw[bW]at a;exact a.elim
      · rw[dZ c]at a;exact⟨x,a,fun h=>absurd h e,fun _=>⟨Z,c⟩⟩
  have f:∀b,iU (bV (bV hp j .no) i<|.own R E v l) b->iU hp b:=fun b⟨x,o⟩=>let ⟨y,g,_⟩:=d x b o;⟨y,g⟩;refine⟨h.keep,h.ltM,fun x b a=>let ⟨y,g,_⟩:=d x b a;h.apM y b g,fun x=>?_,fun x y k b o g=>?_,fun x b a=>let ⟨y,g,_⟩:=d x b a;h.old y b g⟩
  · by_cases e:x=i
    · subst e;rw[bW];have:=h.ok j;rw[n]at this;exact Chunk.sub this fun b a _=>f b a
    · rw[dZ e];by_cases c:x=j
      · subst c;rw[bW];trivial
      · rw[dZ c];exact Chunk.sub (h.ok x) (fun b a _=>f b a)
  · obtain⟨x',r,s,p⟩:=d x b o;obtain⟨q,k1,k2,m⟩:=d y b g;have:x'≠q:=by
      by_cases e:x=i
      · have c:y≠i:=fun h=>k<|e.trans h.symm;rw[s e,(m c).1];exact fun h=>(m c).2 h.symm
      · by_cases c:y=i
        · rw[k2 c,(p e).1];exact(p e).2
        · rw[(p e).1,(m c).1];exact k
    exact h.apart x' q this b r k1
theorem SH.gq{α:Type}{R:lD α}{l:List α}(h:SH w0 M K w hp)(j i:Nat)(a:hp j=.rd R v l):SH w0 M K w (bV hp i (.rd R v l)):=h.aK i (h.bC j a)
theorem SH.zb{α:Type}{R:lD α}{l:List α}(h:SH w0 M K w hp)(i:Nat)(c:hp i=.rd R v l):di R w M v l:=
 (h.bC i c).sub (fun b a _=>.inl a) (fun b a _=>.inl a)
def clone{α:Type}(b:Nat)(a:List α):Option (List α):=iF (Room b ([]:List α) a) (aj a)
structure Arr2(P:cc)(T E:aT):Prop where
  desc:P.underlying T=aj (.array 2 E)
  zero:∃z0 z1,(P.info? T).map (·.zero)=aj (aj (.agg #[z0,z1]))
  size:(P.info? E).map (·.size)=aj 1
  plain:∃F,P.underlying E=aj (.slice F)
theorem r_build2{E:aT}{x y:bo}{p q:al}(e:Arr2 P T E)(l:ρ x=p)(k:ρ y=q)(o:p.oneCell'=ba)(r:q.oneCell'=ba):(bl ρ ⟨d,.build T #[(0,x),(1,y)],ty,pos,af,g⟩).run P w=.ok (.value (.agg #[p,q])) w:=by
 obtain⟨f,h,hz⟩:=e.zero;obtain⟨i,a,c⟩:∃i,P.info? T=aj i/\i.zero=aj (.agg #[f,h]):=by
  cases a:P.info? T with
  |none=>simp[a]at hz
  |some i=>simp[a]at hz;exact⟨i,Z,hz⟩
 obtain⟨j,m,b⟩:∃j,P.info? E=aj j/\j.size=1:=by
  have:=e.size;cases a:P.info? E with
  |none=>simp[a]at this
  |some i=>simp[a]at this;exact⟨i,Z,this⟩
 have c1:=GY o;have c2:=GY r;simp only[bl,Instr.build,l,k,cA,jw,dt,fp];have n:(Value.agg #[f,h]).cells= #[f,h]:=rfl;simp[a,c,e.desc,m,b,jz,c1,c2,n,l,k]
theorem r_index2{E:aT}{x y:bo}{p q v:al}{k:Nat}(e:Arr2 P T E)(o:ρ x=.agg #[p,q])(n:ρ y=.int .i64 k)(a:[p,q][k]? =aj v):(bl ρ ⟨d,.index T x y,ty,pos,af,g⟩).run P w=.ok (.value v) w:=by
  obtain⟨F,r⟩:=e.plain;obtain⟨j,l,c⟩:∃j,P.info? E=aj j/\j.size=1:=by
    have:=e.size;cases hi:P.info? E with
    |none=>simp[hi]at this
    |some i=>simp[hi]at this;exact⟨i,Z,this⟩
  have f:k<2:=by
    rcases cF k 2 with h|h
    · exact h
    · rw[bt (by simpa using h)]at a;cases a
  have m:(#[p,q]:Array al)[k]? =aj v:=by simpa using a
  have b:((k:Int)<2):=by omega
  simp only[bl,Instr.index,o,n,cA,ie,part,isAgg,fp,dt];simp[e.desc,l,c,r,b,f];rw[bc (by simpa using f)]at a;exact cN a
structure PairI(P:cc)(T:aT):Prop where
 desc:∃f0 f1,P.underlying T=aj (.struct #[f0,f1])/\f0.name≠ "_" /\f1.name≠ "_" /\f0.offset=0/\f1.offset=1/\P.underlying f0.type=aj (.int .i64)/\P.underlying f1.type=aj (.int .i64)/\P.plainKey f0.type=ba/\P.plainKey f1.type=ba
 stood:P.stoodInHeld T=ao
 guard:P.eqGuardType P.depth T=ao
theorem eq_pairI(k:PairI P T)(a b c e:Int):(oE 10000 T (.agg #[.int .i64 a,.int .i64 b]) (.agg #[.int .i64 c,.int .i64 e])).run P w=.ok (ab (a=c)&&ab (b=e)) w:=by
  obtain⟨f,j,g,q,p,m,o1,o,l,i,k1⟩:=k.desc;have d:P.fieldsOf T= #[f,j]:=by simp[Program.fieldsOf,g]
  rw[show(10000:Nat)=9999+1 from rfl,run_equalIn_agg w 9999 T _ _ (by rw[d];exact g) k.stood,d];simp only[Op.eqFields,q,p,ne_eq,not_false_eq_true,if_true,m,o1,ct];rw[fL w i (xs:= #[.int .i64 a,.int .i64 b]) (off:=0) (v:=.int .i64 a) rfl];simp only[bp];rw[fL w i (xs:= #[.int .i64 c,.int .i64 e]) (off:=0) (v:=.int .i64 c) rfl];simp only[bp];rw[show(9999:Nat)=9998+1 from rfl,run_equalIn_int w 9998 f.type .i64 .i64 a c o];simp only[bp,pP,ct];by_cases h:a=c
  · subst h;simp only[beq_self_eq_true,Bool.not_true,cM,if_false];rw[fL w k1 (xs:= #[.int .i64 a,.int .i64 b]) (off:=1) (v:=.int .i64 b) rfl];simp only[bp];rw[fL w k1 (xs:= #[.int .i64 a,.int .i64 e]) (off:=1) (v:=.int .i64 e) rfl];simp only[bp];rw[run_equalIn_int w 9998 j.type .i64 .i64 b e l];by_cases n:b=e<;>simp[n]
  · simp[h]
theorem r_eqlP{T2:aT}{a b c e:Int}(f:PairI P T)(h:ρ x=.agg #[.int .i64 a,.int .i64 b])(i:ρ y=.agg #[.int .i64 c,.int .i64 e]):(bl ρ ⟨d,.binOp .eql T x y T2,ty,pos,af,g⟩).run P w=.ok (.value (.bool (ab (a=c)&&ab (b=e)))) w:=by
 simp only[bl,h,i,ct,run_eqGuard_agg w .eql T x y _ _ f.guard,bp,run_eql_struct,eq_pairI f];simp
theorem r_neqP{T2:aT}{a b c e:Int}(f:PairI P T)(h:ρ x=.agg #[.int .i64 a,.int .i64 b])(i:ρ y=.agg #[.int .i64 c,.int .i64 e]):(bl ρ ⟨d,.binOp .neq T x y T2,ty,pos,af,g⟩).run P w=.ok (.value (.bool (!(ab (a=c)&&ab (b=e))))) w:=by
 simp only[bl,h,i,ct,run_eqGuard_agg w .neq T x y _ _ f.guard,bp,run_neq_struct,eq_pairI f];simp
end
section
variable{σ:Type}{n:Nat}{e U7:Nat->al}{mod:Nat->Bool}{live:σ->List (Nat×al)}{J:σ->aq->Prop}{w:aq}
theorem bM(s:σ)(a:J s w)(b:Holds e (live s):=by repeat (first|exact U|refine⟨rfl,?_⟩))
 (c:JS mod e U7:=by repeat (first|(with_reducible exact JS.refl _ _)|(with_reducible exact JS.hav _ _ _)|(with_reducible refine JS.on ?_)|((with_reducible refine JS.hin ?_ ?_);rfl)|(with_reducible refine JS.un ?_)|((with_reducible refine JS.os ?_ ?_);rfl)|((with_reducible refine JS.uc ?_ ?_);rfl))):
 JP n mod U7 live J (act n e) w:=⟨s,e,rfl,c,b,a⟩
theorem iJ{b:σ->Nat}{c:σ}(s:σ)(d:J s w)(a:b s<b c:=by dsimp only;omega)(f:Holds e (live s):=by repeat (first|exact U|refine⟨rfl,?_⟩))
 (g:JS mod e U7:=by repeat (first|(with_reducible exact JS.refl _ _)|(with_reducible exact JS.hav _ _ _)|(with_reducible refine JS.on ?_)|((with_reducible refine JS.hin ?_ ?_);rfl)|(with_reducible refine JS.un ?_)|((with_reducible refine JS.os ?_ ?_);rfl)|((with_reducible refine JS.uc ?_ ?_);rfl))):
 JL n mod U7 live J b c (act n e) w:=⟨s,e,rfl,g,f,d,a⟩
end
section
variable{P:cc}{Q:fg->Act->aq->Prop}{n:Nat}{env:Nat->al}{w:aq}
theorem wc_rounds{c:Code}(m:Nat)(h:WC P c (Exit.then (pA P c Q m) Q) n env w):WC P (rn c) Q n env w:=⟨wp_loop_rounds (m+1) h.out⟩
theorem Iz{c:Code}{m:Nat}(h:WC P c (Exit.then (pA P c Q m) Q) n env w):Exit.then (pA P c Q (m+1)) Q .normal (act n env) w:=h.out
end
theorem SH.cn{w0 w:aq}{M K:BS}{hp:Nat->Chunk}(h:SH w0 M K w hp)(l:List (Nat×Chunk))(a:HoldsC hp l:=by repeat (first|exact U|refine⟨rfl,?_⟩)):SH w0 M K w (hset l):=h.canon l a
section
variable{α β σ ρ:Type}
theorem drop_lt{l:List α}{k:Nat}(h:ab ((k:Int)<(l.length:Int))=ba):∃x,l[k]? =aj x/\l.drop k=x::l.drop (k+1):=by
 have a:k<l.length:=by have:=of_decide_eq_true h;omega
 exact⟨l[k],bc a,cP a⟩
theorem drop_ge{l:List α}{k:Nat}(h:ab ((k:Int)<(l.length:Int))=ao):l.drop k=[]:=by
 have:=of_decide_eq_false h;exact cC V
theorem gW{body:α->σ->(σ->ρ)->ρ}{k:σ->ρ}{x:α}{l:List α}{s:σ}:each body k (x::l) s=body x s (each body k l):=rfl
theorem rz{body:α->σ->(σ->ρ)->ρ}{k:σ->ρ}{s:σ}:each body k [] s=k s:=rfl
theorem qU{body:Int->α->σ->(σ->ρ)->ρ}{k:σ->ρ}{x:α}{l:List α}{s:σ}{i:Int}:gU body k i (x::l) s=body i x s (gU body k (i+1) l):=rfl
theorem U9{body:Int->α->σ->(σ->ρ)->ρ}{k:σ->ρ}{s:σ}{i:Int}:gU body k i [] s=k s:=rfl
theorem upto_lt{body:Int->σ->(σ->ρ)->ρ}{k:σ->ρ}{s:σ}{i:Int}{j m:Nat}(h:j<m):upto body k i (m-j) s=body i s (upto body k (i+1) (m-(j+1))):=by
 rw[show m-j=(m-(j+1))+1 by omega];rfl
theorem upto_ge{body:Int->σ->(σ->ρ)->ρ}{k:σ->ρ}{s:σ}{i:Int}{j m:Nat}(h:m<=j):upto body k i (m-j) s=k s:=by
 rw[show m-j=0 by omega];rfl
theorem pY{body:σ->(σ->Option β)->Option β}{m:Nat}{s:σ}{r:β}(h:again body m s=aj r):∃a,m=a+1/\body s (again body a)=aj r:=by
 cases m with
 |zero=>cases h
 |succ m=>exact⟨m,rfl,h⟩
theorem eT{l:List α}{k:Nat}{i:Int}{x:α}(a:i=(k:Int))(h:l[k]? =aj x):l[i.toNat]? =aj x:=by subst a;simpa using h
theorem gM{k:Nat}{i:Int}(a:i=(k:Int)):0<=i:=by omega
theorem fA{l:List α}{k:Nat}{i:Int}(c:l.length<=9223372036854775807)(b:i=(k:Int))(a:ab (i<(l.length:Int))=ba):kv (i+1):=by
 have:=of_decide_eq_true a;exact⟨by omega,by omega⟩
end
open Go.RowKit
section
variable{P:cc}{ops:Array ee}{C:aq->Prop}{Q:fg->Act->aq->Prop}{n:Nat}{env:Nat->al}{w w':aq}{rest:List ee}
 {d:Option Nat} {op:Op} {ty:aT} {pos:String} {af:Array hO} {v:al} {g:Option (Nat×Bool)} {T:aT} {ρ:bo->al}
def BndN(o:Option al)(a other:Nat):Prop:=(o=aw/\a=other)\/o=aj (.int .i64 a)
theorem addr_zero(g:Nat):(⟨g,0,aw⟩:kA).add 0=⟨g,0,aw⟩:=rfl
theorem Cq{x:bo}{h:Option bo}{e:bo}{E:aT}{l b len cap:Nat}{ad:Option kA}(m:SliceOf P T E l)(q:ρ x=.slice ad len cap)(p:ad=aw\/∃g,ad=aj ⟨g,0,aw⟩)(f:BndN (h.map ρ) 0 0)(a:ρ e=.int .i64 b)(n:b<=cap):
    (bl ρ ⟨d,.slice T x h (aj e) aw,ty,pos,af,g⟩).run P w=.ok (.value (.slice ad b cap)) w:=by
  obtain⟨i,k,j⟩:∃i,P.info? E=aj i/\i.size=l:=by
    have:=m.info;cases e:P.info? E with
    |none=>simp[e]at this
    |some i=>simp[e]at this;exact⟨i,Z,this⟩
  have c:(db ba len cap (h.map ρ) ((aj e).map ρ) aw).run P w=.ok (0,b,cap) w:=by
    have o:(b:Int)<=(cap:Int):=by omega
    rcases f with⟨e1,_⟩|e1
    · simp[db,e1,a,ew,ie,n]
    · simp[db,e1,a,ew,ie,n]
  simp only[bl,iy,iS,cA,q];simp only[da,a]at c;rcases p with rfl|⟨g,rfl⟩<;>simp[m.desc,c,fp,dt,k,j,a,addr_zero]
theorem p8{x:bo}{r c n:Option bo}{E:aT}{k gg a b m len cap:Nat}(v:SliceOf P T E k)(y:ρ x=.slice (aj ⟨gg,0,aw⟩) len cap)(f:BndN (r.map ρ) a 0)(t:BndN (c.map ρ) b len)(q:(n.map ρ=aw/\m=cap)\/(n.map ρ=aj (.int .i64 m)/\c.map ρ=aj (.int .i64 b)))
    (j:a<=b) (l:b<=m) (u:m<=cap):
    (bl ρ ⟨d,.slice T x r c n,ty,pos,af,g⟩).run P w=.ok (.value (.slice (aj (if m=a then⟨gg,0,aw⟩else⟨gg,a*k,aw⟩)) (b-a) (m-a))) w:=by
  obtain⟨i,p,s⟩:∃i,P.info? E=aj i/\i.size=k:=by
    have:=v.info;cases c:P.info? E with
    |none=>simp[c]at this
    |some i=>simp[c]at this;exact⟨i,Z,this⟩
  have e:(db ba len cap (r.map ρ) (c.map ρ)<|n.map ρ).run P w=.ok (a,b,m) w:=by
    have B:(0:Int)<=(a:Int):=hS a;have A:(0:Int)<=(b:Int):=hS b;have h:b<=cap:=by omega
    have o:a<=m:=by omega
    rcases q with⟨g1,g2⟩|⟨g1,f1⟩
    · subst g2;rcases f with⟨e1,e2⟩|e1<;>rcases t with⟨f1,f2⟩|f1<;>(try subst e2)<;>(try subst f2)<;>
        simp[db,e1,f1,g1,ew,ie,j,l,h]
    · rcases f with⟨e1,e2⟩|e1<;>(try subst e2)<;>
        simp[db,e1,f1,g1,ew,ie,j,l,u,o]
  have z:(⟨gg,0,aw⟩:kA).add (a*k)=⟨gg,a*k,aw⟩:=by
    unfold hF;split
    · next hz=>rw[hz]
    · simp
  simp only[bl,iy,iS,cA,y];simp[v.desc,e,fp,dt,p,s,z];split<;>rfl
structure Raw(w:aq)(gg cap sz:Nat)(E:aT)(cur:List al):Prop where
 blk:w.heap[gg]? =aj (.cells cur.toArray E (0,0))
 len:cur.length=cap*sz
 le:cap<=kO
theorem addr_add(gg o k:Nat):(⟨gg,o,aw⟩:kA).add k=⟨gg,o+k,aw⟩:=by
  unfold hF;split
  · next hz=>rw[hz];rfl
  · rfl
theorem Tq{x y:bo}{E:aT}{b q gg cap a m c j:Nat}{e:List al}{ad:kA}(F:kD P T E b q)(r:Raw w gg cap b E e)(R:ev n env x=.slice (aj ⟨gg,0,aw⟩) a cap)(N:ev n env y=.slice (aj ad) m c)
    (C:m=0\/ad=⟨gg,j*b,aw⟩) (G:j+m<=cap) (s:a+m<=cap) (L:∀u∈(e.drop (j*b)).take (m*b),u.oneCell'=ba)
    (h:∀w',bL (fun x=>x=gg) w w'->Raw w' gg cap b E (e.take (a*b)++(e.drop (j*b)).take (m*b)++e.drop (a*b+m*b))->WL P ops Q rest n (gD env d (.slice (aj ⟨gg,0,aw⟩) (a+m) cap)) w'):
    WL P ops Q (⟨d,.call {callee:=.builtin .append,args:= #[x,y],argTypes:= #[T,T]},ty,pos,af,aw⟩::rest) n env w:=by
  obtain⟨i,z,K,hz,A,I,O⟩:=F.info;have M:j*b+m*b<=cap*b:=by rw[<-cg];exact bd _ G
  have t:a*b+m*b<=cap*b:=by rw[<-cg];exact bd _ s
  have l:=r.len;have f:((e.drop<|j*b).take<|m*b).length=m*b:=by rw[ca,cL];omega
  have o:∀k u,((e.drop<|j*b).take<|m*b)[k]? =aj u->w.cell? (ad.add k)=aj u:=by
    intro k u v;rcases C with rfl|rfl
    · simp at v
    · rw[addr_add];have B:k<m*b:=by
        rcases cF k (m*b)with h|h
        · exact h
        · rw[bt V]at v;cases v
      rw[cf,if_pos B,cw]at v;simp[eM,r.blk,v]
  have g:=run_append_room (P:=P) w T ty E i F.desc K gg a cap e.toArray r.blk ad m c _ (by rw[A];exact f) o L s (by rw[A,f];simpa[l]using t);have p:(bl (ev n env) ⟨d,.call {callee:=.builtin .append,args:= #[x,y],argTypes:= #[T,T]},ty,pos,af,aw⟩).run P w=.ok (.value<|.slice (aj ⟨gg,0,aw⟩) (a+m) cap) (xH w gg<|.cells (e.take (a*b)++(e.drop<|j*b).take (m*b)++e.drop (a*b+m*b)).toArray E (0,0)):=by
    rw[A,f,JZ r.blk]at g;simp only[bl,hH,ju,iQ,ct,cY,bp,fC,cj,en,R,N,g]
  refine J p<|h _ (bL.xH _ _ _) ⟨wK<|iT r.blk,?_,r.le⟩;rw[bk,bk,f,ca,cL,l];omega
def ZeroOne(P:cc)(E:aT):Prop:=∃z,(P.info? E).map (·.zero)=aj (aj z)/\z.cells.all (·.oneCell')=ba
theorem zeroCells_one{z:Array al}{k:Nat}(h:z.all (·.oneCell')=ba):∀u∈(cy z k).toList,u.oneCell'=true:=by
  intro u c;simp only[cy,Array.toList_map,dJ]at c;obtain⟨i,d,rfl⟩:=c;have b:i<k*z.size:=by simpa using d
  have hz:0<z.size:=by
    rcases Nat.eq_zero_or_pos z.size with h0|h0
    · rw[h0,Nat.mul_zero]at b;omega
    · exact h0
  have a:i%z.size<z.size:=mS _ hz;rw[getElem!_pos z (i%z.size) a];exact(Array.all_eq_true.1 h) _ a
theorem Xx{x:bo}{E:aT}{a l gg cap m k c:Nat}{b:List al}(F:kD P T E a l)(B:ZeroOne P E)(o:Raw w gg cap a E b)(I:ev n env x=.slice (aj ⟨gg,m*a,aw⟩) k c)(L:0<k)(A:m+k<=cap)
    (h:∀w' f,bL (fun x=>x=gg) w w'->Raw w' gg cap a E f->f.take (m*a)=b.take (m*a)->WL P ops Q rest n (gD env d (.tuple #[])) w'):
    WL P ops Q (⟨d,.call {callee:=.builtin .clear,args:= #[x],argTypes:= #[T]},ty,pos,af,aw⟩::rest) n env w:=by
  obtain⟨i,z,C,hz,K,G,u⟩:=F.info;obtain⟨s,r,q⟩:=B;have v:s=z:=by simp[C,hz]at r;exact r.symm
  subst v;have y:m*a+k*a<=cap*a:=by rw[<-cg];exact bd _ A
  have g:=o.len;have j:(cy s.cells k).toList.length=k*a:=by rw[cr,la,u]
  have e:=nF (P:=P) gg (m*a) E (cy s.cells k).toList 0 b.toArray w o.blk (by rw[j];simpa[g]using y) (zeroCells_one q);rw[JZ o.blk]at e;obtain⟨t,rfl⟩:∃t,k=t+1:=⟨k-1,by omega⟩;have p:(bl (ev n env) ⟨d,.call {callee:=.builtin .clear,args:= #[x],argTypes:= #[T]},ty,pos,af,aw⟩).run P w=.ok (.value<|.tuple #[]) (xH w gg<|.cells (b.take (m*a)++(cy s.cells<|t+1).toList++b.drop (m*a+(t+1)*a)).toArray E (0,0)):=by
    rw[j]at e;simp only[Nat.add_zero]at e;simp only[bl,hH,ju,iQ,Builtin.clear_,cA,jw,dt,ct,cY,bp,fC,cj,en,I];simp[F.desc,C,hz,e]
  refine J p<|h _ _ (bL.xH _ _ _) ⟨wK<|iT o.blk,?_,o.le⟩ ?_
  · rw[bk,bk,j,ca,cL,g];omega
  · rw[ck,cV (by rw[ca];omega),ea,Nat.min_self]
end
theorem Ya{α:Type}{R:lD α}{E:aT}{w:aq}{A:BS}{v:al}{l:List α}(h:cu R E w A v l)(j:0<l.length):
    ∃gg cap a,v=.slice (aj ⟨gg,0,aw⟩) l.length cap/\Raw w gg cap R.sz E a/\l.length<=cap/\∀i (h:i<l.length),R.rd w (fun b=>A b\/b=gg) ((a.drop (i*R.sz)).take R.sz) l[i]:=by
  obtain⟨xs,g,f⟩:=h;rcases g.2 with⟨rfl,hn⟩|⟨gg,cap,a,rfl,e1,e2,e3,e4,e5,e6⟩
  · omega
  refine⟨gg,cap,a.toList,Z,⟨by simpa using e2,by simpa using e5,e4⟩,e3,fun i d=>?_⟩;have c:(i+1)*R.sz<=l.length*R.sz:=bd _ d;rw[cg]at c;have e:=f i d;rw[<-e6,eh,ea,cO V]at e;exact e
theorem rd_ones{α:Type}{R:lD α}{w:aq}{A:BS}{l:List α}{a:List al}(h:∀i (h:i<l.length),R.rd w A ((a.drop (i*R.sz)).take R.sz) l[i]){j m:Nat}(g:j+m<=l.length):∀u∈(a.drop (j*R.sz)).take (m*R.sz),u.oneCell'=true:=by
 intro u d;obtain⟨k,f,rfl⟩:=List.getElem_of_mem d;have b:k<m*R.sz:=by rw[ca]at f;omega
 have hp:=R.pos;have n:k / R.sz<m:=pL (by rw[nd];exact b);refine R.one (h (j+k / R.sz) V) _ ?_;rw[List.mem_iff_getElem?];refine⟨k%R.sz,?_⟩;have c:k%R.sz<R.sz:=mS _ hp;rw[cf,if_pos c,cw,kn,mY];have e:(j+k / R.sz)*R.sz+k%R.sz=j*R.sz+k:=by
  rw[cg,jv,nd (k / R.sz),Nat.div_add_mod]
 rw[e,bc]
theorem raw_del{α:Type}{R:lD α}{E:aT}{w w':aq}{A:BS}{l:List α}{gg cap i j:Nat}{c e:List al}(o:Raw w' gg cap R.sz E e)(G:Raw w gg cap R.sz E c)(M:bL (fun x=>x=gg) w w')(r:i<=j)(v:j<=l.length)(z:l.length<=cap)
    (g:∀k (h:k<l.length),R.rd w (fun b=>A b\/b=gg) ((c.drop (k*R.sz)).take R.sz) l[k])
    (K:e.take ((i+(l.length-j))*R.sz)=c.take (i*R.sz)++(c.drop (j*R.sz)).take ((l.length-j)*R.sz)):
    cu R E w' A (.slice (aj ⟨gg,0,aw⟩) (i+(l.length-j)) cap) (l.take i++l.drop j):=by
  have d:(l.take i++l.drop j).length=i+(l.length-j):=by rw[bk,ca,cL];omega
  have N:=G.len;have L:l.length*R.sz<=cap*R.sz:=bd _ z;have B:j*R.sz<=l.length*R.sz:=bd _ v;have y:i*R.sz<=j*R.sz:=bd _ r;have u:(l.length-j)*R.sz=l.length*R.sz-j*R.sz:=nt _ _ _;have m:(c.take<|i*R.sz).length=i*R.sz:=by rw[ca];omega
  refine⟨c.take (i*R.sz)++(c.drop<|j*R.sz).take ((l.length-j)*R.sz),⟨?_,.inr ⟨gg,cap,e.toArray,?_,fv _,o.blk,?_,o.le,?_,?_⟩⟩,?_⟩
  · rw[d,bk,m,ca,cL,cg];omega
  · rw[d]
  · rw[d];omega
  · simpa using o.len
  · rw[d];exact K
  · intro k s;rw[d]at s;have n:=fun cs a(h:R.rd w (fun b=>A b\/b=gg) cs a)=>R.go (A':=fun b=>A b\/b=gg) h M (fun x I _=>.inr I) fun _ h _=>h;by_cases p:k<i
    · have f:(k+1)*R.sz<=i*R.sz:=bd _ p;rw[cg]at f;have t:=n _ _<|g k V;rw[eL (by rw[ca];omega),kn,fN V,cV (by rw[cL];omega),eh,ea,cO V];exact t
    · have t:=n _ _<|g (j+(k-i)) V;have f:(k-i+1)*R.sz<=(l.length-j)*R.sz:=bd _ V;rw[cg]at f;have F:i*R.sz<=k*R.sz:=bd _ V;have q:(k-i)*R.sz=k*R.sz-i*R.sz:=nt _ _ _;rw[fh (by rw[ca];omega)];have C:(l.drop j)[k-(l.take i).length]'(by rw[ca,cL];omega)=l[j+(k-i)]'V:=by
        rw[mY];congr 1;rw[ca];omega
      rw[C,iz,cC V,cD,m,<-q,eh,ea,cO V,mb,<-cg];exact t
theorem Raw.keep{w w':aq}{gg cap b:Nat}{E:aT}{a:List al}{N:BS}(h:Raw w gg cap b E a)(c:bL N w w')(hn:¬N gg):Raw w' gg cap b E a:=⟨c.blk h.blk hn,h.len,h.le⟩
section
variable{P:cc}{Q:fg->Act->aq->Prop}{n:Nat}{env:Nat->al}{w w' w0:aq}{M K:BS}{hp:Nat->Chunk}
theorem Tt{id:Nat}(k:Nat){l:List ee}(c:P.follows .mixedOrders=ba)(d:qP .any l.toArray k=ba)
  (kk:∀b,Grow w b->WK P l.toArray b (fun a=>np P l.toArray Q (l.drop k) a b) (l.take k) n env):WC P (fS id l.toArray ba) Q n env w:=
 ⟨se k c d (wN (kk _ (Grow.drew w)).out)⟩
theorem SH.given{α:Type}{R:lD α}{E:aT}{v u:al}{l c:List α}(h:SH w0 M K w hp)(i:Nat)(d:hp i=.own R E v l)(ho:cu R E w' (fun b=>M b\/rest hp i b) u c)(e:bL (ob v) w w')(hn:∀b,ob u b->b<w.heap.size->ob v b):SH w0 M K w' (bV hp i (.own R E u c)):=by
  refine h.step i e (fun b a _=>by rw[d];exact a) (fun b a f=>by rw[d];exact hn b a f) ?_;refine cu.go ho (bL.refl BE w') (fun _ h=>h.elim) (fun _ h=>h.elim) fun b a _=>?_;rcases a with a|a|a
  · exact .inl<|.inl a
  · exact .inl<|.inr a
  · exact .inr a
theorem SH.giveO{α:Type}{R:lD α}{E:aT}{v:al}{l:List α}(h:SH w0 M K w hp)(i:Nat)(c:hp i=.own R E v l):cu R E w (fun b=>M b\/rest hp i b) v l:=
 cu.go (h.bJ i c) (bL.refl BE w) (fun _ h=>h.elim) (fun _ h=>h.elim) (fun b a _=>.inl (a.imp id lF))
theorem SH.MJ{α β:Type}{R:lD α}{R':lD β}{E:aT}{v u:al}{l:List α}{d:List β}(h:SH w0 M K w hp)(i j:Nat)(e:hp i=.rd R v l)(c:hp j=.own R' E u d):di R w (fun b=>M b\/ob u b) v l:=
 (h.bC i e).sub (fun b a _=>a.elim .inl (fun a=>.inr ⟨j,by rw[c];exact a⟩)) (fun b a _=>a.elim .inl (fun a=>.inr ⟨j,by rw[c];exact a⟩))
theorem di.Xy{α β:Type}{R:lD α}{R':lD β}{E:aT}{v u:al}{l:List α}{d:List β}{i:Nat}(h:di R w (fun b=>SH.A M hp b\/ob u b) v l):di R w (SH.A M (bV hp i (.own R' E u d))) v l:=by
  have c:∀b,SH.A M (bV hp i<|.own R' E u d) b->SH.A M hp b\/ob u b:=by
    rintro b(a|⟨j,a⟩)
    · exact .inl<|.inl a
    · by_cases e:j=i
      · subst e;rw[bW]at a;exact .inr a
      · rw[dZ e]at a;exact .inl (.inr ⟨j,a⟩)
  exact h.sub (fun b a _=>c b a) fun b a _=>c b a
theorem del_len{i j l cap a:Nat}{b:List al}(h:b.length=cap*a)(d:i<=j)(g:j<=l)(f:l<=cap):
  ((b.take (i*a)++(b.drop (j*a)).take ((l-j)*a)++b.drop (i*a+(l-j)*a)).take ((i+(l-j))*a))=b.take (i*a)++(b.drop (j*a)).take ((l-j)*a):=by
 have k:i*a<=j*a:=bd _ d;have m:j*a+(l-j)*a=l*a:=by rw[<-cg];congr 1;omega
 have n:l*a<=cap*a:=bd _ f;have e:(b.take<|i*a).length=i*a:=by rw[ca];omega
 have c:((b.drop<|j*a).take ((l-j)*a)).length=(l-j)*a:=by rw[ca,cL];omega
 rw[cg,cV (by rw[bk,e,c];omega),ij (by rw[bk,e,c];omega)]
def del1{α:Type}(l:List α)(i j:Int):Option (List α):=if 0<=i/\i<j/\j<=l.length then aj (l.take i.toNat++l.drop j.toNat)else aw
theorem o_del{α:Type}{l r:List α}{i j:Int}(h:del1 l i j=aj r):∃a b:Nat,i=a/\j=b/\a<b/\b<=l.length/\r=l.take a++l.drop b:=by
  unfold del1 at h;by_cases hp:0<=i/\i<j/\j<=l.length
  · rw[if_pos hp]at h;cases h;exact⟨i.toNat,j.toNat,by omega,by omega,by omega,by omega,Z⟩
  · rw[if_neg hp]at h;cases h
end
open Go.RowKit
def selK(K:Act->aq->Prop)(Q:fg->Act->aq->Prop):fg->Act->aq->Prop
 | .normal,a,w=>K a w
 |e,a,w=>Q e a w
section
variable{P:cc}{ops:Array ee}
variable{Q:fg->Act->aq->Prop}{n:Nat}{env:Nat->al}{w w0:aq}{M K:BS}{hp:Nat->Chunk}
structure WH(P:cc)(ops:Array ee)(ws:aq)(Q:fg->Act->aq->Prop)(fuel:Nat)(listed:Array Bool)(n:Nat)(env:Nat->al)(w:aq):Prop where
 out:qQ P .any ops (pd Q) (Grow ws) fuel listed (act n env) w
theorem wD{id:Nat}{l:List ee}(b:P.follows .mixedOrders=ba)(a:SH w0 M K w hp)
  (h:∀w,SH w0 M K w hp->WH P l.toArray w Q l.length (nj l.length ao) n env w):WC P (fS id l.toArray ba) Q n env w:=
 ⟨wp_region_noPanic (wp_region_held (S:=Grow w.drew) b (h _ (a.grow (Grow.drew w))).out)⟩
theorem held_weak{S S':aq->Prop}(b:∀w,S' w->S w):∀(fuel:Nat) (listed:Array Bool) (a:Act) (w:aq),qQ P .any ops Q S' fuel listed a w->qQ P .any ops Q S fuel listed a w
 |0,_,_,_,h=>h
 |fuel+1,_,_,_,h=>⟨h.1,fun i d=>wpOp_mono (fun a' w' c=>⟨b _ c.1,held_weak b fuel _ a' w' c.2⟩) (h.2 i d)⟩
variable{d:Option Nat}{op:Op}{ty:aT}{pos:String}{af:Array hO}{v:al}{g:Option (Nat×Bool)}{i fuel:Nat}{listed:Array Bool}
theorem bz:cq ⟨d,op,ty,pos,af,aw⟩ (ez ops (act n env).tmps)=true:=rfl
theorem wh_first{ws:aq}{o:ee}(e:Grow ws w)(f:ops[i]? =aj o)(b:eg ops=ba)(a:fa .any ops listed i=ba)(c:(cR .any ops listed).contains i=ba)
  (d:YieldsIf P ops (Grow ws) o v (act n env)) (h:WH P ops ws Q fuel (listed.setIfInBounds i ba) n (gD env o.dst v) w):WH P ops ws Q (fuel+1) listed n env w:=by
 refine⟨wpAnyH_take f b a c (fun _ _ _ h=>h) d e ?_⟩;rw[Fq];exact h.out
theorem wh_ok{ws:aq}(i:Nat)(j:Grow ws w)(l:ops[i]? =aj ⟨d,op,ty,pos,af,g⟩)(k:cq ⟨d,op,ty,pos,af,g⟩ (ez ops (act n env).tmps)=ba)(e:eg ops=ba)(c:fa .any ops listed i=ba)(f:(cR .any ops listed).contains i=ba)
  (b:∀a,Grow ws a->(bl (ev n env) ⟨d,op,ty,pos,af,g⟩).run P a=.ok (.value v) a) (h:WH P ops ws Q fuel (listed.setIfInBounds i ba) n (gD env d v) w):WH P ops ws Q (fuel+1) listed n env w:=
 wh_first (o:=⟨d,op,ty,pos,af,g⟩) j l e c f (.inl ⟨k,fun a m=>by rw[gY];exact b a m⟩) h
theorem wh_done{ws:aq}(a:cR .any ops listed=[])(h:Q .normal (act n env) w):WH P ops ws Q fuel listed n env w:=⟨wpAnyH_done a (NoPanic.normal h) fuel⟩
def after(P:cc)(ops:Array ee)(ws:aq)(Q:fg->Act->aq->Prop)(fuel:Nat)(listed:Array Bool):fg->Act->aq->Prop:=
 selK (fun a' w'=>Grow ws w'/\qQ P .any ops (pd Q) (Grow ws) fuel listed a' w') (pd Q)
theorem eD{ws:aq}(a:Grow ws w)(h:WH P ops ws Q fuel listed n env w):after P ops ws Q fuel listed .normal (act n env) w:=⟨a,h.out⟩
theorem IA{K:Act->aq->Prop}{Q1:fg->Act->aq->Prop}(k:ops[i]? =aj ⟨d,op,ty,pos,af,g⟩)(l:cq ⟨d,op,ty,pos,af,g⟩ (ez ops (act n env).tmps)=ba)
    (h:WL P ops (selK K Q1) [⟨d,op,ty,pos,af,aw⟩] n env w):wpOp P ops Q1 i K (act n env) w:=by
  unfold wpOp;simp only[k,l,if_true];have b:=h.out;unfold np at b;rw[if_pos (show cq _ _=ba from rfl)]at b;rcases b with b|⟨ha,hl⟩
  rotate_left
  · exact .inr ⟨ha,let ⟨a,w,h⟩:=hl;⟨a,w,h⟩⟩
  refine .inl ?_;unfold qE at b⊢;have e:(bl (act n env).eval ⟨d,op,ty,pos,af,g⟩)=bl (act n env).eval ⟨d,op,ty,pos,af,aw⟩:=by unfold bl;rfl
  rw[e];generalize (bl (act n env).eval ⟨d,op,ty,pos,af,aw⟩).run P w=r at b⊢;cases r with
  |ok nx w'=>
    cases nx with
    |value v=>exact b
    |skip=>exact b
    |defer d=>exact b
    |enter f args=>
      refine Calls.mono b fun e m j=>?_;cases e with
      |returned v=>exact j
      |panicked c=>exact j
      |outgrown=>exact j
    |row r args=>exact b
    |_=>exact b
  |halt x w'=>
    cases x<;>exact b
theorem wh_eff{ws:aq}(i:Nat)(e:cR .any ops listed=[i])(b:ops[i]? =aj ⟨d,op,ty,pos,af,g⟩)(a:cq ⟨d,op,ty,pos,af,g⟩ (ez ops (act n env).tmps)=ba)
  (h:WL P ops (after P ops ws Q fuel (listed.setIfInBounds i ba)) [⟨d,op,ty,pos,af,aw⟩] n env w):WH P ops ws Q (fuel+1) listed n env w:=by
 refine⟨nr e zq3 fun k c=>?_⟩;obtain rfl:k=i:=by simpa using c
 exact IA b a h
theorem J2{ws:aq}{m:Option Nat}{e:Op}{c:aT}{a:String}{b:Array hO}{o:Option (Nat×Bool)}(i j:Nat)(q:cR .any ops listed=[i,j])(t:ops[i]? =aj ⟨d,op,ty,pos,af,g⟩)(s:cq ⟨d,op,ty,pos,af,g⟩ (ez ops (act n env).tmps)=ba)
    (r:ops[j]? =aj ⟨m,e,c,a,b,o⟩) (f:cq ⟨m,e,c,a,b,o⟩ (ez ops (act n env).tmps)=ba)
    (h:WL P ops (after P ops ws Q fuel (listed.setIfInBounds i ba)) [⟨d,op,ty,pos,af,aw⟩] n env w) (p:WL P ops (after P ops ws Q fuel (listed.setIfInBounds j ba)) [⟨m,e,c,a,b,aw⟩] n env w):WH P ops ws Q (fuel+1) listed n env w:=by
  refine⟨nr q zq3 fun k l=>?_⟩;rcases bn.1 l with rfl|l
  · exact IA t s h
  · obtain rfl:k=j:=by simpa using l
    exact IA r f p
theorem wh_base{ws:aq}(a:Grow ws w)(h:WH P ops w Q fuel listed n env w):WH P ops ws Q fuel listed n env w:=⟨held_weak (fun _ h=>a.trans h) _ _ _ _ h.out⟩
variable{w':aq}{rest:List ee}{T:aT}{x y:bo}
theorem ze{α:Type}{R:lD α}{E:aT}{j c:Nat}{a:Array (Nat×bo)}{len:Nat}{vs:List al}{xs:List α}(h:SH w0 M K w hp)(i:Nat)(v:kD P T E j c)(q:R.sz=j)
  (r:(a.toList.map fun p=>(p.1,ev n env p.2))=vs.zipIdx.map fun p=>(p.2,p.1)) (e:vs.length=len) (t:K7 R w (SH.A M hp) vs xs) (l:ll (len*j) 16777216=ba)
  (k:∀w' u,SH w0 M K w' (bV hp i (.own R E u xs))->Grow w w'->(∀b,ob u b->w.heap.size<=b)->WL P ops Q rest n (gD env d u) w'):
  WL P ops Q (⟨d,.buildSlice T len a,ty,pos,af,aw⟩::rest) n env w:=by
 obtain⟨u,w',s,m,x,o⟩:=run_bs (d:=d) (ty:=ty) (pos:=pos) (af:=af) (g:=aw) v q r e t h.lt<|gn l;exact J s<|k w' u (h.wJ i m x fun b f=>lE<|o b f) m fun b f=>lE<|o b f
theorem bL.fresh{a b c:aq}{N:BS}(h:Grow a b)(k:bL N b c)(hN:∀x,N x->a.heap.size<=x):Grow a c:=h.step k (fun x d e=>by have:=hN x d;omega)
end
open Go.RowKit Go.Deep
def NJ{α:Type}(P:cc)(T:aT)(R:lD α):Prop:=
 ∀(a:Type) (enc:aT×al->a) (w:aq) (b:Nat->Bool) (c:Bool) (fuel:Nat) (cs:List al) (x:DataW a×List ph),DataW.trod enc P w 0 b c fuel T cs=aj x->∃d,R.rd w BE cs d
theorem opens_int{P:cc}{T:aT}(d:P.underlying T=aj (.int .i64)):NJ P T dh:=by
 intro a enc w b c fuel cs x h;obtain⟨n,rfl,_,e⟩:=DataW.trod_int d h;exact⟨n,Z⟩
theorem J3{α:Type}{P:cc}{T E:aT}{R:lD α}(ht:P.underlying T=aj (.slice E))(N:P.cellsOf E=R.sz)(h:NJ P E R):NJ P T (yJ R):=by
  intro c enc w p A fuel cs x hx;rcases open_slice ht hx with⟨rfl,rfl⟩|⟨a,len,cap,m,n,D,Pl,rfl,_,hl,hm,hmm,rfl,hel⟩
  · exact⟨[],_,Z,eF.nil⟩
  · have X:len<=m:=by rw[hmm];split<;>omega
    have C:∀i,i<len->∃d:α,∃b o cells F r,a=⟨b,o,aw⟩/\w.heap[b]? =aj (.cells cells F r)/\R.rd w BE ((cells.toList.drop<|o+i*R.sz).take R.sz) d:=by
      intro i l;obtain⟨g,Q,h2⟩:=hel i V;obtain⟨d,hd⟩:=h c enc w p A n g _ h2;refine⟨d,?_⟩;rw[N]at Q;obtain⟨_,S,s⟩:=qn Q;have hp:=R.pos;have B:a.spot=none:=by
        obtain⟨y,g1,_⟩:=hel 0 V;rw[N]at g1;obtain⟨_,O,q⟩:=qn g1;have M:=q 0 hp;rw[pf,add_add,fT]at M;have:∃v,y[0]? =aj v:=⟨y[0]'V,bc V⟩;obtain⟨v,L⟩:=this;rw[L]at M;have:=World.cell?_spot M;simpa[hF]using this
      obtain⟨b,o,sp⟩:=a;simp only at B;subst B;have G:∀k,(⟨b,o,aw⟩:kA).add k=⟨b,o+k,aw⟩:=by
        intro k;unfold hF;split<;>simp_all
      have z:∀j,j<R.sz->w.cell? ⟨b,o+i*R.sz+j,aw⟩=g[j]? :=by
        intro j u;have:=s j u;rw[add_add,G]at this;rw[<-this,jv]
      have I:=z 0 hp;have L:g[0]? =aj (g[0]'V):=bc V;rw[L]at I;unfold eM at I;cases t:w.heap[b]? with
      |none=>simp[t]at I
      |some ob=>
        cases ob with
        |cells cells F r=>
          refine⟨b,o,cells,F,r,Z,t,?_⟩;have e:(cells.toList.drop<|o+i*R.sz).take R.sz=g:=by
            apply df;intro j;rw[cf,cw];by_cases u:j<R.sz
            · rw[if_pos u,<-z j u];simp[eM,t]
            · rw[if_neg u,bt V]
          rw[e];exact hd
        |_=>simp[t]at I
    obtain⟨f,hf⟩:∃f:(i:Nat)->i<len->α,∀i l,∃b o cells F r,a=⟨b,o,aw⟩/\w.heap[b]? =aj (.cells cells F r)/\R.rd w BE ((cells.toList.drop<|o+i*R.sz).take R.sz) (f i l):=
      ⟨fun i l=>Classical.choose (C i l),fun i l=>Classical.choose_spec (C i l)⟩
    refine⟨List.ofFn fun i:Fin len=>f i.val i.isLt,_,Z,aj a,cap,by simp,by simpa using hl,hm,(fun h=>by cases h),?_⟩;intro i l;have K:i<len:=by simpa using l
    obtain⟨b,o,cells,F,r,rfl,t,hr⟩:=hf i K;refine⟨b,o,cells,F,r,Z,fun h=>h,t,?_⟩;simpa using hr
theorem Rf{a:Type}{enc:aT×al->a}{P:cc}{w:aq}{b:Nat->Bool}{c:Bool}{T:aT}{g:Array Field}{fuel:Nat}{cs:List al}{x:DataW a×List ph}(m:P.underlying T=aj (.struct g))(h:DataW.trod enc P w 0 b c fuel T cs=aj x):
    cs.length=P.cellsOf T/\∃n:Nat,∀(i:Nat) (f:Field),g[i]? =aj f->∃y:DataW a×List ph,DataW.trod enc P w 0 b c n f.type ((cs.drop f.offset).take (P.cellsOf f.type))=aj y:=by
  obtain⟨xs,n,_,_,k,j,l⟩:=DataW.trod_struct m h;refine⟨k,n,fun i f d=>?_⟩;have:=l i f d;have e:i<xs.length:=by
    rw[j];rcases cF i g.size with h1|h1
    · exact h1
    · rw[lh h1]at d;cases d
  rw[bc e]at this;exact⟨_,this⟩
theorem o7{α:Type}{a:Type}{enc:aT×al->a}{P:cc}{w:aq}{b:Nat->Bool}{c:Bool}{g:Array Field}{n:Nat}{cs:List al}{R:lD α}{i:Nat}{f:Field}
  (h:∀(i:Nat) (f:Field),g[i]? =aj f->∃y:DataW a×List ph,DataW.trod enc P w 0 b c n (Field.type f) ((cs.drop f.offset).take (P.cellsOf f.type))=aj y) (j:g[i]? =aj f) (k:P.cellsOf f.type=R.sz) (l:NJ P f.type R):
  ∃d,R.rd w BE ((cs.drop f.offset).take R.sz) d:=by
 obtain⟨y,e⟩:=h i f j;rw[k]at e;exact l a enc w b c n _ _ e
theorem cells_one{l:List al}{o:Nat}{v:al}(h:(l.drop o).take 1=[v]):l[o]? =aj v:=by
 have:=congrArg (fun l=>l[0]?) h;simpa[cf,cw]using this
theorem NK{α:Type}{l:List α}{n:Nat}(h:l.length=n+1):∃a t,l=a::t/\t.length=n:=by
 cases l with
 |nil=>simp at h
 |cons a t=>exact⟨a,t,rfl,by simpa using h⟩
theorem nobody{w:aq}:∀b,BE b->b<w.heap.size:=fun _ h=>h.elim
open Go.RowKit Go.MapKept
def Rh(z:al)(jG:List (Int×al))(k:Int):Value:=match jG with|[]=>z|p::r=>if k=p.1 then p.2 else Rh z r k
def NU(jG:List (Int×al))(k:Int)(v:al):List (Int×al):=match jG with|[]=>[(k,v)]|p::r=>if k=p.1 then(p.1,v)::r else p::NU r k v
def ahas(jG:List (Int×al))(k:Int):Bool:=match jG with|[]=>ao|p::r=>if k=p.1 then ba else ahas r k
def Ri(jG:List (Int×al))(k:Int)(i:Nat):Option (Nat×al):=match jG with|[]=>aw|p::r=>if k=p.1 then aj (i,p.2)else Ri r k (i+1)
theorem GZ{jG:List (Int×al)}{k:Int}:∀{a:List sb} {i:Nat},a.map (fun e=>(e.key,e.val))=jG.map (fun p=>(dk .i64 p.1,p.2))->
    sE (.int .i64) (.int .i64 k) a i=aj (Ri jG k i):=by
  induction jG with
  |nil=>intro a i h;cases a with|nil=>rfl|cons e r=>simp at h
  |cons p r ih=>
    intro a i h;cases a with
    |nil=>simp at h
    |cons e s=>
      simp only[cj,List.cons.injEq,iu]at h;obtain⟨⟨c,d⟩,f⟩:=h;unfold sE Ri;by_cases b:k=p.1
      · simp[sL,c,d,b]
      · have:(k==p.1)=false:=by simpa using b
        simp[sL,c,this,b,ih f]
theorem Yw{z:al}{k:Int}:∀{jG:List (Int×al)} {i:Nat},Rh z jG k=match Ri jG k i with|some (_,v)=>v|none=>z
  |[],i=>rfl
  |p::r,i=>by
    unfold Rh Ri;by_cases a:k=p.1
    · simp[a]
    · simp only[a,if_false];exact Yw
theorem Va{k:Int}{v:al}:∀{jG:List (Int×al)} {i:Nat},Ri jG k i=aw->NU jG k v=jG++[(k,v)]
  |[],i,_=>rfl
  |p::r,i,h=>by
    unfold Ri at h;unfold NU;by_cases a:k=p.1
    · simp[a]at h
    · simp only[a,if_false]at h⊢;rw[Va h];rfl
theorem Vb{k:Int}{v u:al}:∀{jG:List (Int×al)} {i j:Nat},Ri jG k i=aj (j,u)->i<=j/\∃p,jG[j-i]? =aj p/\p.1=k/\NU jG k v=jG.set (j-i) (k,v)
  |[],i,j,h=>by cases h
  |p::r,i,j,h=>by
    unfold Ri at h;unfold NU;by_cases a:k=p.1
    · simp only[a,if_true,eA,iu]at h;obtain⟨rfl,_⟩:=h;refine⟨bq _,p,by simp,a.symm,?_⟩;simp[a]
    · simp only[a,if_false]at h⊢;obtain⟨e,q,b,d,c⟩:=Vb (v:=v) h;refine⟨by omega,q,?_,d,?_⟩
      · rw[show j-i=(j-(i+1))+1 by omega];simpa using b
      · rw[show j-i=(j-(i+1))+1 by omega,c];simp
section
variable{P:cc}{ops:Array ee}{Q:fg->Act->aq->Prop}{n:Nat}{env:Nat->al}{w w' w0:aq}{M K:BS}{hp:Nat->Chunk}{rest:List ee}
 {d:Option Nat} {op:Op} {ty:aT} {pos:String} {af:Array hO} {v:al} {g:Option (Nat×Bool)} {T:aT} {ρ:bo->al}
structure MapOf(P:cc)(T:aT)(z:al):Prop where
  desc:∃K E,P.underlying T=aj (.map K E)/\P.underlying K=aj (.int .i64)/\(P.info? E).map (·.zero)=aj (aj z)
theorem r_makeMap:(bl ρ ⟨d,.makeMap T aw,ty,pos,af,g⟩).run P w=.ok (.value (.map (aj w.heap.size))) (w.alloc (.map #[] 0)):=by
 simp[bl,Instr.makeMap,kd,-hZ]
theorem ckInt{e:Bool}{K:aT}{k:Int}(a:P.underlying K=aj (.int .i64)):(Instr.checkKey e 10000 K (.int .i64 k)).run P w=.ok () w:=
 run_checkKey a (by trivial) e 9999
theorem MH.push{b:Array sb}{c:Nat}(h:MH b c)(k v:al):MH (b.push {key:=k,val:=v,born:=c}) (c+1):=by
  refine⟨fun e a=>?_,?_⟩
  · simp only[qq,cE,fc]at a;rcases a with a|rfl
    · exact Nat.lt_succ_of_lt<|h.1 e a
    · exact sf c
  · rw[qq,List.map_append,List.nodup_append];refine⟨h.2,by simp,fun x d y f=>?_⟩;simp only[cj,en,fc]at f;obtain⟨e,a,rfl⟩:=dJ.1 d;have:=h.1 e a;omega
theorem MH.modify{a:Array sb}{c:Nat}(h:MH a c)(j:Nat)(k v:al):MH (a.modify j fun e=>{e with key:=k,val:=v}) c:=by
  have e:(a.modify j fun e=>{e with key:=k,val:=v}).toList.map (·.born)=a.toList.map (·.born):=by
    apply df;intro i;simp only[ef,iv,fY];by_cases d:j=i
    · subst d;cases a[j]? <;>simp
    · simp[d]
  refine⟨fun x f=>?_,by rw[e];exact h.2⟩;have:x.born∈(a.modify j fun e=>{e with key:=k,val:=v}).toList.map (·.born):=dJ.2 ⟨x,f,Z⟩;rw[e]at this;obtain⟨y,g,b⟩:=dJ.1 this;rw[<-b];exact h.1 y g
theorem Yx{z:al}{x y:bo}{b:Nat}{k:Int}{jG:List (Int×al)}(o:MapOf P T z)(t:ρ x=.map (aj b))(l:ρ y=.int .i64 k)(f:JY w b jG):
  (bl ρ ⟨d,.lookup T x y ao,ty,pos,af,g⟩).run P w=.ok (.value (Rh z jG k)) w:=by
 obtain⟨K,E,u,j,h⟩:=o.desc;obtain⟨n,a,f,v,q⟩:=f;obtain⟨i,c,hz⟩:∃i,P.info? E=aj i/\i.zero=aj z:=by
  cases c:P.info? E with
  |none=>simp[c]at h
  |some i=>simp[c]at h;exact⟨i,Z,h⟩
 have s:=GZ (k:=k) (i:=0) v;have m:(kp b).run P w=.ok (.map n a) w:=by simp[kp,kf,f]
 rw[Yw (z:=z) (k:=k) (jG:=jG) (i:=0)];simp only[bl,tc,cA,t,l];have r:=fun e=>ckInt (P:=P) (w:=w) (e:=e) (K:=K) (k:=k) j;simp only[ct,fy,bp,u,cY,m,r,iA,cA,j,s];cases ha:Ri jG k 0 with
 |none=>simp[jw,dt,c,hz]
 |some p=>simp
theorem Tu{z:al}{x y u:bo}{b:Nat}{k:Int}{jG:List (Int×al)}(hT:MapOf P T z)(R:ev n env x=.map (aj b))(M:ev n env y=.int .i64 k)(L:ev n env u=v)(f:JY w b jG)
    (h:∀w',bL (fun x=>x=b) w w'->JY w' b (NU jG k v)->WL P ops Q rest n (gD env d fW) w'):
    WL P ops Q (⟨d,.mapUpdate T x y u,ty,pos,af,aw⟩::rest) n env w:=by
  obtain⟨K,E,S,G,h3⟩:=hT.desc;obtain⟨c,a,f,s,o⟩:=f;have t:=GZ (k:=k) (i:=0) s;have N:(kp b).run P w=.ok (.map c a) w:=by simp[kp,kf,f]
  have g:=iT f;have O:=fun e=>ckInt (P:=P) (w:=w) (e:=e) (K:=K) (k:=k) G;have r:c.toList.length=jG.length:=by have:=congrArg eR s;simpa using this
  cases ha:Ri jG k 0 with
  |none=>
    refine BF (w':=xH w b<|.map (c.push {key:=.int .i64 k,val:=v,born:=a})<|a+1) ?_<|h _ (bL.xH _ _ _) ⟨_,_,wK g,?_,o.push _ _⟩
    · rw[ha]at t;simp only[bl,lr,cA,R,M,L];simp only[ct,fy,bp,S,cY,N,O,iA,cA,G,t,run_setObj_map _ f];rfl
    · rw[Va ha];simp[s]
  |some p=>
    obtain⟨j,u0⟩:=p;obtain⟨_,q,A,C,hset⟩:=Vb (v:=v) ha;simp only[Nat.sub_zero]at A hset;have B:j<c.size:=by
      have m:j<jG.length:=by
        rcases cF j jG.length with m|m
        · exact m
        · rw[bt m]at A;cases A
      simpa[<-r]using m
    have hkey:c[j].key=.int .i64 k:=by
      have X:=congrArg (fun l=>l[j]?) s;simp[A,B]at X;rw[X.1,C]
    refine BF (w':=xH w b<|.map (c.modify j fun e=>{e with key:=.int .i64 k,val:=v}) a) ?_<|h _ (bL.xH _ _ _) ⟨_,_,wK g,?_,o.modify _ _ _⟩
    · rw[ha]at t;have F:(jA (.int .i64 k)<|.int .i64 k).run P w=.ok (.int .i64 k) w:=by simp[jA,sg]
      simp only[bl,lr,cA,R,M,L];simp only[ct,fy,bp,S,cY,N,O,iA,cA,G,t,oe B,da,eJ,hkey,F,run_setObj_map _ f];rfl
    · rw[hset,List.map_set,<-s];apply df;intro i;simp only[ef,iv,fY,eW,cH,cr];by_cases I:j=i
      · subst I;simp[B]
      · simp[I]
theorem wl_insert{z:al}{x y u:bo}{b:Nat}{k:Int}{jG:List (Int×al)}(hT:MapOf P T z)(R:ev n env x=.map (aj b))(M:ev n env y=.int .i64 k)(L:ev n env u=v)(f:JY w b jG)
    (h:∀w',bL (fun x=>x=b) w w'->JY w' b (NU jG k v)->WL P ops Q rest n (gD env d fW) w'):
    WL P ops Q (⟨d,.insert T x y u,ty,pos,af,aw⟩::rest) n env w:=by
  obtain⟨K,E,S,G,h3⟩:=hT.desc;obtain⟨c,a,f,s,o⟩:=f;have t:=GZ (k:=k) (i:=0) s;have N:(kp b).run P w=.ok (.map c a) w:=by simp[kp,kf,f]
  have g:=iT f;have O:=fun e=>ckInt (P:=P) (w:=w) (e:=e) (K:=K) (k:=k) G;have r:c.toList.length=jG.length:=by have:=congrArg eR s;simpa using this
  cases ha:Ri jG k 0 with
  |none=>
    refine BF (w':=xH w b<|.map (c.push {key:=.int .i64 k,val:=v,born:=a})<|a+1) ?_<|h _ (bL.xH _ _ _) ⟨_,_,wK g,?_,o.push _ _⟩
    · rw[ha]at t;simp only[bl,lr,cA,R,M,L];simp only[ct,fy,bp,S,cY,N,O,iA,cA,G,t,run_setObj_map _ f];rfl
    · rw[Va ha];simp[s]
  |some p=>
    obtain⟨j,u0⟩:=p;obtain⟨_,q,A,C,hset⟩:=Vb (v:=v) ha;simp only[Nat.sub_zero]at A hset;have B:j<c.size:=by
      have m:j<jG.length:=by
        rcases cF j jG.length with m|m
        · exact m
        · rw[bt m]at A;cases A
      simpa[<-r]using m
    have hkey:c[j].key=.int .i64 k:=by
      have X:=congrArg (fun l=>l[j]?) s;simp[A,B]at X;rw[X.1,C]
    refine BF (w':=xH w b<|.map (c.modify j fun e=>{e with key:=.int .i64 k,val:=v}) a) ?_<|h _ (bL.xH _ _ _) ⟨_,_,wK g,?_,o.modify _ _ _⟩
    · rw[ha]at t;have F:(jA (.int .i64 k)<|.int .i64 k).run P w=.ok (.int .i64 k) w:=by simp[jA,sg]
      simp only[bl,lr,cA,R,M,L];simp only[ct,fy,bp,S,cY,N,O,iA,cA,G,t,oe B,da,eJ,hkey,F,run_setObj_map _ f];rfl
    · rw[hset,List.map_set,<-s];apply df;intro i;simp only[ef,iv,fY,eW,cH,cr];by_cases I:j=i
      · subst I;simp[B]
      · simp[I]
theorem aidx_has{k:Int}:∀{jG:List (Int×al)} {i:Nat},ahas jG k=(Ri jG k i).isSome
  |[],i=>rfl
  |p::r,i=>by
    unfold ahas Ri;by_cases a:k=p.1
    · simp[a]
    · simp only[a,if_false];exact aidx_has
theorem r_lookup2{z:al}{x y:bo}{b:Nat}{k:Int}{jG:List (Int×al)}(o:MapOf P T z)(t:ρ x=.map (aj b))(l:ρ y=.int .i64 k)(f:JY w b jG):
  (bl ρ ⟨d,.lookup T x y ba,ty,pos,af,g⟩).run P w=.ok (.value (.tuple #[Rh z jG k,.bool (ahas jG k)])) w:=by
 obtain⟨K,E,u,j,h⟩:=o.desc;obtain⟨n,a,f,v,q⟩:=f;obtain⟨i,c,hz⟩:∃i,P.info? E=aj i/\i.zero=aj z:=by
  cases c:P.info? E with
  |none=>simp[c]at h
  |some i=>simp[c]at h;exact⟨i,Z,h⟩
 have s:=GZ (k:=k) (i:=0) v;have m:(kp b).run P w=.ok (.map n a) w:=by simp[kp,kf,f]
 rw[Yw (z:=z) (k:=k) (jG:=jG) (i:=0),aidx_has (i:=0)];simp only[bl,tc,cA,t,l];have r:=fun e=>ckInt (P:=P) (w:=w) (e:=e) (K:=K) (k:=k) j;simp only[ct,fy,bp,u,cY,m,r,iA,cA,j,s];cases ha:Ri jG k 0 with
 |none=>simp[jw,dt,c,hz]
 |some p=>simp
def lk{α:Type}(k:Int):List (Int×α)->Option α
 |[]=>aw
 |p::r=>if k=p.1 then aj p.2 else lk k r
theorem Yb{α:Type}{f:α->al}{z:α}{k:Int}:∀(l:List (Int×α)),Rh (f z) (l.map fun p=>(p.1,f p.2)) k=f ((lk k l).getD z)
  |[]=>rfl
  |p::r=>by
    show(if k=p.1 then f p.2 else Rh _ _ k)=f ((if k=p.1 then aj p.2 else lk k r).getD z);by_cases h:k=p.1
    · simp[h]
    · simp only[h,if_false];exact Yb r
theorem ahas_lk{α:Type}{f:α->al}{k:Int}:∀(l:List (Int×α)),ahas (l.map fun p=>(p.1,f p.2)) k=(lk k l).isSome
  |[]=>rfl
  |p::r=>by
    show(if k=p.1 then ba else ahas _ k)=(if k=p.1 then aj p.2 else lk k r).isSome;by_cases h:k=p.1
    · simp[h]
    · simp only[h,if_false];exact ahas_lk r
theorem r_lk2{α:Type}{f:α->al}{zz:α}{z:al}{x y:bo}{b:Nat}{k:Int}{jG:List (Int×al)}(l:List (Int×α))(h:SH w0 M K w hp)(i:Nat)(a:hp i=.mp b jG)(e:MapOf P T z)(j:ρ x=.map (aj b))(c:ρ y=.int .i64 k)(hz:z=f zz)(m:jG=l.map fun p=>(p.1,f p.2)):
  (bl ρ ⟨d,.lookup T x y ba,ty,pos,af,g⟩).run P w=.ok (.value (.tuple #[f ((lk k l).getD zz),.bool (lk k l).isSome])) w:=by
 have:=r_lookup2 (d:=d) (ty:=ty) (pos:=pos) (af:=af) (g:=g) e j c<|h.mpAt i a;rw[hz,m,Yb,ahas_lk]at this;exact this
theorem r_lk1{α:Type}{f:α->al}{zz:α}{z:al}{x y:bo}{b:Nat}{k:Int}{jG:List (Int×al)}(l:List (Int×α))(h:SH w0 M K w hp)(i:Nat)(a:hp i=.mp b jG)(e:MapOf P T z)(j:ρ x=.map (aj b))(c:ρ y=.int .i64 k)(hz:z=f zz)(m:jG=l.map fun p=>(p.1,f p.2)):
  (bl ρ ⟨d,.lookup T x y ao,ty,pos,af,g⟩).run P w=.ok (.value (f ((lk k l).getD zz))) w:=by
 have:=Yx (d:=d) (ty:=ty) (pos:=pos) (af:=af) (g:=g) e j c<|h.mpAt i a;rw[hz,m,Yb]at this;exact this
theorem K9(h:SH w0 M K w hp)(i:Nat)(k:∀w' b,SH w0 M K w' (bV hp i (.mp b []))->WL P ops Q rest n (gD env d (.map (aj b))) w'):WL P ops Q (⟨d,.makeMap T aw,ty,pos,af,aw⟩::rest) n env w:=
 J r_makeMap (k _ _ (h.learn i (Grow.alloc _ _) (fun b a=>lE a.symm) ⟨#[],0,PX _ _,rfl,by simp[MH]⟩))
theorem SH.mpSet{b:Nat}{jG vZ:List (Int×al)}(h:SH w0 M K w hp)(i:Nat)(c:hp i=.mp b jG)(d:bL (fun x=>x=b) w w')(e:JY w' b vZ):SH w0 M K w' (bV hp i (.mp b vZ)):=
 h.step i d (fun x a _=>by rw[c];exact a) (fun x a _=>by rw[c];exact a) e
theorem wO{z:al}{x y u:bo}{b:Nat}{k:Int}{jG vZ:List (Int×al)}(h:SH w0 M K w hp)(i:Nat)(a:hp i=.mp b jG)(g:MapOf P T z)(j:ev n env x=.map (aj b))(f:ev n env y=.int .i64 k)(e:ev n env u=v)(m:NU jG k v=vZ)
  (kk:∀w',SH w0 M K w' (bV hp i (.mp b vZ))->WL P ops Q rest n (gD env d fW) w'):WL P ops Q (⟨d,.insert T x y u,ty,pos,af,aw⟩::rest) n env w:=
 wl_insert g j f e (h.mpAt i a) fun w' l c=>kk w' (h.mpSet i a l (m▸c))
theorem Om{z:al}{x y u:bo}{b:Nat}{k:Int}{jG vZ:List (Int×al)}(h:SH w0 M K w hp)(i:Nat)(a:hp i=.mp b jG)(g:MapOf P T z)(j:ev n env x=.map (aj b))(f:ev n env y=.int .i64 k)(e:ev n env u=v)(m:NU jG k v=vZ)
  (kk:∀w',SH w0 M K w' (bV hp i (.mp b vZ))->WL P ops Q rest n (gD env d fW) w'):WL P ops Q (⟨d,.mapUpdate T x y u,ty,pos,af,aw⟩::rest) n env w:=
 Tu g j f e (h.mpAt i a) fun w' l c=>kk w' (h.mpSet i a l (m▸c))
end
theorem SH.argPt{w:aq}{M K:BS}{hp:Nat->Chunk}{w0:aq}{b:Nat}{cs:List al}(h:SH w0 M K w hp)(i:Nat)(ho:∃E,w.heap[b]? =aj (.cells cs.toArray E (0,0)))(hn:∀b,¬iU hp b):SH w0 M K w (bV hp i (.pt b 0 cs)):=by
 obtain⟨E,ho⟩:=ho;exact h.know i (fun _ h=>h) ⟨hn b,_,_,_,ho,by simp⟩
open Go.RowKit
def hasB(s:Str)(c:UInt8):Bool:=ab (0<=Go.Lib.indexByte s c)
section
variable{P:cc}{ops:Array ee}{Q:fg->Act->aq->Prop}{n:Nat}{env:Nat->al}{w:aq}{rest:List ee}
 {d:Option Nat} {ty:aT} {pos:String} {af:Array hO} {v:al} {x:bo}
theorem PY{f:fR}(c:List al){xs:Array bo}{p:Array aT}{args:List al}{j dj:Nat}{b a:Bool}(i:Bool)(o:(ops[j]?).bind (·.dst)=aj dj)(m:ev n env (.tmp dj)=gv i (.bool b))(q:Tn P f)(s:(i&&(b==a))=ba->ev n env x=.func (.func f) #[] c.toArray)
    (z:(i&&(b==a))=ba->xs.toList.map (ev n env)++c=args) (r:bE P f args.toArray w (fun e w'=>Grow w w'/\e=.returned v))
    (k:∀w',Grow w w'->WL P ops Q rest n (gD env d (gv (i&&(b==a)) v)) w'):
    WL P ops Q (⟨d,.call {callee:=.value x,args:=xs,argTypes:=p},ty,pos,af,aj (j,a)⟩::rest) n env w:=by
  by_cases g:(i&&(b==a))=ba
  · have A:=gl g;have y:=gr g;rw[eB A]at m;have t:b=a:=by simpa using y
    subst t;refine Xw o m<|bX q (s g) (by simpa using z g) r ?_;rintro e w'⟨u,rfl⟩;refine⟨_,Z,?_⟩;have:=k w' u;rw[eB g]at this;exact this
  · have l:(i&&(b==a))=false:=by simpa using g
    have h:=k w<|bL.refl _ _;rw[l]at h;cases i with
    |true=>exact jS o m (by simpa using l) h
    |false=>exact wl_offU o m h
theorem Yy{f:fR}(a:List al){xs:Array bo}{g:Array aT}{args:List al}{j dj:Nat}{b c:Bool}(l:(ops[j]?).bind (·.dst)=aj dj)(q:ev n env (.tmp dj)=.bool b)(o:Tn P f)(p:(b==c)=ba->ev n env x=.func (.func f) #[] a.toArray)
    (i:(b==c)=ba->xs.toList.map (ev n env)++a=args) (m:bE P f args.toArray w (fun e w'=>Grow w w'/\e=.returned v))
    (k:∀w',Grow w w'->WL P ops Q rest n (gD env d (gv (b==c) v)) w'):
    WL P ops Q (⟨d,.call {callee:=.value x,args:=xs,argTypes:=g},ty,pos,af,aj (j,c)⟩::rest) n env w:=
  PY a ba l q o (fun h=>p (by simpa using h)) (fun h=>i (by simpa using h)) m (by simpa using k)
end
open Go.RowKit
section
variable{P:cc}{ops:Array ee}{Q:fg->Act->aq->Prop}{n:Nat}{env:Nat->al}{w w' w0:aq}{M K:BS}{hp:Nat->Chunk}{rest:List ee}
 {d:Option Nat} {op:Op} {ty:aT} {pos:String} {af:Array hO} {v:al} {g:Option (Nat×Bool)} {T:aT} {ρ:bo->al}
theorem r_cap{x:bo}{T E:aT}{e:Nat}{a:Option kA}{l c:Nat}(f:SliceOf P T E e)(b:ρ x=.slice a l c):
  (bl ρ ⟨d,.call {callee:=.builtin .cap,args:= #[x],argTypes:= #[T]},ty,pos,af,g⟩).run P w=.ok (.value (.int .i64 c)) w:=by
 simp[bl,hH,ju,iQ,Builtin.cap_,b,cA,f.desc,goInt]
theorem NV(w:aq)(t s ty e:aT)(i:TypeInfo)(z:al)(B:P.underlying t=aj (.slice e))(q:P.underlying s=aj (.int .i64))(u:P.info? e=aj i)(hz:i.zero=aj z)(F:0<i.size)
  (b:kA) (a c:Nat) (d:List al) (m:d.length=a*i.size) (holds:∀j v,d[j]? =aj v->w.cell? (b.add j)=aj v)
  (n:Nat) (C:0<n) (E:c<a+n) (A:((a+n:Nat):Int)<=9223372036854775807) (r:ix (a+n) c*i.bytes<=281474976710656) (y:n*i.bytes<=281474976710656):
  (gA #[t,s] ty #[.slice (aj b) a c,.int .i64 n]).run P w=
   .ok (.slice (aj ⟨w.heap.size,0,aw⟩) (a+n) (gS w (a+n) c e))
    (w.drew.alloc (.cells (d.toArray++cy z.cells n++cy z.cells (gS w (a+n) c e-(a+n))) e)):=by
 have hn:¬(a+n<=c):=by omega
 have l:n≠0:=by omega
 have k:¬(9223372036854775807<((a:Int)+(n:Int))):=by omega
 have h:¬(281474976710656<ix (a+n) c*i.bytes):=by omega
 have x:IntKind.i64.wrap (n:Int)=n:=by rw[IntKind.wrap_i64];omega
 have f:¬(281474976710656<(n:Int)*(i.bytes:Int)):=by
  rw[<-sR];omega
 have g:¬((n:Int)<0):=by omega
 have o:¬(n*i.size=0):=Nat.mul_ne_zero l V;have p:=run_firstCells_some (P:=P) w.drew i.size a b a c d m (by simpa using holds);simp[gA,pj B,pj q,fp,dt,jw,u,hz,asInt,ie,x,hn,l,g,o,k,h,f,Question.forced,p,qH,gS]
theorem wl_growRaw{x y:bo}{E s:aT}{e c gg cap a k:Nat}{b:List al}(L:kD P T E e c)(ht:P.underlying s=aj (.int .i64))(K:Raw w gg cap e E b)(X:ev n env x=.slice (aj ⟨gg,0,aw⟩) a cap)(R:ev n env y=.int .i64 (k:Nat))(hs:0<e)(t:a<=cap)(hk:0<k)(S:cap<a+k)
    (hb:(a+k)*c<=140737488355328) (I:a+k<=kO)
    (h:∀w' g2 f g,Grow w w'->w.heap.size<=g2->a+k<=f->Raw w' g2 f e E g->g.take (a*e)=b.take (a*e)->WL P ops Q rest n (gD env d (.slice (aj ⟨g2,0,aw⟩) (a+k) f)) w'):
    WL P ops Q (⟨d,.call {callee:=.builtin .append,args:= #[x,y],argTypes:= #[T,s]},ty,pos,af,aw⟩::rest) n env w:=by
  obtain⟨i,z,O,hz,v,l,G⟩:=L.info;have N:a*e<=cap*e:=bd _ t;have M:=K.len;have o:(b.take<|a*e).length=a*e:=by rw[ca];omega
  have holds:∀j u,(b.take<|a*e)[j]? =aj u->w.cell? ((⟨gg,0,aw⟩:kA).add j)=aj u:=by
    intro j u r;rw[addr_add,fT];rw[cf]at r;split at r
    · simp[eM,K.blk,r]
    · cases r
  have A:((a+k:Nat):Int)<=9223372036854775807:=by simp only[kO]at I;omega
  have C:ix (a+k) cap<=2*(a+k):=by
    exact nextslicecap_le V
  have q:ix (a+k) cap*i.bytes<=281474976710656:=by
    have:=bd i.bytes C;rw[Nat.mul_assoc,l]at this;rw[l];omega
  have B:k*i.bytes<=281474976710656:=by
    rw[l];have:k*c<=(a+k)*c:=bd _ V;omega
  have m:=NV (P:=P) w T s ty E i z L.desc ht O hz V ⟨gg,0,aw⟩ a cap (b.take (a*e)) (by rw[v];exact o) holds k hk S A q B;have p:(bl (ev n env) ⟨d,.call {callee:=.builtin .append,args:= #[x,y],argTypes:= #[T,s]},ty,pos,af,aw⟩).run P w=.ok (.value<|.slice (aj ⟨w.heap.size,0,aw⟩) (a+k)<|gS w (a+k) cap E) (w.drew.alloc<|.cells ((b.take<|a*e).toArray++cy z.cells k++cy z.cells (gS w (a+k) cap E-(a+k))) E):=by
    simp only[bl,hH,ju,iQ,ct,cY,bp,fC,cj,en,X,R,m]
  have hge:=grownCap_ge w (a+k) cap E;have F:gS w (a+k) cap E<=maxLen:=td w (a+k) cap E I;refine J p<|h _ _ _ ((b.take<|a*e)++(cy z.cells k).toList++(cy z.cells<|gS w (a+k) cap E-(a+k)).toList) ?_ (bq _) hge ⟨?_,?_,F⟩ ?_
  · exact(Grow.drew w).trans<|Grow.alloc _ _
  · have:=heap_alloc_new w.drew<|.cells ((b.take<|a*e).toArray++cy z.cells k++cy z.cells (gS w (a+k) cap E-(a+k))) E;rw[show((b.take (a*e))++(cy z.cells k).toList++(cy z.cells (gS w (a+k) cap E-(a+k))).toList).toArray=((b.take (a*e)).toArray++cy z.cells k++cy z.cells (gS w (a+k) cap E-(a+k))) by apply lo;simp];exact this
  · rw[bk,bk,o,cr,cr,la,la,G,<-cg,<-cg];congr 1;omega
  · rw[ck,cV V,ij V]
theorem run_copyN(w:aq)(dT r ty e:aT)(i:TypeInfo)(g o d k:Nat)(a:kA)(c f:Nat)(b:Array al)(t:aT)(cs:List al)
  (q:P.underlying dT=aj (.slice e)) (n:P.info? e=aj i)
  (u:w.heap[g]? =aj (.cells b t (0,0))) (hn:cs.length=iB c d*i.size)
  (l:∀j v,cs[j]? =aj v->w.cell? (a.add j)=aj v) (h:o+cs.length<=b.size) (p:∀v∈cs,v.oneCell'=ba):
  (rv #[dT,r] ty #[.slice (aj ⟨g,o,aw⟩) d k,.slice (aj a) c f]).run P w=
   .ok (goInt (iB c d)) (w.setRow g (b.toList.take o++cs++b.toList.drop (o+cs.length)).toArray):=by
 have s:=ta (P:=P) w a cs l;have m:=nF P g o t cs 0 b w u (by simpa using h) p;simp[rv,pj q,nG,mu,fp,dt,n,<-hn,s,m]
theorem MK{x y:bo}{E s:aT}{b k gg cap o dl dc m c:Nat}{a news:List al}{ad:kA}(v:kD P T E b k)(l:Raw w gg cap b E a)(K:ev n env x=.slice (aj ⟨gg,o*b,aw⟩) dl dc)(G:ev n env y=.slice (aj ad) m c)
  (A:news.length=iB m dl*b) (g:∀j u,news[j]? =aj u->w.cell? (ad.add j)=aj u) (F:∀u∈news,u.oneCell'=ba) (q:o+iB m dl<=cap)
  (h:∀w',bL (fun x=>x=gg) w w'->Raw w' gg cap b E (a.take (o*b)++news++a.drop (o*b+news.length))->WL P ops Q rest n (gD env d (.int .i64 (iB m dl:Nat))) w'):
  WL P ops Q (⟨d,.call {callee:=.builtin .copy,args:= #[x,y],argTypes:= #[T,s]},ty,pos,af,aw⟩::rest) n env w:=by
 obtain⟨i,z,C,hz,r,B,I⟩:=v.info;have f:=l.len;have t:o*b+news.length<=cap*b:=by rw[A,<-cg];exact bd _ q
 have e:=run_copyN (P:=P) w T s ty E i gg (o*b) dl dc ad m c a.toArray E news v.desc C l.blk (by rw[r];exact A) g (by simpa[f]using t) F;rw[JZ l.blk]at e;have p:(bl (ev n env) ⟨d,.call {callee:=.builtin .copy,args:= #[x,y],argTypes:= #[T,s]},ty,pos,af,aw⟩).run P w=.ok (.value<|.int .i64 (iB m dl:Nat)) (xH w gg<|.cells (a.take (o*b)++news++a.drop (o*b+news.length)).toArray E (0,0)):=by
  simp only[bl,hH,ju,iQ,ct,cY,bp,fC,cj,en,K,G,e];rfl
 refine J p<|h _ (bL.xH _ _ _) ⟨wK<|iT l.blk,?_,l.le⟩;rw[bk,bk,ca,cL,f];omega
structure OverFn(P:cc)(f:fR)(T B:aT):Prop where
 out:∀(args:Array al) (w:aq),(callFunc f args).run P w=((Extern.SlicesOverlaps.overlaps #[T,T] #[B] args).run P w).andThen fun v w'=>.ok (.value v) w'
theorem wl_overlaps{x:bo}{xs:Array bo}{t:Array aT}{f:fR}{E B:aT}{j e g1 g2 c2 o1 o2 m1 m2 k1 k2:Nat}{c a:List al}{s:aT}(y:OverFn P f T B)(q:kD P T E j e)(m:w.heap[g1]? =aj (.cells c.toArray s (0,0)))(r:Raw w g2 c2 j E a)(o:g1≠g2)(p:0<c2*j)
  (C:ev n env x=.func (.func f) #[] #[]) (l:xs.toList.map (ev n env)=[.slice (aj ⟨g1,o1,aw⟩) m1 k1,.slice (aj ⟨g2,o2,aw⟩) m2 k2])
  (h:WL P ops Q rest n (gD env d (.bool ao)) w):
  WL P ops Q (⟨d,.call {callee:=.value x,args:=xs,argTypes:=t},ty,pos,af,aw⟩::rest) n env w:=by
 obtain⟨i,z,v,hz,k,u,A⟩:=q.info;have ho:=Lib.run_overlaps_apart (P:=P) w T B E q.desc j (fun w=>by simp[fp,dt,v,k]) ⟨g1,o1,aw⟩ ⟨g2,o2,aw⟩ m1 k1 m2 k2 o s E c.length a.length (by simp[te,m]) (by simp[te,r.blk]) (by rw[r.len];omega) (by simp[ot,m]) (by simp[ot,m]);have g:xs.map (ev n env)= #[.slice (aj ⟨g1,o1,aw⟩) m1 k1,.slice (aj ⟨g2,o2,aw⟩) m2 k2]:=by
  apply lo;simpa using l
 have b:=y.out #[.slice (aj ⟨g1,o1,aw⟩) m1 k1,.slice (aj ⟨g2,o2,aw⟩) m2 k2] w;rw[ho]at b;refine J ?_ h;simp only[bl,hH,C,Deferred.ofValue,ju];simp[g,b]
end
open Go.RowKit
section
variable{β:Type}
theorem ins_l1{C X:List β}{p s:Nat}(a:X.length=s)(hp:p<=C.length):(C.take p++X++C.drop (p+s)).take (p+s)=C.take p++X:=by
 have h:(C.take p++X).length=p+s:=by simp[a];omega
 rw[<-h,jB]
theorem ins_l2{B a R:List β}{p q:Nat}(c:p<=B.length)(b:a.length=q):(B.take p++a++R).take (p+q)=B.take p++a:=by
 have h:(B.take p++a).length=p+q:=by simp[b];omega
 rw[<-h,jB]
theorem ins_l3{C X a R:List β}{p s q:Nat}(g:X.length=s)(hp:p+s<=C.length)(d:a.length=q):
  ((C.take (p+s)++a++R).take p++X++(C.take (p+s)++a++R).drop (p+s)).take (p+s+q)=C.take p++X++a:=by
 have f:(C.take<|p+s).length=p+s:=by simp;omega
 have b:(C.take (p+s)++a++R).take p=C.take p:=by
  rw[ck,cV V,ea,cO V]
 have c:(C.take (p+s)++a++R).drop (p+s)=a++R:=by
  rw[ck];exact sh f
 rw[b,c,<-ck];have e:(C.take p++X++a).length=p+s+q:=by simp[g,d];omega
 rw[<-e,jB]
end
theorem raw_ins{α:Type}{R:lD α}{E:aT}{w w':aq}{A N:BS}{l:List α}{x:α}{gg g2 d i:Nat}{c f g:List al}(B:Raw w' g2 d R.sz E f)(O:bL (fun y=>y=gg) w w')(u:g2<w.heap.size->g2=gg)(Q:i<=l.length)(hc:l.length+1<=d)(X:l.length*R.sz<=c.length)
    (s:∀k (h:k<l.length),R.rd w (fun b=>A b\/b=gg) ((c.drop (k*R.sz)).take R.sz) l[k]) (M:R.rd w N g x) (hN:∀b,(A b\/b=gg)->b<w.heap.size->N b) (P:gg<w.heap.size)
    (T:f.take (i*R.sz+R.sz+(l.length-i)*R.sz)=c.take (i*R.sz)++g++(c.drop (i*R.sz)).take ((l.length-i)*R.sz)):
    cu R E w' A (.slice (aj ⟨g2,0,aw⟩) (l.length+1) d) (l.take i++[x]++l.drop i):=by
  have e:(l.take i++[x]++l.drop i).length=l.length+1:=by simp;omega
  have o:=R.len M;have S:i*R.sz<=l.length*R.sz:=bd _ Q;have n:(l.length-i)*R.sz=l.length*R.sz-i*R.sz:=nt _ _ _;have p:(c.take<|i*R.sz).length=i*R.sz:=by rw[ca];omega
  have L:(l.length+1)*R.sz=i*R.sz+R.sz+(l.length-i)*R.sz:=by rw[cg,n];omega
  have v:∀cs a,R.rd w (fun b=>A b\/b=gg) cs a->R.rd w' (fun b=>A b\/ob (.slice (aj ⟨g2,0,aw⟩) (l.length+1) d) b) cs a:=fun cs a h=>
    R.go h O (fun b m _=>.inr m) (fun b m r=>m.elim .inl (fun m=>.inr (by have:b=g2:=m;subst this;exact u r)))
  have G:R.rd w' (fun b=>A b\/ob (.slice (aj ⟨g2,0,aw⟩) (l.length+1) d) b) g x:=
    R.go M O (fun b m r=>hN b (.inr m) r) (fun b m r=>hN b (m.elim .inl (fun m=>.inr (by have:b=g2:=m;subst this;exact u r))) r)
  refine⟨c.take (i*R.sz)++g++(c.drop<|i*R.sz).take ((l.length-i)*R.sz),⟨?_,.inr ⟨g2,d,f.toArray,?_,fv _,B.blk,?_,B.le,?_,?_⟩⟩,?_⟩
  · rw[e,L,bk,bk,p,o,ca,cL,n];omega
  · rw[e]
  · rw[e];omega
  · simpa using B.len
  · rw[e,L];exact T
  · intro k z;rw[e]at z;by_cases F:k<i
    · have q:(k+1)*R.sz<=i*R.sz:=bd _ F;rw[cg]at q;have C:=v _ _<|s k V;have t:(l.take i++[x]++l.drop i)[k]'(by rw[e];omega)=l[k]'V:=by
        rw[eL (by simp;omega),eL (by simp;omega),kn]
      rw[t,ck,fN V,cV (by rw[cL];omega),eh,ea,cO V];exact C
    · by_cases I:k=i
      · subst I;have t:(l.take k++[x]++l.drop k)[k]'(by rw[e];omega)=x:=by
          rw[eL (by simp;omega),fh (by simp;omega)];simp
        rw[t,ck];have K:(c.take (k*R.sz)++(g++(c.drop<|k*R.sz).take ((l.length-k)*R.sz))).drop (k*R.sz)=g++(c.drop<|k*R.sz).take ((l.length-k)*R.sz):=by
          exact sh p
        rw[K,<-o,jB];exact G
      · obtain⟨j,rfl⟩:∃j,k=i+1+j:=⟨k-i-1,by omega⟩;have C:=v _ _<|s (i+j) V;have t:(l.take i++[x]++l.drop i)[i+1+j]'(by rw[e];omega)=l[i+j]'V:=by
          rw[fh (by simp;omega),mY];congr 1;simp;omega
        have h6:(c.take (i*R.sz)++g).length=i*R.sz+R.sz:=by rw[bk,p,o]
        have K:(c.take (i*R.sz)++g++(c.drop<|i*R.sz).take ((l.length-i)*R.sz)).drop ((i+1+j)*R.sz)=((c.drop<|i*R.sz).take ((l.length-i)*R.sz)).drop (j*R.sz):=by
          rw[show(i+1+j)*R.sz=(c.take (i*R.sz)++g).length+j*R.sz by rw[h6,cg,cg,ns]];rw[iz];have:(c.take (i*R.sz)++g).drop ((c.take (i*R.sz)++g).length+j*R.sz)=[]:=cC V;rw[this,cD];congr 1;omega
        have q:(j+1)*R.sz<=(l.length-i)*R.sz:=bd _ V;rw[cg]at q;rw[t,K,eh,ea,cO V,mb,<-cg];exact C
def ins1{α:Type}(l:List α)(i:Int)(m:List α):Option (List α):=if 0<=i/\i<=l.length then aj (l.take i.toNat++m++l.drop i.toNat)else aw
theorem o_ins{α:Type}{l r m:List α}{i:Int}(h:ins1 l i m=aj r):∃a:Nat,i=a/\a<=l.length/\r=l.take a++m++l.drop a:=by
  unfold ins1 at h;by_cases hp:0<=i/\i<=l.length
  · rw[if_pos hp]at h;cases h;exact⟨i.toNat,by omega,by omega,Z⟩
  · rw[if_neg hp]at h;cases h
theorem PZ{w:aq}{gg cap d:Nat}{E:aT}{b:List al}(c:Raw w gg cap d E b)(o k:Nat):∀j u,((b.drop o).take k)[j]? =aj u->w.cell? ((⟨gg,o,aw⟩:kA).add j)=aj u:=by
  intro j u a;rw[addr_add];rw[cf]at a;split at a
  · rw[cw]at a;simp[eM,c.blk,a]
  · cases a
theorem cu.srcO{α:Type}{R:lD α}{E:aT}{w:aq}{A:BS}{v:al}{l:List α}(h:cu R E w A v l):eF R w BE (fun b=>A b\/ob v b) v l:=by
  obtain⟨xs,c,d⟩:=h;rcases c.2 with⟨rfl,hn⟩|⟨g,cap,cur,rfl,e1,e2,e3,e4,e5,e6⟩
  · have:l=[]:=cl hn;subst this;exact eF.nil
  · refine⟨aj ⟨g,0,aw⟩,cap,Z,e3,e4,(fun h=>by cases h),fun i a=>⟨g,0,cur,E,(0,0),Z,fun h=>h,e2,?_⟩⟩;have:=d i a;rw[<-e6,eh,ea,cO ?_]at this
    · rw[fT];exact this
    · have:(i+1)*R.sz<=l.length*R.sz:=bd _ a;rw[cg]at this;omega
section
variable{P:cc}{ops:Array ee}{Q:fg->Act->aq->Prop}{n:Nat}{env:Nat->al}{w:aq}{rest:List ee}
 {d:Option Nat} {ty:aT} {pos:String} {af:Array hO} {v:al} {T:aT} {x y:bo}
theorem wl_appO{α:Type}{R:lD α}{E:aT}{e a:Nat}{A:BS}{u:al}{l m:List α}(B:kD P T E e a)(f:R.sz=e)(t:cu R E w A v l)(r:eF R w BE A u m)(h:ev n env x=v)(s:ev n env y=u)
  (j:∀b,ob v b->A b) (i:(l.length+m.length)*a<=140737488355328) (o:l.length+m.length<=9223372036854775807)
  (k:∀w' c,cu R E w' A c (l++m)->bL (ob v) w w'->(∀b,ob c b->b<w.heap.size->ob v b)->WL P ops Q rest n (gD env d c) w'):
  WL P ops Q (⟨d,.call {callee:=.builtin .append,args:= #[x,y],argTypes:= #[T,T]},ty,pos,af,aw⟩::rest) n env w:=by
 obtain⟨c,w',p,q,C,z⟩:=run_app (d:=d) (ty:=ty) (pos:=pos) (af:=af) (g:=aw) B f h t s r j i o;exact J p<|k w' c q C z
end
theorem ins_av{α β:Type}{R:lD α}{R':lD β}{E g:aT}{w0 w:aq}{M K:BS}{hp:Nat->Chunk}{i j:Nat}{v u:al}{l:List α}{m:List β}(h:SH w0 M K w hp)(c:i≠j)(f:hp i=.own R E v l)(d:hp j=.own R' g u m):∀b,((M b\/rest hp i b)\/ob v b)->b<w.heap.size->(M b\/rest hp j b)\/ob u b:=by
  rintro b((a|⟨k,n,a⟩)|a)_
  · exact .inl<|.inl a
  · by_cases e:k=j
    · subst e;rw[d]at a;exact .inr a
    · exact .inl<|.inr ⟨k,e,a⟩
  · exact .inl (.inr ⟨i,c,by rw[f];exact a⟩)
open Go.RowKit
section
variable{P:cc}{ops:Array ee}
variable{Q:fg->Act->aq->Prop}{n:Nat}{env:Nat->al}{w w0:aq}{M K:BS}{hp:Nat->Chunk}
structure Yc(P:cc)(ops:Array ee)(L:BS)(ws:aq)(Q:fg->Act->aq->Prop)(fuel:Nat)(listed:Array Bool)(n:Nat)(env:Nat->al)(w:aq):Prop where
 out:qQ P .any ops (pd Q) (bL L ws) fuel listed (act n env) w
theorem je{L:BS}{id:Nat}{l:List ee}(b:P.follows .mixedOrders=ba)(a:SH w0 M K w hp)
  (h:∀w,SH w0 M K w hp->Yc P l.toArray L w Q l.length (nj l.length ao) n env w):WC P (fS id l.toArray ba) Q n env w:=
 ⟨wp_region_noPanic (wp_region_held (S:=bL L w.drew) b (h _ (a.grow (Grow.drew w))).out)⟩
variable{d:Option Nat}{op:Op}{ty:aT}{pos:String}{af:Array hO}{v:al}{g:Option (Nat×Bool)}{i fuel:Nat}{listed:Array Bool}
theorem whk_first{L:BS}{ws:aq}{o:ee}(e:bL L ws w)(f:ops[i]? =aj o)(b:eg ops=ba)(a:fa .any ops listed i=ba)(c:(cR .any ops listed).contains i=ba)
  (d:YieldsIf P ops (bL L ws) o v (act n env)) (h:Yc P ops L ws Q fuel (listed.setIfInBounds i ba) n (gD env o.dst v) w):Yc P ops L ws Q (fuel+1) listed n env w:=by
 refine⟨wpAnyH_take f b a c (fun _ _ _ h=>h) d e ?_⟩;rw[Fq];exact h.out
theorem whk_ok{L:BS}{ws:aq}(i:Nat)(j:bL L ws w)(l:ops[i]? =aj ⟨d,op,ty,pos,af,g⟩)(k:cq ⟨d,op,ty,pos,af,g⟩ (ez ops (act n env).tmps)=ba)(e:eg ops=ba)(c:fa .any ops listed i=ba)(f:(cR .any ops listed).contains i=ba)
  (b:∀a,bL L ws a->(bl (ev n env) ⟨d,op,ty,pos,af,g⟩).run P a=.ok (.value v) a) (h:Yc P ops L ws Q fuel (listed.setIfInBounds i ba) n (gD env d v) w):Yc P ops L ws Q (fuel+1) listed n env w:=
 whk_first (o:=⟨d,op,ty,pos,af,g⟩) j l e c f (.inl ⟨k,fun a m=>by rw[gY];exact b a m⟩) h
theorem whk_done{L:BS}{ws:aq}(a:cR .any ops listed=[])(h:Q .normal (act n env) w):Yc P ops L ws Q fuel listed n env w:=⟨wpAnyH_done a (NoPanic.normal h) fuel⟩
def Vd(P:cc)(ops:Array ee)(L:BS)(ws:aq)(Q:fg->Act->aq->Prop)(fuel:Nat)(listed:Array Bool):fg->Act->aq->Prop:=
 selK (fun a' w'=>bL L ws w'/\qQ P .any ops (pd Q) (bL L ws) fuel listed a' w') (pd Q)
theorem au{L:BS}{ws:aq}(a:bL L ws w)(h:Yc P ops L ws Q fuel listed n env w):Vd P ops L ws Q fuel listed .normal (act n env) w:=⟨a,h.out⟩
theorem whk_eff{L:BS}{ws:aq}(i:Nat)(c:cR .any ops listed=[i])(a:ops[i]? =aj ⟨d,op,ty,pos,af,g⟩)(e:cq ⟨d,op,ty,pos,af,g⟩ (ez ops (act n env).tmps)=ba)
  (h:WL P ops (Vd P ops L ws Q fuel (listed.setIfInBounds i ba)) [⟨d,op,ty,pos,af,aw⟩] n env w):Yc P ops L ws Q (fuel+1) listed n env w:=by
 refine⟨nr c zq3 fun k b=>?_⟩;obtain rfl:k=i:=by simpa using b
 exact IA a e h
theorem jo{L:BS}{ws:aq}{f:Option Nat}{e:Op}{c:aT}{a:String}{b:Array hO}{o:Option (Nat×Bool)}(i j:Nat)(s:cR .any ops listed=[i,j])(q:ops[i]? =aj ⟨d,op,ty,pos,af,g⟩)(t:cq ⟨d,op,ty,pos,af,g⟩ (ez ops (act n env).tmps)=ba)
    (p:ops[j]? =aj ⟨f,e,c,a,b,o⟩) (l:cq ⟨f,e,c,a,b,o⟩ (ez ops (act n env).tmps)=ba)
    (h:WL P ops (Vd P ops L ws Q fuel (listed.setIfInBounds i ba)) [⟨d,op,ty,pos,af,aw⟩] n env w) (r:WL P ops (Vd P ops L ws Q fuel (listed.setIfInBounds j ba)) [⟨f,e,c,a,b,aw⟩] n env w):Yc P ops L ws Q (fuel+1) listed n env w:=by
  refine⟨nr s zq3 fun k m=>?_⟩;rcases bn.1 m with rfl|m
  · exact IA q t h
  · obtain rfl:k=j:=by simpa using m
    exact IA p l r
end
theorem bL.Gq{a b c:aq}{L N:BS}(h:bL L a b)(k:bL N b c)(hN:∀x,N x->a.heap.size<=x):bL L a c:=h.step k (fun x d e=>by have:=hN x d;omega)
theorem bL.same{a b c:aq}{L:BS}(h:bL L a b)(k:bL L b c):bL L a c:=h.step k (fun _ d _=>d)
section
variable{P:cc}{ops:Array ee}{Q:fg->Act->aq->Prop}{n:Nat}{env:Nat->al}{w w' w0:aq}{M K:BS}{hp:Nat->Chunk}{rest:List ee}
 {d:Option Nat} {op:Op} {ty:aT} {pos:String} {af:Array hO} {v:al} {g:Option (Nat×Bool)} {T:aT} {ρ:bo->al} {x y:bo}
theorem w_stOG{α:Type}{R:lD α}{E:aT}{C:Nat}{l:List α}{k:Int}{a a':α}{b off:Nat}{z u:al}(h:SH w0 M K w hp)(i:Nat)(r:hp i=.own R E u l)(G:ob u b)(hs:R.sz=C)(s:l[k.toNat]? =aj a)(hT:One P T z)(c:ev n env x=.pointer (aj ⟨b,k.toNat*C+off,aw⟩))
    (hy:ev n env y=v) (h1:v.oneCell'=ba) (p:nc off C=ba) (hset:∀cs,R.rd w (SH.A M hp) cs a->R.rd w (SH.A M hp) (cs.set off v) a')
    (kk:∀w',SH w0 M K w' (bV hp i (.own R E u (l.set k.toNat a')))->bL (ob u) w w'->WL P ops Q rest n (gD env d fW) w'):
    WL P ops Q (⟨d,.store T x y,ty,pos,af,aw⟩::rest) n env w:=by
  subst hs;rw[lA]at p;have m:k.toNat<l.length:=by
    rcases cF k.toNat l.length with h|h
    · exact h
    · rw[bt h]at s;cases s
  have B:l[k.toNat]=a:=by rw[bc m]at s;exact cN s
  generalize k.toNat=k at*;have e:∀b,ob u b->SH.A M hp b:=fun b G=>.inr ⟨i,by rw[r];exact G⟩;obtain⟨xs,S,q3⟩:=h.bJ i r;rcases S.2 with⟨rfl,hn⟩|⟨g',cap,cur,rfl,e1,e2,e3,e4,e5,e6⟩
  · omega
  have t:b=g':=G;subst t;have L:(k+1)*R.sz<=l.length*R.sz:=bd _ m;have a0:l.length*R.sz<=cap*R.sz:=bd _ e3;rw[cg]at L;have I:k*R.sz+off<cur.size:=by omega
  have g:=bL.xH w b<|.cells (cur.setIfInBounds (k*R.sz+off) v) E (0,0);refine BF (Tk hT c e2 I hy h1) (kk _ (h.step i g (fun x c _=>by rw[r];exact c) (fun x c _=>by rw[r];exact c) ⟨xs.set (k*R.sz+off) v,⟨?_,.inr ⟨b,cap,cur.setIfInBounds (k*R.sz+off) v,?_,e1,?_,?_,e4,?_,?_⟩⟩,?_⟩) (g.weaken (fun x c _=>c)))
  · rw[cm,cm];exact S.1
  · rw[cm]
  · rw[wK (iT e2)]
  · rw[cm];exact e3
  · simpa using e5
  · rw[cm,jy,mA,e6]
  · intro f F;have N:f<l.length:=by rwa[cm]at F
    have o:=fun cs a(h:R.rd w (SH.A M hp) cs a)=>R.go (A':=fun x=>(M x\/(SH.av hp i (.own R E (.slice (aj ⟨b,0,aw⟩) l.length cap) (l.set k a'))) x)\/ob (.slice (aj ⟨b,0,aw⟩) l.length cap) x) h g (fun x c _=>e x c) (fun x c _=>by
      rcases c with(c|c|c)|c
      · exact .inl c
      · exact .inr<|lF c
      · exact e x c
      · exact e x c)
    have O:=fun j(X:j<l.length)=>R.go (A':=SH.A M hp) (q3 j X) (bL.refl BE w) (fun _ h=>h.elim) fun x c _=>.inl c;by_cases q:f=k
    · subst q;rw[mc,QW rfl];exact o _ _<|hset _<|B▸O f m
    · rw[mF (Ne.symm q),Ol]
      · exact o _ _<|O f N
      · rcases cF k f with h5|h5
        · left;have:(k+1)*R.sz<=f*R.sz:=bd _ h5;rw[cg]at this;omega
        · right;have:(f+1)*R.sz<=k*R.sz:=bd _ V;rw[cg]at this;omega
end
open Go.RowKit
section
variable{w0 w:aq}{M K:BS}{hp:Nat->Chunk}{α:Type}{R:lD α}
theorem SH.gV(h:SH w0 M K w hp)(i:Nat):SH w0 M K w (bV hp i .no):=h.step i (bL.refl BE w) (fun _ h=>h.elim) (fun _ h=>h.elim) U
variable{P:cc}{T T2 ty:aT}{ρ:bo->al}{d:Option Nat}{pos:String}{af:Array hO}{g:Option (Nat×Bool)}{x y:bo}{v:al}{A:BS}{o:Option α}
def PtrTo(P:cc)(T:aT):Prop:=∃E,P.underlying T=aj (.pointer E)
theorem PtrTo.p(a:PtrTo P T):P.underlying T=aj (.pointer (P.pointee T)):=by
 obtain⟨E,a⟩:=a;simp[Program.pointee,a]
end
open Go.RowKit
def Chunk.Tv:Chunk->Prop
 | .sr .. =>False
 | .pt .. =>False
 | .two a b=>a.Tv/\b.Tv
 |_=>True
theorem Chunk.re{c:Chunk}{w:aq}{M O i j:BS}(e:c.Tv)(h:c.holds w M O)(d:∀b,i b\/j b->b<w.heap.size->M b\/O b):c.holds w i j:=by
 induction c with
 |no=>trivial
 |rd R v l=>exact eF.sub h d d
 |sr R v l=>exact e.elim
 |pt b o cs=>exact e.elim
 |blk b cs=>exact h
 |own R E v l=>exact cu.go h (bL.refl BE w) (fun _ h=>h.elim) (fun _ h=>h.elim) (fun b f g=>.inl (d b f g))
 |rp R v x=>exact R.go h (bL.refl BE w) (fun _ h=>h.elim) d
 |two a b iha ihb=>exact⟨iha e.1 h.1,ihb e.2 h.2.1,h.2.2⟩
 |eX S=>exact S.go h (bL.refl BE w) (fun _ h=>h.elim) (fun _ h=>h.elim) (fun b f g=>.inl (d b f g))
 |mp b jG=>exact h
section
variable{w0 w w':aq}{M K:BS}{hp:Nat->Chunk}
theorem SH.pair(h:SH w0 M K w hp)(i j:Nat)(l:i≠j):SH w0 M K w (bV (bV hp j .no) i (.two (hp i) (hp j))):=by
  have c:∀x b,(bV (bV hp j .no) i (.two (hp i)<|hp j) x).own' b->(x=i/\((hp i).own' b\/(hp j).own' b))\/(x≠i/\x≠j/\(hp x).own' b):=by
    intro x b a;by_cases e:x=i
    · subst e;rw[bW]at a;exact .inl ⟨Z,a⟩
    · rw[dZ e]at a;by_cases f:x=j
      · subst f;rw[bW]at a;exact a.elim
      · rw[dZ f]at a;exact .inr ⟨e,f,a⟩
  have d:∀b,iU (bV (bV hp j .no) i<|.two (hp i)<|hp j) b->iU hp b:=by
    rintro b⟨x,k⟩;rcases c x b k with⟨_,h1|h1⟩|⟨_,_,h1⟩
    · exact⟨i,h1⟩
    · exact⟨j,h1⟩
    · exact⟨x,h1⟩
  refine⟨h.keep,h.ltM,fun x b a=>?_,fun x=>?_,fun x y g b k m=>?_,fun x b a=>?_⟩
  · rcases c x b a with⟨_,h1|h1⟩|⟨_,_,h1⟩
    · exact h.apM i b h1
    · exact h.apM j b h1
    · exact h.apM x b h1
  · by_cases e:x=i
    · subst e;rw[bW];exact⟨Chunk.sub (h.ok x) fun b a _=>d b a,Chunk.sub (h.ok j) fun b a _=>d b a,fun b a=>h.apart x j l b a⟩
    · rw[dZ e];by_cases f:x=j
      · subst f;rw[bW];trivial
      · rw[dZ f];exact Chunk.sub (h.ok x) (fun b a _=>d b a)
  · rcases c x b k with⟨e1,h1⟩|⟨e1,e1',h1⟩<;>rcases c y b m with⟨f,h2⟩|⟨f,e2',h2⟩
    · exact g<|e1.trans f.symm
    · rcases h1 with h1|h1
      · exact h.apart i y (fun e=>f e.symm) b h1 h2
      · exact h.apart j y (fun e=>e2' e.symm) b h1 h2
    · rcases h2 with h2|h2
      · exact h.apart x i e1 b h1 h2
      · exact h.apart x j e1' b h1 h2
    · exact h.apart x y g b h1 h2
  · rcases c x b a with⟨_,h1|h1⟩|⟨_,_,h1⟩
    · exact h.old i b h1
    · exact h.old j b h1
    · exact h.old x b h1
theorem SH.unpair{a c:Chunk}(h:SH w0 M K w hp)(i j:Nat)(r:i≠j)(q:hp i=.two a c)(t:hp j=.no):SH w0 M K w (bV (bV hp i a) j c):=by
  have g:∀x b,(bV (bV hp i a) j c x).own' b->(x=i/\a.own' b)\/(x=j/\c.own' b)\/(x≠i/\x≠j/\(hp x).own' b):=by
    intro x b d;by_cases e:x=j
    · subst e;rw[bW]at d;exact .inr (.inl ⟨Z,d⟩)
    · rw[dZ e]at d;by_cases f:x=i
      · subst f;rw[bW]at d;exact .inl ⟨Z,d⟩
      · rw[dZ f]at d;exact .inr (.inr ⟨f,e,d⟩)
  have o:∀b,a.own' b->(hp i).own' b:=fun b d=>by rw[q];exact .inl d
  have n:∀b,c.own' b->(hp i).own' b:=fun b d=>by rw[q];exact .inr d
  have k:∀b,iU (bV (bV hp i a) j c) b->iU hp b:=by
    rintro b⟨x,p⟩;rcases g x b p with⟨_,h1⟩|⟨_,h1⟩|⟨_,_,h1⟩
    · exact⟨i,o b h1⟩
    · exact⟨i,n b h1⟩
    · exact⟨x,h1⟩
  have l:=h.ok i;rw[q]at l;refine⟨h.keep,h.ltM,fun x b d=>?_,fun x=>?_,fun x y m b p s=>?_,fun x b d=>?_⟩
  · rcases g x b d with⟨_,h1⟩|⟨_,h1⟩|⟨_,_,h1⟩
    · exact h.apM i b<|o b h1
    · exact h.apM i b<|n b h1
    · exact h.apM x b h1
  · by_cases e:x=j
    · subst e;rw[bW];exact Chunk.sub l.2.1 (fun b d _=>k b d)
    · rw[dZ e];by_cases f:x=i
      · subst f;rw[bW];exact Chunk.sub l.1 (fun b d _=>k b d)
      · rw[dZ f];exact Chunk.sub (h.ok x) (fun b d _=>k b d)
  · rcases g x b p with⟨e1,h1⟩|⟨e1,h1⟩|⟨e1,e1',h1⟩<;>rcases g y b s with⟨f,h2⟩|⟨f,h2⟩|⟨f,e2',h2⟩
    · exact m<|e1.trans f.symm
    · exact l.2.2 b h1 h2
    · exact h.apart i y (fun e=>f e.symm) b (o b h1) h2
    · exact l.2.2 b h2 h1
    · exact m<|e1.trans f.symm
    · exact h.apart i y (fun e=>f e.symm) b (n b h1) h2
    · exact h.apart x i e1 b h1<|o b h2
    · exact h.apart x i e1 b h1<|n b h2
    · exact h.apart x y m b h1 h2
  · rcases g x b d with⟨_,h1⟩|⟨_,h1⟩|⟨_,_,h1⟩
    · exact h.old i b<|o b h1
    · exact h.old i b<|n b h1
    · exact h.old x b h1
theorem SH.lendC(h:SH w0 M K w hp)(i:Nat)(d:(hp i).Tv):(hp i).holds w (fun b=>M b\/rest hp i b) (hp i).own'/\(∀b,(hp i).own' b->¬(M b\/rest hp i b))/\(∀b,(M b\/rest hp i b)->b<w.heap.size):=by
  refine⟨Chunk.re d (h.ok i) fun b a _=>?_,fun b a c=>?_,fun b a=>?_⟩
  · rcases a with(a|a)|a
    · exact .inl a
    · exact .inr<|lF a
    · exact .inr ⟨i,a⟩
  · rcases c with c|⟨j,hj,c⟩
    · exact h.apM i b a c
    · exact h.apart j i hj b c a
  · rcases a with a|⟨j,_,a⟩
    · exact cp (h.ltM b a) h.keep.size
    · exact Chunk.lt (h.ok j) b a
theorem SH.givenC{C:Chunk}(h:SH w0 M K w hp)(i:Nat)(c:C.Tv)(d:C.holds w' (fun b=>M b\/rest hp i b) C.own')(e:bL (hp i).own' w w')(hn:∀b,C.own' b->b<w.heap.size->(hp i).own' b):SH w0 M K w' (bV hp i C):=
  h.step i e (fun _ a _=>a) hn (Chunk.re c d (fun b a _=>by
    rcases a with a|a|a
    · exact .inl<|.inl a
    · exact .inl<|.inr a
    · exact .inr a))
theorem SH.zu{C:Chunk}(m:∀b,M b->b<w.heap.size)(l:C.holds w M C.own')(k:∀b,C.own' b->¬M b):SH w M C.own' w (bV hno 1 C):=by
  have a:∀b,iU (bV hno 1 C) b->C.own' b:=by
    rintro b⟨j,f⟩;by_cases e:j=1
    · subst e;rw[bW]at f;exact f
    · rw[dZ e]at f;exact f.elim
  refine⟨bL.refl _ _,m,fun i b c=>k b<|a b ⟨i,c⟩,fun i=>?_,fun i j g b c d=>?_,fun i b c _=>a b ⟨i,c⟩⟩
  · by_cases e:i=1
    · subst e;rw[bW];exact Chunk.sub l (fun b c _=>a b c)
    · rw[dZ e];trivial
  · by_cases e:i=1
    · have n:j≠1:=fun h=>g<|e.trans h.symm;rw[dZ n]at d;exact d.elim
    · rw[dZ e]at c;exact c.elim
theorem SH.outC{C:Chunk}(h:SH w0 M K w hp)(i:Nat)(c:hp i=C)(d:C.Tv):C.holds w M C.own'/\bL K w0 w/\(∀b,C.own' b->b<w0.heap.size->K b):=by
 subst c;exact⟨Chunk.re d (h.ok i) fun b a _=>a.imp id fun a=>⟨i,a⟩,h.keep,h.old i⟩
end
structure Val where
 kind:Int
 n:Int
deriving DecidableEq
def bK:lD Val where
 sz:=2
 rd w A cs x:=cs=[.int .i64 x.kind,.int .i64 x.n]
 len:=by rintro w A cs x rfl;rfl
 one:=by rintro w A cs x rfl u hu;simp only[bn,de,or_false]at hu;rcases hu with rfl|rfl<;>first|rfl
 pos:=by decide
 go:=fun h _ _ _=>h
structure Tok where
 kind:Int
 n:Int
deriving DecidableEq
def rH:lD Tok where
 sz:=2
 rd w A cs x:=cs=[.int .i64 x.kind,.int .i64 x.n]
 len:=by rintro w A cs x rfl;rfl
 one:=by rintro w A cs x rfl u hu;simp only[bn,de,or_false]at hu;rcases hu with rfl|rfl<;>first|rfl
 pos:=by decide
 go:=fun h _ _ _=>h
structure fI where
 from_:Int
 jD:Int
 co:Int
 aJ:Int
 taken:Bool
 image:List Int
deriving DecidableEq
def eZ:lD fI where
 sz:=6
 rd w A cs x:=∃qp,cs=[.int .i64 x.from_,.int .i64 x.jD,.int .i64 x.co,.int .i64 x.aJ,.bool x.taken,qp]/\di dh w A qp x.image
 len:=by rintro w A cs x ⟨qp,rfl,h0⟩;rfl
 one:=by rintro w A cs x ⟨qp,rfl,h0⟩ u hu;simp only[bn,de,or_false]at hu;rcases hu with rfl|rfl|rfl|rfl|rfl|rfl<;>first|rfl|exact h0.one
 pos:=by decide
 go:=by rintro w A cs x w2 A2 K ⟨qp,rfl,h0⟩ hk hK hA;exact⟨_,Z,h0.go hk hK hA⟩
theorem IB{w:aq}{A:BS}{cs:List al}{x:fI}(h:eZ.rd w A cs x):∃a,cs=[.int .i64 x.from_,.int .i64 x.jD,.int .i64 x.co,.int .i64 x.aJ,.bool x.taken,a]/\di dh w A a x.image:=h
structure Co where
 kz:Int
 aJ:Int
 image:List Int
 offered:Int
deriving DecidableEq
def Ib:lD Co where
 sz:=4
 rd w A cs x:=∃qp,cs=[.int .i64 x.kz,.int .i64 x.aJ,qp,.int .i64 x.offered]/\di dh w A qp x.image
 len:=by rintro w A cs x ⟨qp,rfl,h0⟩;rfl
 one:=by rintro w A cs x ⟨qp,rfl,h0⟩ u hu;simp only[bn,de,or_false]at hu;rcases hu with rfl|rfl|rfl|rfl<;>first|rfl|exact h0.one
 pos:=by decide
 go:=by rintro w A cs x w2 A2 K ⟨qp,rfl,h0⟩ hk hK hA;exact⟨_,Z,h0.go hk hK hA⟩
theorem kU{w:aq}{A:BS}{cs:List al}{x:Co}(h:Ib.rd w A cs x):∃a,cs=[.int .i64 x.kz,.int .i64 x.aJ,a,.int .i64 x.offered]/\di dh w A a x.image:=h
structure Rec where
 kind:Int
 co:Int
 aJ:Int
 place:Int
 says:List Int
 image:List Int
deriving DecidableEq
def Tw:lD Rec where
 sz:=6
 rd w A cs x:=∃Xz,∃qp,cs=[.int .i64 x.kind,.int .i64 x.co,.int .i64 x.aJ,.int .i64 x.place,Xz,qp]/\di dh w A Xz x.says/\di dh w A qp x.image
 len:=by rintro w A cs x ⟨Xz,qp,rfl,h0,h1⟩;rfl
 one:=by rintro w A cs x ⟨Xz,qp,rfl,h0,h1⟩ u hu;simp only[bn,de,or_false]at hu;rcases hu with rfl|rfl|rfl|rfl|rfl|rfl<;>first|rfl|exact h0.one|exact h1.one
 pos:=by decide
 go:=by rintro w A cs x w2 A2 K ⟨Xz,qp,rfl,h0,h1⟩ hk hK hA;exact⟨_,_,Z,h0.go hk hK hA,h1.go hk hK hA⟩
theorem P5{w:aq}{A:BS}{cs:List al}{x:Rec}(h:Tw.rd w A cs x):∃a,∃b,cs=[.int .i64 x.kind,.int .i64 x.co,.int .i64 x.aJ,.int .i64 x.place,a,b]/\di dh w A a x.says/\di dh w A b x.image:=h
theorem eF.mapR{α:Type}{R R':lD α}{w:aq}{B A:BS}{v:al}{l:List α}(j:R.sz=R'.sz)(h:∀cs x,x∈l->R.rd w A cs x->R'.rd w A cs x)(q:eF R w B A v l):eF R' w B A v l:=by
 obtain⟨a,cap,rfl,k,n,r,g⟩:=q;refine⟨a,cap,Z,k,n,r,fun i c=>?_⟩;obtain⟨b,o,cells,E,e,f,p,m,d⟩:=g i c;refine⟨b,o,cells,E,e,f,p,m,?_⟩;rw[<-j];exact h _ _ (List.getElem_mem c) d
structure cZ where
 kind:Int
 n:Int
 e:List Tok
 f:List Tok
 a:List cZ
 b:List cZ
def wP:Nat->{R:lD cZ // R.sz=6}
 |0=>⟨{sz:=6,rd:=fun _ _ _ _=>False,len:=fun h=>h.elim,one:=fun h=>h.elim,pos:=by decide,go:=fun h=>h.elim},rfl⟩
 |d+1=>⟨{
  sz:=6
  rd:=fun w A cs x=>∃c j i g,cs=[.int .i64 x.kind,.int .i64 x.n,c,j,i,g]/\di rH w A c x.e/\di rH w A j x.f/\di (wP d).1 w A i x.a/\di (wP d).1 w A g x.b
  len:=by rintro w A cs x ⟨c,j,i,g,rfl,_⟩;rfl
  one:=by rintro w A cs x ⟨c,j,i,g,rfl,p,q,r,o⟩ u s;simp only[bn,de,or_false]at s;rcases s with rfl|rfl|rfl|rfl|rfl|rfl<;>first|rfl|exact p.one|exact q.one|exact r.one|exact o.one
  pos:=by decide
  go:=by rintro w A cs x v t K ⟨c,j,i,g,rfl,p,q,r,o⟩ l m k;exact⟨_,_,_,_,Z,p.go l m k,q.go l m k,r.go l m k,o.go l m k⟩},Z⟩
theorem Oo:∀(d:Nat) {w:aq} {A:BS} {cs:List al} {x:cZ},(wP d).1.rd w A cs x->(wP (d+1)).1.rd w A cs x
 |0,_,_,_,_,h=>h.elim
 |d+1,_,_,_,_,h=>by
  obtain⟨f,b,a,g,rfl,c,e,j,i⟩:=h;exact⟨f,b,a,g,Z,c,e,j.mapR ((wP d).2.trans (wP<|d+1).2.symm) fun _ _ _ h=>Oo d h,i.mapR ((wP d).2.trans (wP<|d+1).2.symm) fun _ _ _ h=>Oo d h⟩
theorem rStmtN_le{d a:Nat}(b:d<=a){w:aq}{A:BS}{cs:List al}{x:cZ}(h:(wP d).1.rd w A cs x):(wP a).1.rd w A cs x:=by
 induction b with
 |refl=>exact h
 |step _ ih=>exact Oo _ ih
def iZ:lD cZ where
 sz:=6
 rd w A cs x:=∃d,(wP d).1.rd w A cs x
 len:=by rintro w A cs x ⟨d,h⟩;exact((wP d).1.len h).trans (wP d).2
 one:=by rintro w A cs x ⟨d,h⟩;exact(wP d).1.one h
 pos:=by decide
 go:=by rintro w A cs x w2 A2 K ⟨d,h⟩ hk hK hA;exact⟨d,(wP d).1.go h hk hK hA⟩
theorem max_of{P:Nat->Nat->Prop}(f:∀d a i,d<=a->P d i->P a i):∀n,(∀i,i<n->∃d,P d i)->∃d,∀i,i<n->P d i
  |0,_=>⟨0,fun i c=>absurd c (eK _)⟩
  |n+1,h=>by
    obtain⟨d,g⟩:=max_of f n fun i c=>h i V;obtain⟨a,b⟩:=h n V;refine⟨max d a,fun i c=>?_⟩;by_cases e:i=n
    · subst e;exact f _ _ _ (sk _ _) b
    · exact f _ _ _ (sT _ _)<|g i V
theorem Yz{w:aq}{A:BS}{v:al}{l:List cZ}(h:di iZ w A v l):∃d,∀g,d<=g->di (wP g).1 w A v l:=by
 obtain⟨a,cap,rfl,q,r,u,s⟩:=h;have t:=max_of (P:=fun d i=>∀h:i<l.length,∃b o cells E c,a=aj ⟨b,o,aw⟩/\¬A b/\w.heap[b]? =aj (.cells cells E c)/\(wP d).1.rd w A ((cells.toList.drop<|o+i*6).take 6) l[i])
  (fun d g i p hp h=>let ⟨b,o,cells,E,c,j,k,e,f⟩:=hp h;⟨b,o,cells,E,c,j,k,e,rStmtN_le p f⟩) l.length
  (fun i m=>by obtain⟨b,o,cells,E,c,j,k,e,d,f⟩:=s i m;exact⟨d,fun _=>⟨b,o,cells,E,c,j,k,e,f⟩⟩)
 obtain⟨d,p⟩:=t;refine⟨d,fun g n=>⟨a,cap,Z,q,r,u,fun i m=>?_⟩⟩;obtain⟨b,o,cells,E,c,j,k,e,f⟩:=p i m m;exact⟨b,o,cells,E,c,j,k,e,by rw[(wP g).2];exact rStmtN_le n f⟩
theorem ML{w:aq}{A:BS}{cs:List al}{x:cZ}(h:iZ.rd w A cs x):∃i g c j,cs=[.int .i64 x.kind,.int .i64 x.n,i,g,c,j]/\di rH w A i x.e/\di rH w A g x.f/\di iZ w A c x.a/\di iZ w A j x.b:=by
 obtain⟨d,h⟩:=h;cases d with
 |zero=>exact h.elim
 |succ d=>
  obtain⟨i,g,c,j,rfl,k,l,o,m⟩:=h;exact⟨i,g,c,j,Z,k,l,o.mapR (wP d).2 fun _ _ _ h=>⟨d,h⟩,m.mapR (wP d).2 fun _ _ _ h=>⟨d,h⟩⟩
theorem rStmt_mk{w:aq}{A:BS}{cs:List al}{x:cZ}(h:∃i g c j,cs=[.int .i64 x.kind,.int .i64 x.n,i,g,c,j]/\di rH w A i x.e/\di rH w A g x.f/\di iZ w A c x.a/\di iZ w A j x.b):iZ.rd w A cs x:=by
 obtain⟨i,g,c,j,rfl,l,o,r,p⟩:=h;obtain⟨d,q⟩:=Yz r;obtain⟨m,k⟩:=Yz p;exact⟨max d m+1,i,g,c,j,Z,l,o,q _<|sT _ _,k _<|sk _ _⟩
structure jf where
 params:Int
 locals:Int
 body:List cZ
def mM:lD jf where
 sz:=3
 rd w A cs x:=∃XA,cs=[.int .i64 x.params,.int .i64 x.locals,XA]/\di iZ w A XA x.body
 len:=by rintro w A cs x ⟨XA,rfl,h0⟩;rfl
 one:=by rintro w A cs x ⟨XA,rfl,h0⟩ u hu;simp only[bn,de,or_false]at hu;rcases hu with rfl|rfl|rfl<;>first|rfl|exact h0.one
 pos:=by decide
 go:=by rintro w A cs x w2 A2 K ⟨XA,rfl,h0⟩ hk hK hA;exact⟨_,Z,h0.go hk hK hA⟩
theorem Cr{w:aq}{A:BS}{cs:List al}{x:jf}(h:mM.rd w A cs x):∃a,cs=[.int .i64 x.params,.int .i64 x.locals,a]/\di iZ w A a x.body:=h
section
variable{α β σ ρ:Type}
theorem jP{l:List α}{i:Nat}:idx l (i:Int)=l[i]? :=by simp[idx]
theorem xM{l:List α}{i:Nat}(h:i<l.length):idx l (i:Int)=aj l[i]:=by rw[jP,bc h]
theorem ky{p:Prop} [Decidable p]{x:Option β}(h:p):iF p x=x:=if_pos h
theorem rJ{b:Nat}{a:List α}(h:a.length*b<=140737488355328)(c:a.length<=9223372036854775807):clone b a=aj a:=by
 unfold clone;exact ky<|Room.mk (by simpa using h) (by simpa using c)
theorem Tx{l:List α}{a b:Nat}(h:a<=b)(c:b<=l.length):sub? l (a:Int) (b:Int)=aj ((l.take b).drop a):=by
 unfold sub? cut;rw[if_pos ⟨by omega,by omega,by omega⟩];simp
theorem del_s{l:List α}{a b:Nat}(h:a<b)(c:b<=l.length):del1 l (a:Int) (b:Int)=aj (l.take a++l.drop b):=by
 unfold del1;rw[if_pos ⟨by omega,by omega,by omega⟩];simp
theorem one_at{l:List α}{n:Nat}(h:n<l.length):(l.take (n+1)).drop n=[l[n]]:=by
 rw[eh,cP h,show n+1-n=1 by omega];rfl
def all2(p:α->β->Bool):List α->List β->Bool
 |[],[]=>ba
 |x::xs,y::ys=>p x y&&all2 p xs ys
 |_,_=>ao
theorem P6 [DecidableEq α]{p:α->α->Bool}(hp:∀x y,p x y=ab (x=y)):∀(a b:List α),all2 p a b=ab (a=b)
 |[],[]=>by simp[all2]
 |[],_::_=>by simp[all2]
 |_::_,[]=>by simp[all2]
 |x::xs,y::ys=>by simp[all2,hp,P6 hp xs ys]
theorem upto_all2{body:Int->Unit->(Unit->Option Bool)->Option Bool}{kk:Unit->Option Bool}(p:α->β->Bool)(a:List α)(b:List β)(j:a.length=b.length)(g:kk ()=aj ba)
  (f:∀(i:Nat) x y nx,a[i]? =aj x->b[i]? =aj y->body (i:Int) () nx=bif p x y then nx ()else aj ao):upto body kk 0 a.length ()=aj (all2 p a b):=by
 have c:∀(m i:Nat),i+m=a.length->upto body kk (i:Int) m ()=aj (all2 p (a.drop i)<|b.drop i):=by
  intro m;induction m with
  |zero=>
   intro i h;rw[cC V,cC V];exact g
  |succ m ih=>
   intro i h;have d:i<a.length:=by omega
   have e:i<b.length:=by omega
   rw[cP d,cP e];show body (i:Int) () (upto body kk ((i:Int)+1) m)=_;rw[f i a[i] b[i] _ (bc d) (bc e)];cases hp:p a[i] b[i]with
   |true=>simp only[cond_true,all2,hp,mT];exact ih (i+1) V
   |false=>simp[all2,hp]
 simpa using c a.length 0 V
theorem Rj{body:Int->α->Unit->(Unit->Option Bool)->Option Bool}{kk:Unit->Option Bool}(p:α->β->Bool)(a:List α)(b:List β)(g:a.length=b.length)(f:kk ()=aj ba)
  (e:∀(i:Nat) x y nx,b[i]? =aj y->body (i:Int) x () nx=bif p x y then nx ()else aj ao):gU body kk 0 a ()=aj (all2 p a b):=by
 have c:∀(l:List α) (i:Nat),i+l.length=b.length->gU body kk (i:Int) l ()=aj (all2 p l<|b.drop i):=by
  intro l;induction l with
  |nil=>
   intro i h;rw[cC (by simp at h;omega)];exact f
  |cons x l ih=>
   intro i h;simp only[bw]at h;have d:i<b.length:=by omega
   rw[cP d];show body (i:Int) x () (gU body kk ((i:Int)+1) l)=_;rw[e i x b[i] _ (bc d)];cases hp:p x b[i]with
   |true=>simp only[cond_true,all2,hp,mT];exact ih (i+1) V
   |false=>simp[all2,hp]
 simpa using c a 0 V
theorem YA{body:Int->σ->(σ->ρ)->ρ}{g:Int->α->σ->(σ->ρ)->ρ}{k:σ->ρ}(l:List α)(c:∀(i:Nat) x s nx,l[i]? =aj x->body (i:Int) s nx=g (i:Int) x s nx)(s:σ):upto body k 0 l.length s=gU g k 0 l s:=by
 have a:∀(m i:Nat),i+m=l.length->∀s,upto body k (i:Int) m s=gU g k (i:Int) (l.drop i) s:=by
  intro m;induction m with
  |zero=>intro i h s;rw[cC V];rfl
  |succ m ih=>
   intro i h s;have b:i<l.length:=by omega
   rw[cP b];show body (i:Int) s (upto body k ((i:Int)+1) m)=g (i:Int) l[i] s (gU g k ((i:Int)+1)<|l.drop<|i+1);rw[c i l[i] s _ (bc b)];congr 1;funext s';exact ih (i+1) V s'
 simpa using a l.length 0 V s
theorem P7{body:Int->Unit->(Unit->ρ)->ρ}{kk:Unit->ρ}(p:α->Bool)(F:Int->ρ)(l:List α)(c:∀(i:Nat) x nx,l[i]? =aj x->body (i:Int) () nx=bif p x then F i else nx ()):
  upto body kk 0 l.length ()=match l.findIdx? p with|some n=>F (n:Int)|none=>kk ():=by
 have a:∀(m i:Nat),i+m=l.length->upto body kk (i:Int) m ()=match (l.drop i).findIdx? p with|some n=>F ((i+n:Nat):Int)|none=>kk ():=by
  intro m;induction m with
  |zero=>intro i h;rw[cC V];rfl
  |succ m ih=>
   intro i h;have b:i<l.length:=by omega
   rw[cP b,List.findIdx?_cons];show body (i:Int) () (upto body kk ((i:Int)+1) m)=_;rw[c i l[i] _ (bc b)];cases hp:p l[i]with
   |true=>rfl
   |false=>
    simp only[cond_false,cM,if_false];have:=ih (i+1) V;rw[show((i+1:Nat):Int)=(i:Int)+1 from rfl]at this;rw[this];cases (l.drop (i+1)).findIdx? p with
    |none=>rfl
    |some n=>simp only[da];congr 1;omega
 have:=a l.length 0 V;simp only[ke,fT]at this;exact this
theorem del_s1{l:List α}{a:Nat}(h:a<l.length):del1 l (a:Int) ((a:Int)+1)=aj (l.take a++l.drop (a+1)):=by
 have:=del_s (l:=l) (a:=a) (b:=a+1) V V;exact this
theorem dT{p:Prop} [Decidable p](h:p):decide p=true:=decide_eq_true h
theorem dF{p:Prop} [Decidable p](h:¬p):decide p=false:=decide_eq_false h
theorem gI{x:Int}{y:Option β}(b: -9223372036854775808<=x:=by omega)(a:x<=9223372036854775807:=by omega):iF (kv x) y=y:=ky (kv.mk b a)
end
open Go.RowKit
def iO:lD UInt8 where
 sz:=1
 rd _ _ cs x:=cs=[.int .u8 (x.toNat:Int)]
 len:=by rintro w A cs x rfl;rfl
 one:=by rintro w A cs x rfl u hu;simp at hu;subst hu;rfl
 pos:=by decide
 go:=fun h _ _ _=>h
def IsErr(v:al)(b:Bool):Prop:=(b=ao/\v=.nilIface)\/(b=ba/\∃t p,v=.iface t p)
structure IfaceT(P:cc)(T:aT):Prop where
 desc:P.underlying T=aj (.interface (P.methodsAt T))
def QY{α:Type}(a:Nat)(k:Int):Option (List α):=iF (0<=k/\k*a<=140737488355328) (aj [])
section
variable{P:cc}{ops:Array ee}{Q:fg->Act->aq->Prop}{n:Nat}{env:Nat->al}{w w' w0:aq}{M K:BS}{hp:Nat->Chunk}{rest:List ee}
 {d:Option Nat} {op:Op} {ty:aT} {pos:String} {af:Array hO} {v:al} {g:Option (Nat×Bool)} {T:aT} {ρ:bo->al} {x y:bo}
theorem Ve{a b:Str}{T2:aT}(c:ρ x=bH a)(e:ρ y=bH b):(bl ρ ⟨d,.binOp .eql T x y T2,ty,pos,af,g⟩).run P w=.ok (.value (.bool (ab (a=b)))) w:=by
 simp[bl,kx,c,e,bH,Op.stringOp,gi];rw[et];simp
theorem Rk{a b:Str}{T2:aT}(c:ρ x=bH a)(e:ρ y=bH b):(bl ρ ⟨d,.binOp .neq T x y T2,ty,pos,af,g⟩).run P w=.ok (.value (.bool (ab (a≠b)))) w:=by
 simp[bl,kx,c,e,bH,Op.stringOp,gi];rw[et];simp
theorem uR{a b:Str}{T2:aT}(e:ρ x=bH a)(f:ρ y=bH b)(h:a.length+b.length<=9223372036854775807):(bl ρ ⟨d,.binOp .add T x y T2,ty,pos,af,g⟩).run P w=.ok (.value (bH (a++b))) w:=by
 have c:=run_string_add_sum (P:=P) (w:=w) ⟨a.toArray⟩ ⟨b.toArray⟩ (by simpa[lj]using h);have i:(⟨a.toArray⟩++⟨b.toArray⟩:ByteArray)=⟨(a++b).toArray⟩:=by
  apply qs;simp
 rw[i]at c;simp[bl,kx,e,f,bH,gi,c]
theorem r_neqnilI{b:Bool}{T2:aT}(e:IfaceT P T)(a:ρ x=v)(f:IsErr v b)(c:ρ (.const .nilIface)=.nilIface):(bl ρ ⟨d,.binOp .neq T x (.const .nilIface) T2,ty,pos,af,g⟩).run P w=.ok (.value (.bool b)) w:=by
  rcases f with⟨rfl,rfl⟩|⟨rfl,t,p,rfl⟩
  · simp[bl,kx,a,c,gi,run_equal_nil_nil w T e.desc]
  · simp[bl,kx,a,c,gi,tf w T t p e.desc]
theorem r_eqlnilI{b:Bool}{T2:aT}(e:IfaceT P T)(a:ρ x=v)(f:IsErr v b)(c:ρ (.const .nilIface)=.nilIface):(bl ρ ⟨d,.binOp .eql T x (.const .nilIface) T2,ty,pos,af,g⟩).run P w=.ok (.value (.bool !b)) w:=by
  rcases f with⟨rfl,rfl⟩|⟨rfl,t,p,rfl⟩
  · simp[bl,kx,a,c,gi,run_equal_nil_nil w T e.desc]
  · simp[bl,kx,a,c,gi,tf w T t p e.desc]
theorem w_makeSl{α:Type}{R:lD α}{E:aT}{c:Nat}{k:Int}{z:al}{a:α}(h:SH w0 M K w hp)(i:Nat)(s:kD P T E 1 c)(hz:One P E z)(t:R.sz=1)(o:0<c)(X:ev n env x=.int .i64 k)(I:ev n env y=.int .i64 k)
    (hk:0<=k/\k*c<=140737488355328) (C:∀w A,R.rd w A [z] a)
    (kk:∀w' u,SH w0 M K w' (bV hp i (.own R E u (cd k.toNat a)))->WL P ops Q rest n (gD env d u) w'):
    WL P ops Q (⟨d,.makeSlice T x y,ty,pos,af,aw⟩::rest) n env w:=by
  obtain⟨F,h1⟩:=hk;obtain⟨m,rfl⟩:=bs F;obtain⟨j,z',r,a0,g,l,L⟩:=s.info;have e:=hz.info;rw[r]at e;simp only[da,eA,iu]at e;have O:m<=m*c:=lp _ o;have S:m*c<=140737488355328:=by
    have:((m*c:Nat):Int)<=140737488355328:=by rw[sR];exact h1
    omega
  obtain⟨w',G,ho,N⟩:=run_make_full (P:=P) w 0 T E j z 1 s.desc r e.1 g .i64 .i64 m (by rw[l,nd];omega) (by unfold kO;omega) (fv _);have p:Grow w w':=(BG (v:=.slice aw 0 0) N).weaken fun _ h _=>h.elim;have f:(bl (ev n env) ⟨d,.makeSlice T x y,ty,pos,af,aw⟩).run P w=.ok (.value<|.slice (aj ⟨w.heap.size,0,aw⟩) m m) w':=by
    simp only[bl,ct,cY,bp,X,I,G]
  refine J f<|kk w' _<|h.wJ i p ⟨(madeCells z.cells<|m*1).toList,?_,?_⟩ ?_
  · rw[t,js];exact ho
  · intro q B;simp only[js]at B;have a1:q<m:=B;rw[t,hz.cell,toList_madeCells_one];have:(mv (q*1)<|cd (m*1) z).take 1=[z]:=by
      rw[List.drop_replicate,List.take_replicate,show min 1 (m*1-q*1)=1 by omega];rfl
    rw[this];simp only[List.getElem_replicate];exact C _ _
  · intro b o;have:b=w.heap.size:=o;omega
theorem run_appS{E u:aT}{A:BS}{l s:Str}(r:kD P T E 1 1)(hz:One P E (.int .u8 0))(B:P.underlying u=aj .string)(R:ρ x=v)(hv:cu iO E w A v l)(N:ρ y=bH s)
    (t:(l.length+s.length)*1<=140737488355328) (hm:l.length+s.length<=9223372036854775807):
    ∃k w',(bl ρ ⟨d,.call {callee:=.builtin .append,args:= #[x,y],argTypes:= #[T,u]},ty,pos,af,g⟩).run P w=.ok (.value k) w'/\cu iO E w' A k (l++s)/\bL (ob v) w w'/\(∀b,ob k b->b<w.heap.size->ob v b):=by
  obtain⟨xs,ho,M⟩:=hv;obtain⟨i,z',n,S,f,h,O⟩:=r.info;have a:=hz.info;rw[n]at a;simp only[da,eA,iu]at a;have e:(oc s.toArray).size=s.length:=by simp[lj]
  obtain⟨k,w',m,h2,h3,Q⟩:=Lib.run_append_own_string (P:=P) w 0 T u ty E i r.desc B n a.1 f h v l.length xs ho ⟨s.toArray⟩ (by rw[e];unfold kO;omega) (by rw[e];omega) (fv _);have X:=BG h3;have o:xs.length=l.length:=by simpa[iO]using ho.1
  have p:(bl ρ ⟨d,.call {callee:=.builtin .append,args:= #[x,y],argTypes:= #[T,u]},ty,pos,af,g⟩).run P w=.ok (.value k) w':=by
    simp only[bl,hH,ju,iQ,ct,cY,bp,fC,cj,en,R,N];rw[show(gA #[T,u] ty #[v,bH s]).run P w=_ from m];rfl
  have I:pk ⟨s.toArray⟩=s.map fun b=>dk .u8 (b.toNat:Int):=by simp[pk]
  refine⟨k,w',p,⟨xs++pk ⟨s.toArray⟩,?_,?_⟩,X,?_⟩
  · rw[bk,<-e];exact h2
  · intro q hq;show ia 1 (mv (q*1) _)=_;rw[mw,I];by_cases z:q<l.length
    · have:=M q z;have K:ia 1 (mv (q*1) xs)=[.int .u8 (l[q].toNat:Int)]:=this;rw[mw]at K;rw[fN V,cV (by rw[cL];omega),K,eL z]
    · rw[bk]at hq;rw[fh V,iz,cC V,cD,o,cP (by simp;omega)];simp
  · intro b t hl;rcases ho.2 with⟨rfl,hn⟩|⟨gg,cap,cur,rfl,_,hgg,hc,hcm,hcs',htake⟩
    · by_cases G:s.length=0
      · have C:s=[]:=cl G;subst C;have:k=.slice aw 0 0:=Q.2 ⟨Z,e⟩;subst this;exact t
      · have c:=run_append_nil_string (P:=P) w T u ty E i (.int .u8 0) r.desc B n a.1 ⟨s.toArray⟩ V V (by rw[h];omega);rw[c]at m;cases m;simp[ob]at t;omega
    · by_cases F:l.length+s.length<=cap
      · have L:cur.size=cap:=by simpa[iO]using hcs'
        have c:=Lib.run_append_room_string (P:=P) w T u ty E i r.desc B n f gg l.length cap cur hgg ⟨s.toArray⟩ V V;rw[c]at m;cases m;exact t
      · have holds:∀j u,xs[j]? =aj u->w.cell? ((⟨gg,0,aw⟩:kA).add j)=aj u:=ho.cells (g:=gg) Z;have c:=Lib.run_append_grow_string (P:=P) w T u ty E i (.int .u8 0) r.desc B n a.1 ⟨gg,0,aw⟩ l.length cap xs (by rw[f];simpa using o) holds ⟨s.toArray⟩ V V (by rw[h];exact growslice_fits V V);rw[c]at m;cases m;simp[ob]at t;omega
theorem r_b2s{E e:aT}{B A:BS}{l:Str}(k:P.underlying T=aj (.slice E))(n:P.underlying E=aj (.int .u8))(i:P.underlying e=aj .string)(t:ρ x=v)(F:eF iO w B A v l):
    (bl ρ ⟨d,.convert T e x,ty,pos,af,g⟩).run P w=.ok (.value (bH l)) w:=by
  obtain⟨a,cap,rfl,L,M,O,q⟩:=F;have m:(convert T e<|.slice a l.length cap).run P w=.ok (bH l) w:=by
    cases l with
    |nil=>
      cases a with
      |none=>
        rw[run_convert_bytes_string w T e E aw _ _ k n i];simp[Conv.bytesToString,bH];rfl
      |some a=>
        exact qT w T e E a cap [] k n i fun j h=>absurd h<|eK _
    |cons c r=>
      obtain⟨b,o,cells,N,I,rfl,_,_,_⟩:=q 0 zq3;refine qT w T e E ⟨b,o,aw⟩ cap (c::r) k n i fun j h=>?_;obtain⟨b',K,f,G,u,s,_,z,y⟩:=q j h;cases s;have p:ia 1 (mv (o+j*1) f.toList)=[.int .u8 ((c::r)[j].toNat:Int)]:=y;rw[mw]at p;have C:f.toList[o+j]? =aj (.int .u8 ((c::r)[j].toNat:Int)):=by
        have:=congrArg (·[0]?) p;simpa[cf,cw]using this
      rw[addr_add];simpa[eM,z]using C
  simp only[bl,ct,cY,t,m,bp]
theorem str_ex(s:Str)(a b:Nat):(oc s.toArray).extract a b=⟨((s.take b).drop a).toArray⟩:=by
 apply qs;simp[ByteArray.data_extract,eh]
theorem wQ(s:Str):(oc s.toArray).size=s.length:=by simp[lj]
def subs?(s:Str)(a b:Int):Option Str:=iF (0<=a/\a<=b/\b<=s.length) (aj (cut s a b))
theorem r_sls{s:Str}{m k:Option bo}{a b:Int}(f:P.underlying T=aj .string)(q:ρ x=bH s)(j:QU (m.map ρ) a 0)(l:QU (k.map ρ) b s.length)(o:0<=a)(h:a<=b)(t:b<=s.length):
    (bl ρ ⟨d,.slice T x m k aw,ty,pos,af,g⟩).run P w=.ok (.value (bH (cut s a b))) w:=by
  obtain⟨a,rfl⟩:=bs o;obtain⟨b,rfl⟩:=bs<|Int.le_trans o h;have n:a<=b:=by omega
  have r:b<=s.length:=by omega
  have p:cut s (a:Int) (b:Int)=(s.take b).drop a:=by simp[cut]
  have i:(iS T (bH s) (m.map ρ) (k.map ρ) aw).run P w=.ok (bH ((s.take b).drop a)) w:=by
    unfold bH;rcases j with⟨e1,e2⟩|e1<;>rcases l with⟨e3,e4⟩|e3
    · have c:a=0:=by omega
      have e:b=s.length:=by omega
      subst c e;rw[e1,e3,run_slice_string_all w T _ f,str_ex,wQ]
    · have c:a=0:=by omega
      subst c;rw[e1,e3,run_slice_string_to_if w T _ _ _ f,if_pos ⟨by omega,by rw[wQ];omega⟩,str_ex];simp
    · have e:b=s.length:=by omega
      subst e;rw[e1,e3,run_slice_string_from_if w T _ _ _ f,if_pos ⟨by omega,by rw[wQ];omega⟩,str_ex,wQ];simp
    · rw[e1,e3,run_slice_string w T _ _ _ _ _ f V V (by rw[wQ];omega),str_ex];simp
  rw[p];simp only[bl,ct,cY,q,Option.map_none,run_sliceAt_string w T _ _ _ _ f,i,bp]
theorem r_slsE{s r:Str}{i h:Option bo}{a b:Int}(j:r=cut s a b)(m:P.underlying T=aj .string)(k:ρ x=bH s)(e:QU (i.map ρ) a 0)(f:QU (h.map ρ) b s.length)(n:0<=a)(c:a<=b)(l:b<=s.length):
  (bl ρ ⟨d,.slice T x i h aw,ty,pos,af,g⟩).run P w=.ok (.value (bH r)) w:=by
 subst j;exact r_sls m k e f n c l
theorem o_subs{s r:Str}{a b:Int}(h:subs? s a b=aj r):0<=a/\a<=b/\b<=s.length/\r=cut s a b:=by
 obtain⟨c,d⟩:=bF h;exact⟨c.1,c.2.1,c.2.2,(cN d).symm⟩
theorem YB{α:Type}{R:lD α}{E c:aT}{l a:Nat}{A:BS}{k:Nat}(m:kD P T E l a)(u:R.sz=l)(C:P.underlying c=aj (.int .i64))(v:ev n env x=.slice aw 0 0)(s:ev n env y=.int .i64 (k:Nat))(F:0<k)(B:0<a)
    (o:k*a<=140737488355328)
    (h:∀w' gg cap,Grow w w'->w.heap.size<=gg->gg<w'.heap.size->k<=cap->cu R E w' A (.slice (aj ⟨gg,0,aw⟩) 0 cap) ([]:List α)->WL P ops Q rest n (gD env d (.slice (aj ⟨gg,0,aw⟩) k cap)) w'):
    WL P ops Q (⟨d,.call {callee:=.builtin .append,args:= #[x,y],argTypes:= #[T,c]},ty,pos,af,aw⟩::rest) n env w:=by
  obtain⟨i,z,q,hz,p,f,g⟩:=m.info;have j:=R.pos;have t:k<=k*a:=lp _ B;have r:=Lib.run_append_nil_zeros (P:=P) w T c ty E i z .i64 .i64 m.desc C q hz k F V V (by rw[f];omega);have b:(bl (ev n env) ⟨d,.call {callee:=.builtin .append,args:= #[x,y],argTypes:= #[T,c]},ty,pos,af,aw⟩).run P w=.ok (.value<|.slice (aj ⟨w.heap.size,0,aw⟩) k<|gS w k 0 E) (w.drew.alloc<|.cells (cy z.cells k++cy z.cells (gS w k 0 E-k)) E):=by
    simp only[bl,hH,ju,iQ,ct,cY,bp,fC,cj,en,v,s,r]
  have hge:=grownCap_ge w k 0 E;have e:gS w k 0 E<=maxLen:=td w k 0 E (by unfold kO;omega);refine J b<|h _ _ _ ((Grow.drew w).trans<|Grow.alloc _ _) (bq _) ?_ hge ⟨[],⟨by simp,.inr ⟨w.heap.size,_,_,Z,fv _,heap_alloc_new w.drew _,fv _,e,?_,by simp⟩⟩,fun i h=>absurd h<|eK _⟩
  · show w.heap.size<(w.drew.alloc _).heap.size;rw[alloc_size];exact sf _
  · rw[Array.size_append,la,la,g,u,<-cg];congr 1;omega
end
open Go.RowKit
structure qV(P:cc)(g:Nat)(w:aq):Prop where
 pow:oi P w "internal/strconv.uint64pow10" .u64 Lib.pow10Tab
 syn:∃t p,w.var? P "strconv.ErrSyntax" =aj #[.iface t p]
 ran:∃t p,w.var? P "strconv.ErrRange" =aj #[.iface t p]
 max:∃m,w.cell? ⟨g,0,aw⟩=aj (.int .i64 m)
 many:P.globals.size<=w.heap.size
 gmax:g<P.globals.size
 asc:∀q,P.globalNamed "strings.asciiSpace" =aj q->oi P w "strings.asciiSpace" .u8 Lib.asciiSpaceTab
theorem YC{P:cc}{s:String}{i:Nat}(h:P.globalNamed s=aj i):i<P.globals.size:=by
  unfold Program.globalNamed at h;split at h
  · rename_i g a;cases h;have:i∈(List.range P.globals.size).filter fun g=>(P.globals[g]?).any (·.name==s):=by rw[a];simp
    exact List.mem_range.1 (List.mem_filter.1 this).1
  · cases h
theorem bL.var{P:cc}{K:BS}{w w':aq}{s:String}{cs:Array al}(a:bL K w w')(c:∀b,K b->P.globals.size<=b)(h:w.var? P s=aj cs):w'.var? P s=aj cs:=by
 unfold World.var? at h⊢;cases hg:P.globalNamed s with
 |none=>simp[hg]at h
 |some g=>
  have e:=YC hg;simp only[hg,cJ]at h⊢;cases hb:w.heap[g]? with
  |none=>simp[hb]at h
  |some o=>rw[a.blk hb (fun d=>absurd (c _ d) V)];rw[hb]at h;exact h
theorem qV.Ty{P:cc}{g:Nat}{K:BS}{w w':aq}(h:qV P g w)(a:bL K w w')(c:∀b,K b->P.globals.size<=b):qV P g w':=by
 obtain⟨j,⟨f,s,l⟩,⟨k,p,t⟩,⟨m,d⟩,i,r,n⟩:=h;refine⟨a.var c j,⟨f,s,a.var c l⟩,⟨k,p,a.var c t⟩,⟨m,?_⟩,dw i a.size,r,fun q e=>a.var c<|n q e⟩;unfold eM at d⊢;cases hb:w.heap[g]? with
 |none=>simp[hb]at d
 |some o=>rw[a.blk hb (fun e=>absurd (c _ e) V)];rw[hb]at d;exact d
theorem qV.go{P:cc}{g:Nat}{w w':aq}(h:qV P g w)(a:Grow w w'):qV P g w':=h.Ty a (fun _ h=>h.elim)
theorem SH.Bd{P:cc}{g:Nat}{w0 w:aq}{M K:BS}{hp:Nat->Chunk}{C:Chunk}(h:SH w0 M K w hp)(e:qV P g w0)(a:∀b,K b->P.globals.size<=b)(i:Nat)(d:hp i=C):∀b,C.own' b->P.globals.size<=b:=by
  subst d;intro b c;rcases cF b w0.heap.size with hl|hl
  · exact a b<|h.old i b c hl
  · exact dw e.many hl
theorem Grow.drewN(w:aq)(k:Nat):Grow w (w.drewN k):=⟨rfl,rfl,rfl,bq _,fun _ _ _=>rfl⟩
theorem Grow.QY{w:aq}{os:Array Obj}:Grow w (Sort.grow w os):=⟨rfl,rfl,rfl,by simp[Sort.grow],fun b _ a=>by simp[Sort.grow,Array.getElem?_append_left a]⟩
def Oq(n:Int):Option Str:=iF (kv n) (aj (dq n))
def J4(s:Str):Option (Int×Bool):=iF (s.length<=281474976710656) (aj (match ep s with| .ok v=>(v,ao)| .range=>(pR s,ba)|_=>(0,ba)))
def parseS(s:Str):Option (Int×Bool):=iF (s.length<=281474976710656) (aj (match Lib.parseIntB 64 s with| .ok v=>(v,ao)| .range=>(Lib.intSat 64 s,ba)|_=>(0,ba)))
def YD(l:List Str)(a:Str):Option Str:=iF (l.length<=140737488355328/\(ov l a).length<=140737488355328) (aj (ov l a))
def Rl(s a:Str):Option (List Str):=iF (s.length<4294967281/\1<=a.length) (aj (sl s a))
def cutS(s a:Str):Option (Str×Str×Bool):=iF (s.length<4294967281) (aj (mW s a))
section
variable{P:cc}{g:Nat}{w0:aq}{f:fR}{M:BS}
theorem itoa_w(c:∀n,-9223372036854775808<=n->n<=9223372036854775807->∀w,oi P w "internal/strconv.uint64pow10" .u64 Lib.pow10Tab->bE P f #[.int .i64 n] w fun e w'=>e=.returned (.string ⟨(dq n).toArray⟩)/\∃k os,w'=Sort.grow (w.drewN k) os)
  (d:qV P g w0) {a:Int} {r:Str} (b:Oq a=aj r):bE P f #[.int .i64 a] w0 (fun e w'=>Grow w0 w'/\e=.returned (bH r)):=by
 obtain⟨h,b⟩:=bF b;cases b;refine(c a h.1 h.2 w0 d.pow).mono ?_;rintro e w'⟨rfl,k,os,rfl⟩;exact⟨(Grow.drewN w0 k).trans Grow.QY,Z⟩
theorem bw_grow(w:aq)(t:aT)(s:ByteArray):Grow w (tg w t s):=⟨rfl,rfl,rfl,by rw[Lib.bytesWorld_size];omega,fun b _ a=>Lib.bytesWorld_at_old w t _ b a⟩
theorem atoi_w{n a c:aT}{nm:ByteArray}(m:∀s:ByteArray,s.size<=9223372036854775806->∀v,ep s.data.toList=.ok v->∀w,bE P f #[.string s] w fun e w'=>e=.returned (.tuple #[.int .i64 v,.nilIface])/\(w'=w\/∃t,w'=tg w n t))
    (o:∀s:ByteArray,s.size<=281474976710656->∀e,ep s.data.toList=e->(∀v,e≠ .ok v)->e≠ .range->∀d p w,w.var? P "strconv.ErrSyntax" =aj #[.iface d p]->bE P f #[.string s] w fun e w'=>∃N,e=.returned (.tuple #[.int .i64 0,.iface a (.pointer (aj ⟨N,0,aw⟩))])/\w.heap.size<=N/\w'.heap[N]? =aj (.cells #[.string nm,.string s,.iface d p] c (0,0))/\Below w.heap.size w w')
    (x:∀s:ByteArray,s.size<=281474976710656->ep s.data.toList=.range->∀d p w,w.var? P "strconv.ErrRange" =aj #[.iface d p]->bE P f #[.string s] w fun e w'=>∃N,e=.returned (.tuple #[.int .i64 (pR s.data.toList),.iface a (.pointer (aj ⟨N,0,aw⟩))])/\w.heap.size<=N/\w'.heap[N]? =aj (.cells #[.string nm,.string s,.iface d p] c (0,0))/\Below w.heap.size w w')
    (k:qV P g w0) {s:Str} {r:Int×Bool} (b:J4 s=aj r):bE P f #[bH s] w0 (fun e w'=>Grow w0 w'/\∃u,e=.returned (.tuple #[.int .i64 r.1,u])/\IsErr u r.2):=by
  obtain⟨h,b⟩:=bF b;have l:=wQ s;cases hq:ep s with
  |ok v=>
    rw[hq]at b;cases b;refine(m ⟨s.toArray⟩ V v (by simpa using hq) w0).mono ?_;rintro e w'⟨rfl,q⟩;refine⟨?_,_,Z,.inl ⟨Z,Z⟩⟩;rcases q with rfl|⟨t,rfl⟩
    · exact bL.refl _ _
    · exact bw_grow _ _ _
  |range=>
    rw[hq]at b;cases b;obtain⟨t,p,j⟩:=k.ran;refine(x ⟨s.toArray⟩ V (by simpa using hq) t p w0 j).mono ?_;rintro e w'⟨N,rfl,_,_,i⟩;refine⟨Grow.of_below i,.iface a<|.pointer<|some ⟨N,0,aw⟩,by simp,.inr ⟨Z,_,_,Z⟩⟩
  |_=>
    rw[hq]at b;cases b;obtain⟨t,p,j⟩:=k.syn;refine(o ⟨s.toArray⟩ V _ (by simpa using hq) (fun v=>by simp) zq3 t p w0 j).mono ?_;rintro e w'⟨N,rfl,_,_,i⟩;exact⟨Grow.of_below i,_,Z,.inr ⟨Z,_,_,Z⟩⟩
theorem rdStr_at{A B:BS}{a:Option kA}{n c:Nat}{l:List Str}(t:eF vv w0 B A (.slice a n c) l)(v:0<l.length):∃h o,a=aj ⟨h,o,aw⟩/\h<w0.heap.size/\∀j x,l[j]? =aj x->w0.cell? ⟨h,o+j,aw⟩=aj (bH x):=by
  obtain⟨a',cap,g,y,z,G,k⟩:=t;cases g;obtain⟨b,o,cells,E,C,rfl,_,p,_⟩:=k 0 v;refine⟨b,o,Z,iT p,fun j x m=>?_⟩;obtain⟨e,f⟩:=List.getElem?_eq_some_iff.1 m;obtain⟨b',F,d,w,q,g,_,s,r⟩:=k j e;cases g;have i:ia 1 (mv (o+j*1) d.toList)=[bH l[j]]:=r;rw[mw]at i;have u:d.toList[o+j]? =aj (bH l[j]):=by
    have:=congrArg (·[0]?) i;simpa[cf,cw]using this
  rw[<-f];simpa[eM,s]using u
theorem join_w(u:∀(a:Option kA) (c:Nat) (b:ByteArray) (w:aq),bE P f #[.slice a 0 c,.string b] w fun e w'=>e=.returned (.string ⟨#[]⟩)/\w'=w)
    (t:∀(g o c:Nat) (xs:List ByteArray) (b:ByteArray) (w:aq),(∀(j:Nat) x,xs[j]? =aj x->w.cell? ⟨g,o+j,aw⟩=aj (.string x))->g<w.heap.size->xs.length<=140737488355328->xs.length<=c->(ov (xs.map (·.data.toList)) b.data.toList).length<=140737488355328->
      bE P f #[.slice (aj ⟨g,o,aw⟩) xs.length c,.string b] w fun e w'=>e=.returned (.string ⟨(ov (xs.map (·.data.toList)) b.data.toList).toArray⟩)/\Below w.heap.size w w')
    {v:al} {A B:BS} {l:List Str} {b r:Str} (n:eF vv w0 B A v l) (i:YD l b=aj r):bE P f #[v,bH b] w0 (fun e w'=>Grow w0 w'/\e=.returned (bH r)):=by
  obtain⟨h,i⟩:=bF i;cases i;have k:=n;obtain⟨a,cap,rfl,k1,k2,C,E⟩:=n;cases l with
  |nil=>
    refine(u a cap _ w0).mono ?_;rintro e w'⟨rfl,rfl⟩;exact⟨bL.refl _ _,Z⟩
  |cons x l=>
    obtain⟨g,o,rfl,q,p⟩:=rdStr_at k zq3;have m:((x::l).map fun s=>(⟨s.toArray⟩:ByteArray)).map (·.data.toList)=x::l:=by simp[Function.comp_def]
    have:=t g o cap ((x::l).map fun s=>⟨s.toArray⟩) ⟨b.toArray⟩ w0 (fun j y d=>by
      rw[ef]at d;cases hq:(x::l)[j]? with
      |none=>rw[hq]at d;cases d
      |some s=>rw[hq]at d;cases d;exact p j s hq) q (by simpa using h.1) (by simpa using k1) (by rw[m];simpa using h.2)
    rw[m,cH]at this;refine this.mono ?_;rintro e w'⟨rfl,z⟩;exact⟨Grow.of_below z,by simp[bH]⟩
theorem strs_rd{E:aT}{l:List ByteArray}{A:BS}{cells:Array al}{cap:Nat}(w:aq)(k:∀b,A b->b<w.heap.size)(d:l.length<=cap)(m:cap<=kO)(a:∀j (h:j<l.length),cells[j]? =aj (.string l[j])):di vv (w.alloc (.cells cells E)) A (.slice (aj ⟨w.heap.size,0,aw⟩) l.length cap) (l.map (·.data.toList)):=by
  refine⟨aj ⟨w.heap.size,0,aw⟩,cap,by simp,by simpa using d,m,(fun h=>by cases h),fun j g=>⟨w.heap.size,0,cells,E,(0,0),Z,?_,PX w _,?_⟩⟩
  · intro i;exact Nat.lt_irrefl _ (k _ i)
  · have f:j<l.length:=by simpa using g
    show ia 1 (mv (0+j*1) cells.toList)=_;have e:=a j f;have c:j<cells.toList.length:=by
      rw[cr];rcases cF j cells.size with q|q
      · exact q
      · rw[lh q]at e;cases e
    rw[fT,mw,cP c];have:cells.toList[j]=.string l[j]:=by
      have:=e;rw[<-iv,bc c]at this;exact cN this
    rw[this];simp[bH]
theorem split_w{E:aT}(q:∀(s a:ByteArray) (m:Int) (w:aq),s.size<4294967281->w.cell? ⟨g,0,aw⟩=aj (.int .i64 m)->1<=a.size->
  bE P f #[.string s,.string a] w fun e w'=>e=.returned (.slice (aj ⟨w.heap.size,0,aw⟩) (ga s a+1) (ga s a+1))/\w'=w.alloc (.cells ((ra a 0 (ga s a) s).map lx).toArray E))
  (n:∀b,M b->b<w0.heap.size) (p:qV P g w0) {s a:Str} {r:List Str} (c:Rl s a=aj r):bE P f #[bH s,bH a] w0 (fun e w'=>Grow w0 w'/\∃u,e=.returned u/\di vv w' M u r):=by
 obtain⟨h,c⟩:=bF c;cases c;obtain⟨m,k⟩:=p.max;refine(q ⟨s.toArray⟩ ⟨a.toArray⟩ m w0 (by rw[wQ];exact h.1) k (by rw[wQ];exact h.2)).mono ?_;rintro e w'⟨rfl,rfl⟩;refine⟨Grow.alloc _ _,_,Z,?_⟩;have d:=Lib.splitB_all ⟨a.toArray⟩ (by rw[wQ];exact h.2) 0 _ ⟨s.toArray⟩ Z;have t:=Lib.splitB_data ⟨a.toArray⟩ 0 (ga ⟨s.toArray⟩ ⟨a.toArray⟩) ⟨s.toArray⟩;have v:ga ⟨s.toArray⟩ ⟨a.toArray⟩=Lib.count s a:=by simp[ga]
 have o:=Lib.countB_le ⟨a.toArray⟩ (by rw[wQ];exact h.2) _ ⟨s.toArray⟩ (bq _);rw[wQ]at o;have:=strs_rd (E:=E) (l:=ra ⟨a.toArray⟩ 0 (ga ⟨s.toArray⟩ ⟨a.toArray⟩) ⟨s.toArray⟩) (cap:=ga ⟨s.toArray⟩ ⟨a.toArray⟩+1) (cells:=((ra ⟨a.toArray⟩ 0 (ga ⟨s.toArray⟩ ⟨a.toArray⟩) ⟨s.toArray⟩).map lx).toArray) w0 n (by rw[d];exact bq _) (by unfold kO;omega) (fun j i=>by simp[i]);rw[d,t]at this;simpa[sl,v]using this
theorem cut_w(c:∀(s a:ByteArray) (m:Int) (w:aq),s.size<4294967281->w.cell? ⟨g,0,aw⟩=aj (.int .i64 m)->bE P f #[.string s,.string a] w fun e w'=>e=.returned (.tuple #[.string ⟨(mW s.data.toList a.data.toList).1.toArray⟩,.string ⟨(mW s.data.toList a.data.toList).2.1.toArray⟩,.bool (mW s.data.toList a.data.toList).2.2])/\∃n,w'=w.drewN n)
  (i:qV P g w0) {s a:Str} {r:Str×Str×Bool} (b:cutS s a=aj r):bE P f #[bH s,bH a] w0 (fun e w'=>Grow w0 w'/\e=.returned (.tuple #[bH r.1,bH r.2.1,.bool r.2.2])):=by
 obtain⟨h,b⟩:=bF b;cases b;obtain⟨m,d⟩:=i.max;refine(c ⟨s.toArray⟩ ⟨a.toArray⟩ m w0 (by rw[wQ];exact h) d).mono ?_;rintro e w'⟨rfl,n,rfl⟩;exact⟨Grow.drewN _ _,by simp[bH]⟩
end
open Go.RowKit
section
variable{P:cc}{ops:Array ee}{Q:fg->Act->aq->Prop}{n:Nat}{env:Nat->al}{w w' w0:aq}{M K:BS}{hp:Nat->Chunk}{rest:List ee}
 {d:Option Nat} {op:Op} {ty:aT} {pos:String} {af:Array hO} {v:al} {g:Option (Nat×Bool)} {T:aT} {ρ:bo->al} {x y:bo} {i fuel:Nat} {listed:Array Bool}
theorem SH.l7{c:Chunk}(h:SH w0 M K w hp)(i:Nat)(d:hp i=c)(e:bL c.own' w w'):SH w0 M K w' (bV hp i .no):=
 h.step i e (fun b a _=>by rw[d];exact a) (fun b a=>a.elim) U
theorem SH.De{c e:Chunk}(h:SH w0 M K w hp)(i j:Nat)(a:i≠j)(f:hp i=c)(d:hp j=e)(g:bL (fun b=>c.own' b\/e.own' b) w w'):SH w0 M K w' (bV (bV (bV hp j .no) i (.two (hp i) (hp j))) i .no):=by
 refine(h.pair i j a).l7 i (c:=.two (hp i)<|hp j) (bW _ _ _) ?_;rw[f,d];exact g
theorem lU{zs:List al}(h:SH w0 M K w hp)(i:Nat)(a:wH P T zs)(k:∀w' b,SH w0 M K w' (bV hp i (.blk b zs))->Grow w w'->w.heap.size<=b->WL P ops Q rest n (gD env d (.pointer (aj ⟨b,0,aw⟩))) w'):WL P ops Q (⟨d,.alloc T,ty,pos,af,aw⟩::rest) n env w:=
 J (r_allocN a) (k _ _ (h.newB i zs T) (Grow.alloc _ _) (bq _))
theorem fD{z:al}{b o:Nat}{cs:List al}(h:SH w0 M K w hp)(i:Nat)(a:List al)(c:hp i=.blk b cs)(j:One P T z)(l:ev n env x=.pointer (aj ⟨b,o,aw⟩))(f:ev n env y=v)(ho:cs.set o v=a)(e:nc o cs.length=ba)(q:v.oneCell'=ba)
  (k:∀w',SH w0 M K w' (bV hp i (.blk b a))->bL (fun x=>x=b) w w'->WL P ops Q rest n (gD env d fW) w'):
  WL P ops Q (⟨d,.store T x y,ty,pos,af,aw⟩::rest) n env w:=by
 obtain⟨E,m⟩:=h.A7 i c;have:=h.putB i c a E;subst ho;have p:=Tk (d:=d) (ty:=ty) (pos:=pos) (af:=af) (g:=aw) j l m (by rw[lA]at e;simpa using e) f q;refine BF p<|k _ ?_<|bL.xH _ _ _;simpa using this
theorem lV{zs vs:List al}{b o:Nat}{cs:List al}(h:SH w0 M K w hp)(i:Nat)(a:List al)(e:hp i=.blk b cs)(j:wH P T zs)(l:ev n env x=.pointer (aj ⟨b,o,aw⟩))(f:ev n env y=.agg vs.toArray)(g:vs.length=zs.length)(ho:MF cs o vs=a)(m:ll (o+vs.length) cs.length=ba)(p:∀v∈vs,v.oneCell'=ba)
  (k:∀w',SH w0 M K w' (bV hp i (.blk b a))->bL (fun x=>x=b) w w'->WL P ops Q rest n (gD env d fW) w'):
  WL P ops Q (⟨d,.store T x y,ty,pos,af,aw⟩::rest) n env w:=by
 obtain⟨E,c⟩:=h.A7 i e;subst ho;exact BF (Tm j l c f g (gn m) p)<|k _ (h.putB i e _ E)<|bL.xH _ _ _
theorem mh{α:Type}{R:lD α}{E:aT}{j c:Nat}{u:al}{l m:List α}(h:SH w0 M K w hp)(i:Nat)(f:hp i=.own R E v l)(B:eF R w BE (SH.A M hp) u m)(G:kD P T E j c)(q:R.sz=j)(r:ev n env x=v)(C:ev n env y=u)
    (a:(l.length+m.length)*c<=140737488355328) (t:l.length+m.length<=9223372036854775807)
    (k:∀w' e,SH w0 M K w' (bV hp i (.own R E e (l++m)))->bL (ob v) w w'->(∀b,ob e b->b<w.heap.size->ob v b)->WL P ops Q rest n (gD env d e) w'):
    WL P ops Q (⟨d,.call {callee:=.builtin .append,args:= #[x,y],argTypes:= #[T,T]},ty,pos,af,aw⟩::rest) n env w:=by
  obtain⟨e,w',s,z,p,o⟩:=run_app (d:=d) (ty:=ty) (pos:=pos) (af:=af) (g:=aw) G q r (h.bJ i f) C B (fun b a=>.inr ⟨i,by rw[f];exact a⟩) a t;refine J s (k w' e (h.step i p (fun b a _=>by rw[f];exact a) (fun b a F=>by rw[f];exact o b a F) ?_) p o);refine cu.go z (bL.refl BE w') (fun _ h=>h.elim) (fun _ h=>h.elim) fun b a _=>?_;rcases a with a|a|a
  · exact .inl<|.inl a
  · exact .inl<|.inr<|lF a
  · exact .inr a
theorem Yd{E u:aT}{l s:Str}(h:SH w0 M K w hp)(i:Nat)(c:hp i=.own iO E v l)(p:kD P T E 1 1)(hz:One P E (.int .u8 0))(m:P.underlying u=aj .string)(q:ev n env x=v)(o:ev n env y=bH s)
  (r:(l.length+s.length)*1<=140737488355328) (j:l.length+s.length<=9223372036854775807)
  (k:∀w' a,SH w0 M K w' (bV hp i (.own iO E a (l++s)))->bL (ob v) w w'->(∀b,ob a b->b<w.heap.size->ob v b)->WL P ops Q rest n (gD env d a) w'):
  WL P ops Q (⟨d,.call {callee:=.builtin .append,args:= #[x,y],argTypes:= #[T,u]},ty,pos,af,aw⟩::rest) n env w:=by
 obtain⟨a,w',t,z,f,e⟩:=run_appS (d:=d) (ty:=ty) (pos:=pos) (af:=af) (g:=aw) p hz m q (h.giveO i c) o r j;exact J t<|k w' a (h.given i c z f e) f e
theorem fP{f:sd}{R:mm->aq->Prop}{u a:Tmp}{T:aT}{v2:al}{zs vs:List al}{b:Nat}(l:f.results= #[.cell a T,.tmp u])(j:ev n env (.tmp a)=.pointer (aj ⟨b,0,aw⟩))(p:ev n env (.tmp u)=v2)
  (k:SH w0 M K w hp) (i:Nat) (g:hp i=.blk b vs) (o:wH P T zs) (m:vs.length=zs.length) (h:R (.returned (.tuple #[.agg vs.toArray,v2])) w):jj P f R .ret (act n env) w:=by
 refine⟨Z,_,?_,h⟩;have d:=congrFun (gY n env)<|.tmp u;have c:=congrFun (gY n env)<|.tmp a;rw[p]at d;rw[j]at c;simp only[hX]at d c;rw[cQ]at d c;have e:=Dc (P:=P) k g o m Z;unfold results;rw[l];simp[d,c,asAddr,e]
theorem Tz{g:sd}{R:mm->aq->Prop}{t u a:Tmp}{T:aT}{v2 v3:al}{zs vs:List al}{b:Nat}(p:g.results= #[.cell a T,.tmp t,.tmp u])(m:ev n env (.tmp a)=.pointer (aj ⟨b,0,aw⟩))(k:ev n env (.tmp t)=v2)(l:ev n env (.tmp u)=v3)
  (o:SH w0 M K w hp) (i:Nat) (j:hp i=.blk b vs) (r:wH P T zs) (q:vs.length=zs.length) (h:R (.returned (.tuple #[.agg vs.toArray,v2,v3])) w):jj P g R .ret (act n env) w:=by
 refine⟨Z,_,?_,h⟩;have d:=congrFun (gY n env)<|.tmp t;have e:=congrFun (gY n env)<|.tmp u;have c:=congrFun (gY n env)<|.tmp a;rw[k]at d;rw[l]at e;rw[m]at c;simp only[hX]at d e c;rw[cQ]at d e c;have f:=Dc (P:=P) o j r q Z;unfold results;rw[p];simp[d,e,c,asAddr,f]
theorem fin3{e:sd}{R:mm->aq->Prop}{t u a:Tmp}{v1 v2 v3:al}(f:e.results= #[.tmp t,.tmp u,.tmp a])(g:ev n env (.tmp t)=v1)(i:ev n env (.tmp u)=v2)(j:ev n env (.tmp a)=v3)(h:R (.returned (.tuple #[v1,v2,v3])) w):jj P e R .ret (act n env) w:=by
 refine⟨Z,_,?_,h⟩;have b:=congrFun (gY n env)<|.tmp t;have c:=congrFun (gY n env)<|.tmp u;have d:=congrFun (gY n env)<|.tmp a;rw[g]at b;rw[i]at c;rw[j]at d;simp only[hX]at b c d;rw[cQ]at b c d;unfold results;rw[f];simp[b,c,d]
theorem At.grow{b o:Nat}{cs:List al}(h:At w b o cs)(a:Grow w w'):At w' b o cs:=by
 obtain⟨cells,E,e,c,d⟩:=h;exact⟨cells,E,e,a.blk c,d⟩
theorem yK{ws w:aq}{v u:al}(hz:ws.heap.size<=w.heap.size)(d:∀b,ob v b->ws.heap.size<=b)(hn:∀b,ob u b->b<w.heap.size->ob v b):∀b,ob u b->ws.heap.size<=b:=
 fun b c=>sc fun a=>Nat.not_lt_of_le (d b (hn b c (cp a hz))) a
def EffOk(P:cc)(ops:Array ee)(Q1:Nat->fg->Act->aq->Prop)(n:Nat)(env:Nat->al)(w:aq)(i:Nat):Prop:=
 ∃d op ty pos af g,ops[i]? =aj ⟨d,op,ty,pos,af,g⟩/\cq ⟨d,op,ty,pos,af,g⟩ (ez ops (act n env).tmps)=ba/\WL P ops (Q1 i) [⟨d,op,ty,pos,af,aw⟩] n env w
theorem Vf{Q1:Nat->fg->Act->aq->Prop}(i:Nat)(b:ops[i]? =aj ⟨d,op,ty,pos,af,g⟩)(a:cq ⟨d,op,ty,pos,af,g⟩ (ez ops (act n env).tmps)=ba)(h:WL P ops (Q1 i) [⟨d,op,ty,pos,af,aw⟩] n env w):EffOk P ops Q1 n env w i:=⟨_,_,_,_,_,_,b,a,h⟩
def EffAll(P:cc)(ops:Array ee)(Q1:Nat->fg->Act->aq->Prop)(n:Nat)(env:Nat->al)(w:aq):List Nat->Prop
 |[]=>True
 |i::r=>EffOk P ops Q1 n env w i/\EffAll P ops Q1 n env w r
theorem YE{Q1:Nat->fg->Act->aq->Prop}:∀{l:List Nat},EffAll P ops Q1 n env w l->∀k∈l,EffOk P ops Q1 n env w k
  |i::r,⟨h1,h2⟩,k,hk=>by
    rcases bn.1 hk with rfl|hk
    · exact h1
    · exact YE h2 k hk
theorem whk_effs{L:BS}{ws:aq}(l:List Nat)(e:cR .any ops listed=l)(f:l≠[])
  (h:EffAll P ops (fun i=>Vd P ops L ws Q fuel (listed.setIfInBounds i ba)) n env w l):Yc P ops L ws Q (fuel+1) listed n env w:=by
 refine⟨nr e f fun k a=>?_⟩;obtain⟨d,op,ty,pos,af,g,b,c,j⟩:=YE h k a;exact IA b c j
end
open Go.RowKit Go.ChangeShapes
theorem returns_laid{c:Type}{enc:aT×al->c}{a:Assume}{C:Checked}{os:Os}{f:fR}{p:sd}{s:ChangeSpec}{l:List PathCond}{d fresh k again:Bool}{X:aq->Array al->Prop}
  (L:∀(w w':aq) (args:Array al),w.heap=w'.heap->X w args->X w' args)
  (own:ownKnob C.prog.godebug=aw) (o:os.Started) (q:C.prog.inits.idxOf? f=aw) (F:C.prog.funcs[f]? =aj p)
  (n:∃(w:aq) (g:Tape) (i:Input),w.os=os/\(w.forCall g i).Shaped C.prog/\i.vars=[]/\Input.okWide C.prog (w.forCall g i) .any w.heap.size f i/\
   ((s.pre enc C.prog p l d (w.forCall g i).memory i.args/\X (w.forCall g i).memory i.args)/\sizedMet enc C.prog p (OpenSpec.ofChange s) d (w.forCall g i).memory i.args)/\a.holds C.prog (lone (Frame.enter C.prog f i.args .normal) [] (w.forCall g i)))
  (m:∀(b:aq) (y:Nat) (args:Array al) (z A:List (DataW c)) (h:List ph),
   (∀(j:Nat) t v,p.params[j]? =aj t->args[j]? =aj v->Value.okWide C.prog b .any y t v)->
   DataW.Whole enc C.prog p.params.toList s.vars d b args.toList z A h->
   l.all (PathCond.test C.prog ⟨p.params.toList,z,s.plain.varTypes C.prog,A⟩)=ba->X b args->b.ShapedOpen C.prog->
   bE C.prog f args b fun e K=>∃v,e=.returned v/\s.post enc C.prog p d fresh k again b args v K):
  ReturnsInHanded a C os f .any (fun w args=>(s.pre enc C.prog p l d w args/\X w args)/\sizedMet enc C.prog p (OpenSpec.ofChange s) d w args) (s.post enc C.prog p d fresh k again):=by
 refine returnsInHanded_of_calls own o q n ?_;intro w g i _ E _ I u _;obtain⟨_,_,_,G,r,_,_,_,_,x⟩:=I;have e:G=p:=cN<|r.symm.trans F;subst e;obtain⟨⟨⟨z,A,h,N,M⟩,O⟩,_⟩:=u;have B:=DataW.Whole.of_heap (w':=w.forCall g i) (by rfl) N;refine(m (w.forCall g i) w.heap.size i.args z A h x B M (L _ _ _ (by rfl) O) E).mono fun e K⟨v,P,hp⟩=>?_;subst P;exact ChangeSpec.post_blind hp
def laidIn(w:aq)(g:Nat)(a:Array al):World:=
 {w with heap:=w.heap.modify g fun| .cells _ t fz=>.cells a t fz|o=>o}
def tabCells:DataW Unit->Array al
 | .agg l=>(l.map fun| .lit (.int k z)=>dk k z|_=>Value.nilIface).toArray
 |_=> #[]
structure iV where
 safe:List UInt8
 wait:List UInt8
deriving DecidableEq
theorem puint_app(a:Nat)(c:UInt8):∀(l:Str),fj a (l++[c])=match fj a l with| .ok m=>fj m [c]|e=>e:=by
  intro l;induction l generalizing a with
  |nil=>simp[fj]
  |cons b r ih=>
    simp only[eo,fj];split
    · split
      · rfl
      · split
        · rfl
        · rw[ih];rfl
    · rfl
theorem P8{k:Nat}(h:k<10):(UInt8.ofNat (48+k)).toNat=48+k:=by
 have:(48+k)%256=48+k:=Nat.mod_eq_of_lt V;simpa[UInt8.toNat_ofNat']using this
theorem puint_dec:∀(u:Nat),u<18446744073709551616->fj 0 (hJ u)=.ok u:=by
  intro u;induction u using lO with
  |ind u ih=>
    intro b;rw[hJ];split
    · rename_i h;simp only[fj];rw[P8 h,if_pos V,if_neg V,if_neg V];congr 1;omega
    · rename_i h;have a:u%10<10:=mS _ zq1;rw[puint_app,ih (u / 10) V V];simp only[fj];rw[P8 a,if_pos V,if_neg V,if_neg V];congr 1;omega
theorem dec_head:∀(u:Nat),∃c r,hJ u=c::r/\48<=c.toNat/\c.toNat<=57:=by
  intro u;induction u using lO with
  |ind u ih=>
    rw[hJ];split
    · rename_i h;exact⟨_,[],Z,by rw[P8 h];omega,by rw[P8 h];omega⟩
    · rename_i h;obtain⟨c,r,a,b,d⟩:=ih (u / 10) V;exact⟨c,r++[UInt8.ofNat (48+u%10)],by rw[a];rfl,b,d⟩
theorem dec_chars:∀(u:Nat),∀c∈hJ u,48<=c.toNat/\c.toNat<=57:=by
  intro u;induction u using lO with
  |ind u ih=>
    rw[hJ];split
    · rename_i h;intro c a;simp only[fc]at a;subst a;rw[P8 h];omega
    · rename_i h;have b:u%10<10:=mS _ zq1;intro c a;rcases cE.1 a with a|a
      · exact ih (u / 10) V c a
      · simp only[fc]at a;subst a;rw[P8 b];omega
theorem itoa_chars(n:Int):∀c∈dq n,45<=c.toNat/\c.toNat<=57:=by
  intro c a;unfold dq at a;split at a
  · rcases bn.1 a with rfl|a
    · decide
    · have:=dec_chars _ c a;omega
  · have:=dec_chars _ c a;omega
theorem itoa_free{n:Int}{c:UInt8}(h:c.toNat<45):c∉dq n:=fun a=>by have:=itoa_chars n c a;omega
theorem mag_dec{u:Nat}(h:u<18446744073709551616):Lib.parseMag (hJ u)=.ok u:=by
 obtain⟨c,r,a,_,_⟩:=dec_head u;unfold Lib.parseMag;rw[if_neg (by rw[a];simp),puint_dec u h]
theorem atoi_itoa{n:Int}(h:kv n):ep (dq n)=.ok n:=by
  obtain⟨b,d⟩:=h;unfold dq;split
  · rename_i hn;unfold ep;simp only;rw[if_pos (.inr zq1),mag_dec V];simp only;rw[if_neg zq3,if_neg V];simp;omega
  · rename_i hn;obtain⟨c,r,e,f,a⟩:=dec_head n.toNat;rw[e];unfold ep;simp only;rw[if_neg V,<-e,mag_dec V];simp only;rw[if_neg V,if_neg V,if_neg V];congr 1;omega
def numOf(w:Str):Option Int:=match ep w with| .ok v=>if dq v=w then aj v else aw|_=>aw
theorem numOf_itoa{n:Int}(h:kv n):numOf (dq n)=aj n:=by simp[numOf,atoi_itoa h]
theorem numOf_some{w:Str}{n:Int}(h:numOf w=aj n):w=dq n/\kv n:=by
  unfold numOf at h;cases e:ep w with
  |ok v=>
    rw[e]at h;simp only at h;split at h
    · rename_i a;cases h;have:=Lib.atoiAll_bounds e;exact⟨a.symm,this⟩
    · cases h
  |_=>rw[e]at h;cases h
theorem itoa_len{n:Int}(h:kv n):(dq n).length<=21:=Lib.itoa_length_le n h.1 h.2
def jL(c:UInt8):Str->List Str
 |[]=>[[]]
 |b::r=>if b=c then []::jL c r else match jL c r with|x::xs=>(b::x)::xs|[]=>[[b]]
theorem Ic(c:UInt8):∀(s:Str),jL c s≠[]
  |[]=>by simp[jL]
  |b::r=>by
    unfold jL;split
    · simp
    · split<;>simp
theorem J5{c:UInt8}:∀{x:Str},c∉x->jL c x=[x]
 |[],_=>rfl
 |b::r,h=>by
  have a:¬b=c:=fun e=>h (by rw[e];exact eN);rw[jL,if_neg a,J5 (x:=r) (fun e=>h (bj _ e))]
theorem BX{c:UInt8}{r:Str}:∀{x:Str},c∉x->jL c (x++c::r)=x::jL c r
 |[],_=>by simp[jL]
 |b::x,h=>by
  have a:¬b=c:=fun e=>h (by rw[e];exact eN);rw[eo,jL,if_neg a,BX (x:=x) (fun e=>h (bj _ e))]
theorem idx1(c:UInt8):∀(s:Str),(jE s [c]= -1/\c∉s)\/∃x r,s=x++c::r/\c∉x/\jE s [c]=x.length
  |[]=>by left;exact⟨by simp[jE],by simp⟩
  |b::l=>by
    by_cases h:b=c
    · subst h;right;exact⟨[],l,Z,by simp,by simp[jE,nv]⟩
    · have a:¬c=b:=fun e=>h e.symm;have hp:nv [c] (b::l)=false:=by simp[nv,a]
      rcases idx1 c l with⟨h1,h2⟩|⟨x,r,h1,h2,h3⟩
      · left;refine⟨by rw[jE,hp,h1];simp,?_⟩;simp[h2,a]
      · right;refine⟨b::x,r,by rw[h1];rfl,by simp[h2,a],?_⟩;have:¬(jE l [c]== -1)=true:=by rw[h3];simp
        rw[jE,hp,if_neg zq3,if_neg this,h3];simp
theorem splitK_C(c:UInt8):∀(k:Nat) (s:Str),Lib.count s [c]=k->Lib.splitK [c] 0 k s=jL c s:=by
  intro k;induction k with
  |zero=>
    intro s a;rcases idx1 c s with⟨h1,h2⟩|⟨x,r,h1,h2,h3⟩
    · rw[J5 h2];rfl
    · rw[Lib.count_hit zq3 h3]at a;omega
  |succ k ih=>
    intro s a;rcases idx1 c s with⟨h1,h2⟩|⟨x,r,h1,h2,h3⟩
    · rw[Lib.count_miss h1]at a;omega
    · have d:¬(jE s [c]== -1)=true:=by rw[h3];simp
      rw[Lib.count_hit zq3 h3]at a;have b:s.drop (x.length+[c].length)=r:=by rw[h1];simp
      rw[Lib.splitK,if_neg d,h3];simp only[Int.toNat_natCast,Nat.add_zero];rw[b]at a⊢;rw[ih r V,h1,BX h2,jB]
theorem split_C(c:UInt8)(s:Str):sl s [c]=jL c s:=splitK_C c _ s Z
def wR(c:UInt8)(l:List Str):Str:=ov l [c]
theorem Cs(c:UInt8)(x:Str):wR c [x]=x:=Lib.join_one x [c]
theorem zw(c:UInt8)(x y:Str)(l:List Str):wR c (x::y::l)=x++c::wR c (y::l):=by
 unfold wR;rw[Lib.join_cons,Lib.join_cons];simp[Lib.joinTail]
theorem Ct(c:UInt8):∀(s:Str),wR c (jL c s)=s
  |[]=>Cs c []
  |b::r=>by
    have a:=Ct c r;unfold jL;split
    · rename_i h;subst h;cases e:jL b r with
      |nil=>exact absurd e (Ic b r)
      |cons y l=>rw[zw,<-e,a];rfl
    · split
      · rename_i x xs e;rw[e]at a;cases xs with
        |nil=>rw[Cs]at a⊢;rw[a]
        |cons y l=>rw[zw]at a⊢;rw[eo,a]
      · rename_i e;exact absurd e<|Ic c r
theorem XB(c:UInt8):∀(l:List Str),l≠[]->(∀x∈l,c∉x)->jL c (wR c l)=l
 |[],h,_=>absurd Z h
 |[x],_,h=>by rw[Cs];exact J5 (h x zq3)
 |x::y::l,_,h=>by
  rw[zw,BX (h x zq3),XB c (y::l) zq3 (fun z hz=>h z (bj _ hz))]
theorem MM(c:UInt8):∀(s:Str),(jL c s).length<=s.length+1
  |[]=>by simp[jL]
  |b::r=>by
    have a:=MM c r;unfold jL;split
    · simp;omega
    · split
      · rename_i x xs e;rw[e]at a;simp at a⊢;omega
      · simp
theorem EF(c:UInt8):∀(s x:Str),x∈jL c s->x.length<=s.length/\c∉x
  |[],x,h=>by simp[jL]at h;subst h;simp
  |b::r,x,h=>by
    unfold jL at h;split at h
    · rcases bn.1 h with rfl|h
      · simp
      · have:=EF c r x h;exact⟨by simp;omega,this.2⟩
    · rename_i d;split at h
      · rename_i y f e;rcases bn.1 h with rfl|h
        · have:=EF c r y (by rw[e];exact eN);refine⟨by simp;exact this.1,?_⟩;intro a;rcases bn.1 a with a|a
          · exact d a.symm
          · exact this.2 a
        · have:=EF c r x (by rw[e];exact bj _ h);exact⟨by simp;omega,this.2⟩
      · rename_i e;exact absurd e<|Ic c r
theorem Vg(c:UInt8)(m:Nat):∀(l:List Str),(∀x∈l,x.length<=m)->(wR c l).length<=l.length*(m+1)
 |[],_=>by simp[wR,Lib.join_nil]
 |[x],h=>by rw[Cs];have:=h x zq3;simp;omega
 |x::y::l,h=>by
  have a:=h x zq3;have b:=Vg c m (y::l) fun z hz=>h z<|bj _ hz;rw[zw,bk,bw,bw,Nat.succ_mul];omega
def XC(c:UInt8)(s:Str):Option (List Int):=(jL c s).mapM numOf
theorem mapM_num_of{l:List Int}(h:∀x∈l,kv x):(l.map dq).mapM numOf=aj l:=by
 induction l with
 |nil=>rfl
 |cons x l ih=>
  rw[cj,mx,numOf_itoa (h x zq3),ih (fun y a=>h y (bj _ a))];rfl
theorem Ky:∀{w:List Str} {l:List Int},w.mapM numOf=aj l->w=l.map dq/\∀x∈l,kv x
  |[],l,h=>by cases h;exact⟨Z,by simp⟩
  |x::w,l,h=>by
    rw[mx]at h;cases e:numOf x with
    |none=>rw[e]at h;cases h
    |some v=>
      rw[e]at h;cases e2:w.mapM numOf with
      |none=>rw[e2]at h;cases h
      |some m=>
        rw[e2]at h;cases h;obtain⟨c,d⟩:=Ky e2;obtain⟨f,b⟩:=numOf_some e;refine⟨by rw[cj,<-c,<-f],?_⟩;intro y a;rcases bn.1 a with rfl|a
        · exact b
        · exact d y a
theorem nums_join{c:UInt8}(a:c.toNat<45){l:List Int}(b:l≠[])(h:∀x∈l,kv x):XC c (wR c (l.map dq))=aj l:=by
 unfold XC;rw[XB c _ (by simpa using b) (by intro x d;obtain⟨y,_,rfl⟩:=dJ.1 d;exact itoa_free a)];exact mapM_num_of h
theorem join_nums{c:UInt8}{s:Str}{l:List Int}(h:XC c s=aj l):s=wR c (l.map dq)/\(∀x∈l,kv x)/\l≠[]:=by
 obtain⟨a,b⟩:=Ky h;refine⟨by rw[<-a,Ct],b,?_⟩;rintro rfl;exact Ic c s a
theorem YF{n:Int}(h:kv n):Oq n=aj (dq n):=by unfold Oq;rw[ky h]
theorem atoiS_eq{w:Str}(h:w.length<=281474976710656):J4 w=aj (match ep w with| .ok v=>(v,ao)| .range=>(pR w,ba)|_=>(0,ba)):=by unfold J4;rw[ky h];all_goals (cases ep w<;>rfl)
theorem parseS_eq{w:Str}(h:w.length<=281474976710656):parseS w=aj (match ep w with| .ok v=>(v,ao)| .range=>(Lib.intSat 64 w,ba)|_=>(0,ba)):=by unfold parseS;rw[ky h,Lib.parseIntB_64];all_goals (cases ep w<;>rfl)
theorem splitS_eq{s:Str}(c:UInt8)(h:s.length<4294967281):Rl s [c]=aj (jL c s):=by unfold Rl;rw[ky ⟨h,bq _⟩,split_C]
theorem joinS_eq{l:List Str}(c:UInt8)(h:l.length<=140737488355328)(a:(wR c l).length<=140737488355328):YD l [c]=aj (wR c l):=by unfold YD;rw[ky ⟨h,a⟩];rfl
end Go.LX