/-
  What the law WorldParts needs of our own library and of the walks, no more.
-/
import Derived.WalkKit
import Derived.Laws.StructEq
import Derived.ChangeKeysEq
import Derived.StillTail
import Derived.LoopN
import Derived.Deep.Quiet
import Derived.OrdersHeld
import Derived.Deep.RegionHeld3
import Derived.Deep.Slices
import Derived.MapKept
import Derived.Lib.Bytealg
import Derived.ChangeArms
import Derived.Lib.AppendZeros
import Derived.Lib.Overlaps
import Derived.Laws.CopyRow
import Derived.Shelf.SlSortCmp.SmallK
import Derived.Laws.Pointers
import Derived.Laws.OwnMore
import Derived.Laws.Concat
import Derived.Laws.Strings2
import Derived.Laws.Strings3
import Derived.Laws.IdiomStrings
import Derived.Lib.AppendStr
import Derived.Lib.ConvBytes
import Derived.Lib.LaidTab
import Derived.Lib.ItoaNum
import Derived.WideLaws
import Derived.Lib.SplitLaws
import Derived.Lib.JoinLaws
import Derived.Lib.AtoiAll
import Derived.Lib.ParseIntB
import Derived.Laws.NewFold
import Derived.Lib.Join
import Derived.Lib.Strings
import Derived.Sort.Grow
import Derived.Lib.Space
import Derived.Handed
import Derived.LaidMore
import Derived.LaidHandle
import Derived.Stop.LaidErr
import Derived.Shelf.Vars
import Derived.WideShapes
import Derived.Lib.ParseIntBTie
import Derived.Lib.ItoaLen
import Derived.Lib.AtoiAllCases
namespace Go
theorem Z.{u} {α : Sort u} {a : α} : a = a := rfl
theorem U : True := trivial
theorem V {p : Prop} (h : p := by omega) : p := h
theorem zq1 {p : Prop} (h : p := by decide) : p := h
theorem zq2 {p : Prop} (h : p := by kernel_rfl) : p := h
theorem zq3 {p : Prop} (h : p := by simp) : p := h
end Go
set_option linter.unusedSimpArgs false
set_option linter.unusedVariables false
set_option maxRecDepth 10000
namespace Go.LX
open Go.RowKit
def act(n:Nat)(env:Nat->Value):Act:={tmps:=Array.ofFn (n:=n) fun i=>env i.val,defers:=[]}
def upd(env:Nat->Value)(d:Nat)(v:Value):Nat->Value:=fun i=>bif Nat.beq i d then v else env i
def ev(n:Nat)(env:Nat->Value):Operand->Value
 | .tmp t=>bif Nat.blt t n then env t else undef
 | .const v=>v
 | .global g=>.pointer (some ⟨g,0,none⟩)
 | .func f=>.func (.func f) #[] #[]
def gy(env:Nat->Value):Option Nat->Value->(Nat->Value)
 |some d,v=>upd env d v
 |none,_=>env
theorem gN(n:Nat)(env:Nat->Value):(act n env).eval=ev n env:=by
  funext x;cases x with
  |tmp t=>
    by_cases h:t<n
    · have a:Nat.blt t n=true:=by rw[Nat.blt_eq];exact h
      simp[Act.eval,act,ev,h,a]
    · have a:Nat.blt t n=false:=by rw[Bool.eq_false_iff,ne_eq,Nat.blt_eq];exact h
      simp[Act.eval,act,ev,h,a]
  |_=>rfl
theorem ED(n:Nat)(env:Nat->Value)(d:Option Nat)(v:Value):(act n env).put d v=act n (gy env d v):=by
  cases d with
  |none=>rfl
  |some d=>
    simp only[Act.put,act,gy,Act.mk.injEq,and_true];apply Array.ext
    · simp
    · intro i b f;simp at b;have e:i<(Array.ofFn (n:=n) fun i=>env i.val).size:=by simp;exact b
      rw[Array.getElem_setIfInBounds e];by_cases a:d=i
      · subst a;simp[upd,Nat.beq_refl]
      · have c:Nat.beq i d=false:=by rw[Bool.eq_false_iff];intro h;exact a (Nat.eq_of_beq_eq_true h).symm
        simp[a,upd,c]
def Tu(args:List Value):Nat->Value:=fun i=>args.getD i undef
theorem act_init(n:Nat)(args:List Value)(h:args.length<=n):({tmps:=args.toArray++Array.replicate (n-args.toArray.size) undef,defers:=[]}:Act)=act n (Tu args):=by
  simp only[act,Act.mk.injEq,and_true];apply Array.ext
  · simp;omega
  · intro i b c;simp[Array.getElem_append,Tu,List.getD];by_cases a:i<args.length
    · simp[a]
    · simp[a]
structure WL(P:Program)(ops:Array Oper)(Q:Exit->Act->World->Prop)(l:List Oper)(n:Nat)(env:Nat->Value)(w:World):Prop where
 out:wpList P ops Q l (act n env) w
structure WC(P:Program)(c:Code)(Q:Exit->Act->World->Prop)(n:Nat)(env:Nat->Value)(w:World):Prop where
 out:c.wp P Q (act n env) w
section
variable{P:Program}{ops:Array Oper}{Q:Exit->Act->World->Prop}{n:Nat}{env:Nat->Value}{w w':World}{rest:List Oper}
 {d:Option Nat} {op:Op} {ty:TypeId} {pos:String} {af:Array Edge} {v:Value} {g:Option (Nat×Bool)}
theorem F(a:(execOp (ev n env) ⟨d,op,ty,pos,af,none⟩).run P w=.ok (.value v) w')(h:WL P ops Q rest n (gy env d v) w'):
  WL P ops Q (⟨d,op,ty,pos,af,none⟩::rest) n env w:=by
 refine⟨wpList_plain Z fun K b=>?_⟩;unfold Oper.wp;rw[gN,a];show K _ _;rw[ED];exact b _ _ h.out
theorem AL(a:(execOp (ev n env) ⟨d,op,ty,pos,af,none⟩).run P w=.ok .skip w')(h:WL P ops Q rest n (gy env d undef) w'):
  WL P ops Q (⟨d,op,ty,pos,af,none⟩::rest) n env w:=by
 refine⟨wpList_plain Z fun K b=>?_⟩;unfold Oper.wp;rw[gN,a];show K _ _;rw[ED];exact b _ _ h.out
theorem wl_enter{f:FuncId}{args:Array Value}{R:Ending->World->Prop}(b:(execOp (ev n env) ⟨d,op,ty,pos,af,none⟩).run P w=.ok (.enter f args) w)(g:Calls P f args w R)
  (h:∀e w',R e w'->∃v,e=.returned v/\WL P ops Q rest n (gy env d v) w'):
  WL P ops Q (⟨d,op,ty,pos,af,none⟩::rest) n env w:=by
 refine⟨wpList_plain Z fun K c=>?_⟩;unfold Oper.wp;rw[gN,b];show Calls P f args w _;refine g.mono fun e w' a=>?_;obtain⟨v,rfl,i⟩:=h e w' a;show K _ _;rw[ED];exact c _ _ i.out
theorem Lj{j dj:Nat}{b:Bool}(d:(ops[j]?).bind (·.dst)=some dj)(c:ev n env (.tmp dj)=.bool b):yielded ops (act n env).tmps j=some b:=by
  unfold yielded;have a:(act n env).eval (.tmp dj)=.bool b:=by rw[gN];exact c
  simp only[d,Option.bind_some];simp only[Act.eval]at a;cases h2:(act n env).tmps[dj]? with
  |none=>simp[Array.getD_eq_getD_getElem?,h2,undef]at a
  |some x=>simp[Array.getD_eq_getD_getElem?,h2]at a;subst a;rfl
theorem J7{j dj:Nat}{b:Bool}(f:(ops[j]?).bind (·.dst)=some dj)(g:ev n env (.tmp dj)=.bool b)
    (h:WL P ops Q (⟨d,op,ty,pos,af,none⟩::rest) n env w):WL P ops Q (⟨d,op,ty,pos,af,some (j,b)⟩::rest) n env w:=by
  have c:=Lj (ops:=ops) f g;have e:Region.wanted ⟨d,op,ty,pos,af,some (j,b)⟩ (yielded ops (act n env).tmps)=true:=by simp[Region.wanted,c]
  have a:Region.wanted ⟨d,op,ty,pos,af,none⟩ (yielded ops (act n env).tmps)=true:=rfl;obtain⟨h⟩:=h;refine⟨?_⟩;unfold wpList at h⊢;rw[if_pos a]at h;rw[if_pos e];exact h
theorem bQ{j dj:Nat}{b b':Bool}(e:(ops[j]?).bind (·.dst)=some dj)(f:ev n env (.tmp dj)=.bool b')(g:(b'==b)=false)
    (h:WL P ops Q rest n (gy env d undef) w):WL P ops Q (⟨d,op,ty,pos,af,some (j,b)⟩::rest) n env w:=by
  have a:=Lj (ops:=ops) e f;have c:Region.wanted ⟨d,op,ty,pos,af,some (j,b)⟩ (yielded ops (act n env).tmps)=false:=by simpa[Region.wanted,a]using g
  refine⟨?_⟩;unfold wpList;rw[if_neg (by rw[c];decide),ED];exact h.out
theorem ag(h:Q .normal (act n env) w):WL P ops Q [] n env w:=⟨h⟩
end
section
variable{P:Program}{Q:Exit->Act->World->Prop}{n:Nat}{env:Nat->Value}{w:World}{x y:Code}
theorem ay{id:Nat}{l:List Oper}(h:WL P l.toArray Q l n env w):WC P (Code.region id l.toArray false) Q n env w:=⟨wp_region_lit h.out⟩
theorem aA(h:WC P x (Exit.then (y.wp P Q) Q) n env w):WC P (Code.seq x y) Q n env w:=⟨wp_seq h.out⟩
theorem aH{id:Nat}(h:WC P x (Exit.inBlock id Q) n env w):WC P (Code.block id x) Q n env w:=⟨wp_block h.out⟩
theorem ax(h:Q .normal (act n env) w):WC P .skip Q n env w:=⟨wp_skip h⟩
theorem A9(h:Q .ret (act n env) w):WC P .ret Q n env w:=⟨wp_ret h⟩
theorem kg{id:Nat}(h:Q (.exit id) (act n env) w):WC P (.exit id) Q n env w:=⟨wp_exit h⟩
theorem eB{c:Operand}{t:Bool}(d:ev n env c=.bool t)(a:t=true->WC P x Q n env w)(b:t=false->WC P y Q n env w):
 WC P (Code.cond c x y) Q n env w:=⟨wp_cond_split (by rw[gN];exact d) (fun h=>(a h).out) (fun h=>(b h).out)⟩
theorem wc_ift{c:Operand}(b:ev n env c=.bool true)(a:WC P x Q n env w):WC P (Code.cond c x y) Q n env w:=⟨wp_cond_true (by rw[gN];exact b) a.out⟩
theorem wc_iff{c:Operand}(b:ev n env c=.bool false)(a:WC P y Q n env w):WC P (Code.cond c x y) Q n env w:=⟨wp_cond_false (by rw[gN];exact b) a.out⟩
theorem ae{Q':Exit->Act->World->Prop}(h:WC P y Q n env w):Exit.then (y.wp P Q) Q' .normal (act n env) w:=h.out
def hav(mod:Nat->Bool)(b a:Nat->Value):Nat->Value:=fun i=>bif mod i then b i else a i
def ZA(e:Nat->Value):List (Nat×Value)->Nat->Value
 |[]=>e
 |(i,v)::r=>upd (ZA e r) i v
def Holds(e:Nat->Value):List (Nat×Value)->Prop
 |[]=>True
 |(i,v)::r=>e i=v/\Holds e r
def I1(mod:Nat->Bool)(e a:Nat->Value):Prop:=∀i,mod i=false->e i=a i
theorem I1.refl(mod:Nat->Bool)(e:Nat->Value):I1 mod e e:=fun _ _=>rfl
theorem I1.hav(mod:Nat->Bool)(j e:Nat->Value):I1 mod (hav mod j e) e:=fun i h=>by simp[LX.hav,h]
theorem I1.upd{mod:Nat->Bool}{e a:Nat->Value}{d:Nat}{v:Value}(c:mod d=true)(h:I1 mod e a):I1 mod (upd e d v) a:=fun i b=>by
 have:i≠d:=fun e=>by rw[e,c]at b;exact Bool.noConfusion b
 have f:Nat.beq i d=false:=by rw[Bool.eq_false_iff];intro h;exact this (Nat.eq_of_beq_eq_true h)
 simp[LX.upd,f,h i b]
theorem upd_self(e:Nat->Value){i:Nat}{v:Value}(h:e i=v):upd e i v=e:=by
  funext k;by_cases a:Nat.beq k i=true
  · have:=Nat.eq_of_beq_eq_true a;subst this;simp[upd,h]
  · simp[upd,a]
theorem hav_self{mod:Nat->Bool}{e a:Nat->Value}(h:I1 mod e a):hav mod e a=e:=by
 funext i;cases hm:mod i with
 |true=>simp[hav,hm]
 |false=>simp[hav,hm,h i hm]
theorem Tv{e:Nat->Value}:∀(l:List (Nat×Value)),Holds e l->ZA e l=e
 |[],_=>rfl
 |(i,v)::r,h=>by
  show upd (ZA e r) i v=e;rw[Tv r h.2];exact upd_self e h.1
theorem wc_loop{σ:Type}{c:Code}(mod:Nat->Bool)(live:σ->List (Nat×Value))(J:σ->World->Prop)(v:σ->Nat)(C:σ)
  (L:Holds env (live C)) (O:J C w)
  (i:∀s K T,J s K->WC P c (Exit.then (fun a' w'=>∃o t,a'=act n t/\I1 mod t env/\Holds t (live o)/\J o w'/\v o<v s) Q) n (ZA (hav mod T env) (live s)) K):
  WC P (Code.loop c) Q n env w:=by
 refine⟨?_⟩;intro b k cs;have E:∀m s e w,v s=m->I1 mod e env->Holds e (live s)->J s w->
   ∃p a' w',Q p a' w'/\Arrives P (lone (b.at (act n e) (.code c:: .inLoop c::k)) cs w) b k cs p a' w':=by
  intro m;induction m using Nat.strongRecOn with
  |_ m ih=>
   intro s e w M N S R;have I:=(i s w e R).out;have z:ZA (hav mod e env) (live s)=e:=by rw[hav_self N];exact Tv _ S
   rw[z]at I;obtain⟨p,f,d,h,a⟩:=I b (.inLoop c::k) cs;cases p with
   |normal=>
    obtain⟨o,t,rfl,G,y,A,B⟩:=h;obtain⟨r,q,u,j,g⟩:=ih (v o) (M▸B) o t d Z G y A;exact⟨r,q,u,j,.of_steps (Steps.trans a<|.one step_inLoop) g⟩
   |exit id=>exact⟨_,f,d,h,.pass (x:=.inLoop c) Z (fun _ _=>.inl zq3) a⟩
   |goto l=>exact⟨_,f,d,h,.pass (x:=.inLoop c) Z (fun _ _=>.inl zq3) a⟩
   |ret=>exact⟨_,f,d,h,.pass (x:=.inLoop c) Z (fun _ _=>.inl zq3) a⟩
   |panic ch=>exact⟨_,f,d,h,.pass (x:=.inLoop c) Z (fun _ _=>.inl zq3) a⟩
   |outgrown=>exact⟨_,f,d,h,.pass (x:=.inLoop c) Z (fun _ _=>.inl zq3) a⟩
 obtain⟨p,a',w',h,a⟩:=E _ C env w Z (I1.refl _ _) L O;exact⟨p,a',w',h,.of_steps (.one step_loop) a⟩
end
open Go.RowKit
structure One(P:Program)(T:TypeId)(z:Value):Prop where
 desc:∃d,P.underlying T=some d/\(match d with| .struct _| .array _ _=>False|_=>True)
 info:(P.info? T).map (fun i=>(i.zero,i.size))=some (some z,1)
 cell:z.cells= #[z]
structure wF(P:Program)(T:TypeId)(zs:List Value):Prop where
 desc:∃d,P.underlying T=some d/\(match d with| .struct _| .array _ _=>True|_=>False)
 info:(P.info? T).map (fun i=>(i.zero,i.size))=some (some (.agg zs.toArray),zs.length)
structure SliceOf(P:Program)(T E:TypeId)(sz:Nat):Prop where
  desc:P.underlying T=some (.slice E)
  info:(P.info? E).map (·.size)=some sz
structure dQ(P:Program)(T:TypeId)(k off:Nat):Prop where
  desc:∃fs f s,P.underlying T=some (.struct fs)/\fs[k]? =some f/\f.offset=off/\(P.info? f.type).map (·.size)=some (s+1)
section
variable{P:Program}{w:World}{ρ:Operand->Value}{d:Option Nat}{ty:TypeId}{pos:String}{af:Array Edge}{g:Option (Nat×Bool)}
theorem bK{x:Operand}{v:Value}(a:ρ x=v):(execOp ρ ⟨d,.move x,ty,pos,af,g⟩).run P w=.ok (.value v) w:=by subst a;rfl
theorem eY{x:Operand}{v:Value}(a:ρ x=v):(execOp ρ ⟨d,.assign x,ty,pos,af,g⟩).run P w=.ok (.value v) w:=by subst a;rfl
theorem jE{c x y:Operand}{b:Bool}{v:Value}(e:ρ c=.bool b)(a:(if b then ρ x else ρ y)=v):(execOp ρ ⟨d,.pick c x y,ty,pos,af,g⟩).run P w=.ok (.value v) w:=by
 subst a;simp[execOp,e,asBool]
theorem r_not{x:Operand}{T:TypeId}{b:Bool}(a:ρ x=.bool b):(execOp ρ ⟨d,.unOp .not T x,ty,pos,af,g⟩).run P w=.ok (.value (.bool !b)) w:=by
 simp[execOp,a,Op.unary]
theorem wrap_in{x:Int}(a: -9223372036854775808<=x)(b:x<=9223372036854775807):IntKind.i64.wrap x=x:=IntWalk.i64_in x ⟨a,b⟩
theorem uU{x y:Operand}{T T2:TypeId}{p q:Int}(a:ρ x=.int .i64 p)(b:ρ y=.int .i64 q):(execOp ρ ⟨d,.binOp .lss T x y T2,ty,pos,af,g⟩).run P w=.ok (.value (.bool (decide (p<q)))) w:=by
 simp[execOp,a,b,eqGuard,binOp,Op.intCmp]
theorem Rn{x y:Operand}{T T2:TypeId}{p q:Int}(a:ρ x=.int .i64 p)(b:ρ y=.int .i64 q):(execOp ρ ⟨d,.binOp .leq T x y T2,ty,pos,af,g⟩).run P w=.ok (.value (.bool (decide (p<=q)))) w:=by
 simp[execOp,a,b,eqGuard,binOp,Op.intCmp]
theorem iH{x y:Operand}{T T2:TypeId}{p q:Int}(a:ρ x=.int .i64 p)(b:ρ y=.int .i64 q):(execOp ρ ⟨d,.binOp .gtr T x y T2,ty,pos,af,g⟩).run P w=.ok (.value (.bool (decide (q<p)))) w:=by
 simp[execOp,a,b,eqGuard,binOp,Op.intCmp]
theorem lY{x y:Operand}{T T2:TypeId}{p q:Int}(a:ρ x=.int .i64 p)(b:ρ y=.int .i64 q):(execOp ρ ⟨d,.binOp .geq T x y T2,ty,pos,af,g⟩).run P w=.ok (.value (.bool (decide (q<=p)))) w:=by
 simp[execOp,a,b,eqGuard,binOp,Op.intCmp]
theorem lZ{x y:Operand}{T T2:TypeId}{p q:Int}{k:IntKind}(a:ρ x=.int k p)(b:ρ y=.int k q):(execOp ρ ⟨d,.binOp .eql T x y T2,ty,pos,af,g⟩).run P w=.ok (.value (.bool (decide (p=q)))) w:=by
 simp[execOp,a,b,eqGuard,binOp,Op.intCmp];rfl
theorem zU{x y:Operand}{T T2:TypeId}{p q:Int}{k:IntKind}(a:ρ x=.int k p)(b:ρ y=.int k q):(execOp ρ ⟨d,.binOp .neq T x y T2,ty,pos,af,g⟩).run P w=.ok (.value (.bool (decide (p≠q)))) w:=by
 simp[execOp,a,b,eqGuard,binOp,Op.intCmp];rfl
theorem J8{x y:Operand}{T T2:TypeId}{p q:Int}(a:ρ x=.int .i64 p)(b:ρ y=.int .i64 q)(h: -9223372036854775808<=p+q/\p+q<=9223372036854775807):
  (execOp ρ ⟨d,.binOp .add T x y T2,ty,pos,af,g⟩).run P w=.ok (.value (.int .i64 (p+q))) w:=by
 simp[execOp,a,b,eqGuard,binOp,Op.intArith,wrap_in h.1 h.2]
theorem l7{x y:Operand}{T T2:TypeId}{p q:Int}(a:ρ x=.int .i64 p)(b:ρ y=.int .i64 q)(h: -9223372036854775808<=p-q/\p-q<=9223372036854775807):
  (execOp ρ ⟨d,.binOp .sub T x y T2,ty,pos,af,g⟩).run P w=.ok (.value (.int .i64 (p-q))) w:=by
 simp[execOp,a,b,eqGuard,binOp,Op.intArith,wrap_in h.1 h.2]
theorem mH{x:Operand}{T E:TypeId}{e:Nat}{a:Option Addr}{l c:Nat}(f:SliceOf P T E e)(b:ρ x=.slice a l c):
  (execOp ρ ⟨d,.call {callee:=.builtin .len,args:= #[x],argTypes:= #[T]},ty,pos,af,g⟩).run P w=.ok (.value (.int .i64 l)) w:=by
 simp[execOp,resolve,invoke,builtin,Builtin.len_,b,underlying,f.desc,goInt]
theorem r_load1{x:Operand}{T:TypeId}{z v:Value}{b o:Nat}{cs:Array Value}{E:TypeId}{f:Nat×Nat}(h:One P T z)(i:ρ x=.pointer (some ⟨b,o,none⟩))(c:w.heap[b]? =some (.cells cs E f))(a:cs[o]? =some v):
  (execOp ρ ⟨d,.load T x,ty,pos,af,g⟩).run P w=.ok (.value v) w:=by
 obtain⟨e,j,k⟩:=h.desc;have l:w.cell? ⟨b,o,none⟩=some v:=by simp[World.cell?,c,a]
 cases e<;>simp_all[execOp,Instr.loadAt,Instr.sureAddr,loadVar,isAgg,underlying]
end
open Go.RowKit
abbrev BS:=Nat->Prop
abbrev BE:BS:=fun _=>False
structure bJ(K:BS)(w w':World):Prop where
 os:w'.os=w.os
 tape:w'.tape=w.tape
 output:w'.output=w.output
 size:w.heap.size<=w'.heap.size
 block:∀b,¬K b->b<w.heap.size->w'.heap[b]? =w.heap[b]?
abbrev Grow(w w':World):Prop:=bJ BE w w'
theorem bJ.refl(K:BS)(w:World):bJ K w w:=⟨rfl,rfl,rfl,Nat.le_refl _,fun _ _ _=>rfl⟩
theorem bJ.step{K N:BS}{a b c:World}(h:bJ K a b)(k:bJ N b c)(hN:∀x,N x->x<a.heap.size->K x):bJ K a c:=
 ⟨k.os.trans h.os,k.tape.trans h.tape,k.output.trans h.output,Nat.le_trans h.size k.size,fun i e d=>(k.block i (fun hn=>e (hN i hn d)) (Nat.lt_of_lt_of_le d h.size)).trans (h.block i e d)⟩
theorem bJ.grow{K:BS}{a b c:World}(h:bJ K a b)(k:Grow b c):bJ K a c:=h.step k (fun _ h=>h.elim)
theorem bJ.weaken{K N:BS}{a b:World}(h:bJ K a b)(d:∀x,K x->x<a.heap.size->N x):bJ N a b:=⟨h.os,h.tape,h.output,h.size,fun i e c=>h.block i (fun hn=>e (d i hn c)) c⟩
theorem Grow.keep{K:BS}{a b:World}(h:Grow a b):bJ K a b:=h.weaken (fun _ h=>h.elim)
theorem iK{w:World}{b:Nat}{o:Obj}(a:w.heap[b]? =some o):b<w.heap.size:=by
  rcases Nat.lt_or_ge b w.heap.size with h1|h1
  · exact h1
  · rw[Array.getElem?_eq_none h1]at a;cases a
theorem bJ.blk{K:BS}{w w':World}(h:bJ K w w'){b:Nat}{o:Obj}(a:w.heap[b]? =some o)(c:¬K b):w'.heap[b]? =some o:=by
 rw[h.block b c (iK a),a]
theorem Grow.blk{w w':World}(h:Grow w w'){b:Nat}{o:Obj}(a:w.heap[b]? =some o):w'.heap[b]? =some o:=bJ.blk h a (fun h=>h)
theorem Grow.below{w w':World}(h:Grow w w'):Below w.heap.size w w':=⟨h.os,h.tape,h.output,h.size,fun k a=>h.block k (fun h=>h) a⟩
theorem Grow.of_below{w w':World}(h:Below w.heap.size w w'):Grow w w':=⟨h.os,h.tape,h.output,h.size,fun k _ a=>h.block k a⟩
theorem Grow.alloc(w:World)(o:Obj):Grow w (w.alloc o):=Grow.of_below ((Below.refl _ _).alloc (Nat.le_refl _) o)
theorem Ow(w:World)(o:Obj):(w.alloc o).heap[w.heap.size]? =some o:=by show(w.heap.push o)[w.heap.size]? =some o;simp
theorem alloc_size(w:World)(o:Obj):(w.alloc o).heap.size=w.heap.size+1:=by show(w.heap.push o).size=_;simp
theorem Grow.drew(w:World):Grow w w.drew:=⟨rfl,rfl,rfl,Nat.le_refl _,fun _ _ _=>rfl⟩
theorem Grow.trans{a b c:World}(h:Grow a b)(k:Grow b c):Grow a c:=h.grow k
structure kW(α:Type)where
 sz:Nat
 rd:World->BS->List Value->α->Prop
 len:∀{w A cs x},rd w A cs x->cs.length=sz
 one:∀{w A cs x},rd w A cs x->∀u∈cs,u.oneCell'=true
 pos:0<sz
 go:∀{w A cs x w' A' K},rd w A cs x->bJ K w w'->(∀b,K b->b<w.heap.size->A b)->(∀b,A' b->b<w.heap.size->A b)->rd w' A' cs x
def ed{α:Type}(R:kW α)(w:World)(B A:BS)(v:Value)(l:List α):Prop:=
 ∃a cap,v=.slice a l.length cap/\l.length<=cap/\cap<=maxLen/\(a=none->cap=0)/\
  ∀i (h:i<l.length),∃b o cells E c,a=some ⟨b,o,none⟩/\¬B b/\w.heap[b]? =some (.cells cells E c)/\R.rd w A ((cells.toList.drop (o+i*R.sz)).take R.sz) l[i]
abbrev df{α:Type}(R:kW α)(w:World)(A:BS)(v:Value)(l:List α):Prop:=ed R w A A v l
theorem ed.go{α:Type}{R:kW α}{w w':World}{B e A A' K:BS}{v:Value}{l:List α}(h:ed R w B A v l)(g:bJ K w w')(d:∀b,K b->b<w.heap.size->B b)(q:∀b,K b->b<w.heap.size->A b)(x:∀b,e b->b<w.heap.size->B b)(m:∀b,A' b->b<w.heap.size->A b):ed R w' e A' v l:=by
 obtain⟨a,cap,rfl,k,r,j,p⟩:=h;refine⟨a,cap,Z,k,r,j,fun i u=>?_⟩;obtain⟨b,o,cells,E,n,t,f,c,s⟩:=p i u;exact⟨b,o,cells,E,n,t,fun h=>f<|x b h<|iK c,g.blk c fun h=>f<|d b h<|iK c,R.go s g q m⟩
theorem ed.sub{α:Type}{R:kW α}{w:World}{B a A A':BS}{v:Value}{l:List α}(h:ed R w B A v l)(d:∀b,a b->b<w.heap.size->B b)(c:∀b,A' b->b<w.heap.size->A b):ed R w a A' v l:=
 h.go (bJ.refl BE w) (fun _ h=>h.elim) (fun _ h=>h.elim) d c
theorem ed.src{α:Type}{R:kW α}{w:World}{B A:BS}{v:Value}{l:List α}(h:ed R w B A v l):ed R w BE A v l:=h.sub (fun _ h=>h.elim) (fun _ h _=>h)
theorem df.go{α:Type}{R:kW α}{w w':World}{A A' K:BS}{v:Value}{l:List α}(h:df R w A v l)(d:bJ K w w')(c:∀b,K b->b<w.heap.size->A b)(a:∀b,A' b->b<w.heap.size->A b):df R w' A' v l:=
 ed.go h d c c a a
theorem ed.one{α:Type}{R:kW α}{w:World}{B A:BS}{v:Value}{l:List α}(h:ed R w B A v l):v.oneCell'=true:=by
 obtain⟨a,cap,rfl,_⟩:=h;rfl
theorem ed.nil{α:Type}{R:kW α}{w:World}{B A:BS}:ed R w B A (.slice none 0 0) ([]:List α):=⟨none,0,rfl,Nat.le_refl _,by unfold maxLen;omega,fun _=>rfl,fun i a=>absurd a (Nat.not_lt_zero _)⟩
theorem ed.bD{α:Type}{R:kW α}{w:World}{B A:BS}{v:Value}{l:List α}(h:ed R w B A v l):l.length<=9223372036854775807:=by
 obtain⟨a,cap,_,c,b,_⟩:=h;unfold maxLen at b;omega
def tu{α:Type}(R:kW α):kW (List α) where
 sz:=1
 rd w A cs l:=∃v,cs=[v]/\df R w A v l
 len:=by rintro w A cs x ⟨v,rfl,_⟩;rfl
 one:=by
  rintro w A cs x⟨v,rfl,h⟩u hu;simp at hu;subst hu;exact h.one
 pos:=by decide
 go:=by
  rintro w A cs x w' A' K⟨v,rfl,h⟩hk hK hA;exact⟨v,Z,h.go hk hK hA⟩
def bY:kW Int where
 sz:=1
 rd _ _ cs x:=cs=[.int .i64 x]
 len:=by rintro w A cs x rfl;rfl
 one:=by rintro w A cs x rfl u hu;simp at hu;subst hu;rfl
 pos:=by decide
 go:=fun h _ _ _=>h
def rBool:kW Bool where
 sz:=1
 rd _ _ cs x:=cs=[.bool x]
 len:=by rintro w A cs x rfl;rfl
 one:=by rintro w A cs x rfl u hu;simp at hu;subst hu;rfl
 pos:=by decide
 go:=fun h _ _ _=>h
abbrev Str:=List UInt8
def bC(s:Str):Value:=.string ⟨s.toArray⟩
def um:kW Str where
 sz:=1
 rd _ _ cs x:=cs=[bC x]
 len:=by rintro w A cs x rfl;rfl
 one:=by rintro w A cs x rfl u hu;simp at hu;subst hu;rfl
 pos:=by decide
 go:=fun h _ _ _=>h
def ob:Value->Nat->Prop| .slice (some a) _ _=>fun b=>b=a.block|_=>fun _=>False
theorem ob_row{v:Value}{k:Nat}:ob v k↔v.ownBlock=some k:=by
 cases v with
 |slice a l c=>cases a with
  |none=>simp[ob,Value.ownBlock]
  |some a=>simp[ob,Value.ownBlock];exact eq_comm
 |_=>simp[ob,Value.ownBlock]
def bZ{α:Type}(R:kW α)(E:TypeId)(w:World)(A:BS)(v:Value)(l:List α):Prop:=
 ∃xs,w.ownsRow 0 E R.sz v l.length xs/\∀i (h:i<l.length),R.rd w (fun b=>A b\/ob v b) ((xs.drop (i*R.sz)).take R.sz) l[i]
theorem bZ.nil{α:Type}{R:kW α}{E:TypeId}{w:World}{A:BS}:bZ R E w A (.slice none 0 0) ([]:List α):=
 ⟨[],World.ownsRow_nil _ _ _ _,fun i h=>absurd h (Nat.not_lt_zero _)⟩
theorem bZ.lt{α:Type}{R:kW α}{E:TypeId}{w:World}{A:BS}{v:Value}{l:List α}(h:bZ R E w A v l):∀k,ob v k->k<w.heap.size:=by
 obtain⟨xs,a,_⟩:=h;intro k b;exact(a.lt k<|ob_row.1 b).2
theorem bZ.go{α:Type}{R:kW α}{E:TypeId}{w w':World}{A A' K:BS}{v:Value}{l:List α}(h:bZ R E w A v l)(e:bJ K w w')(m:∀b,K b->b<w.heap.size->A b)(d:∀b,K b->¬ob v b)(k:∀b,A' b->b<w.heap.size->A b\/ob v b):bZ R E w' A' v l:=by
  obtain⟨xs,c,j⟩:=h;refine⟨xs,?_,fun i o=>R.go (j i o) e (fun b c n=>.inl<|m b c n) fun b a f=>?_⟩
  · refine⟨c.1,?_⟩;rcases c.2 with h|⟨g,cap,cur,rfl,e1,e2,e3⟩
    · exact .inl h
    · exact .inr ⟨g,cap,cur,Z,e1,e.blk e2 (fun h=>d g h (by simp[ob])),e3⟩
  · rcases a with a|a
    · exact k b a f
    · exact .inr a
theorem bZ.one{α:Type}{R:kW α}{E:TypeId}{w:World}{A:BS}{v:Value}{l:List α}(h:bZ R E w A v l):v.oneCell'=true:=by
 obtain⟨xs,a,_⟩:=h;rcases a.2 with⟨rfl,_⟩|⟨g,cap,cur,rfl,_⟩<;>rfl
theorem bZ.rd{α:Type}{R:kW α}{E:TypeId}{w:World}{A A':BS}{v:Value}{l:List α}(h:bZ R E w A v l)(d:∀b,ob v b->¬A' b)(c:∀b,A' b->b<w.heap.size->A b\/ob v b):df R w A' v l:=by
  obtain⟨xs,f,e⟩:=h;rcases f.2 with⟨rfl,hn⟩|⟨g,cap,cur,rfl,e1,e2,e3,e4,e5,e6⟩
  · have:l=[]:=List.eq_nil_of_length_eq_zero hn;subst this;exact ed.nil
  · refine⟨some ⟨g,0,none⟩,cap,Z,e3,e4,(fun h=>by cases h),fun i a=>⟨g,0,cur,E,(0,0),Z,d g (by simp[ob]),e2,?_⟩⟩;have:=R.go (A':=A') (e i a) (bJ.refl BE w) (fun _ h=>h.elim) c;rw[<-e6,List.drop_take,List.take_take,Nat.min_eq_left ?_]at this
    · rw[Nat.zero_add];exact this
    · have:(i+1)*R.sz<=l.length*R.sz:=Nat.mul_le_mul_right _ a;rw[Nat.add_mul]at this;omega
def Ll(b:Array MapEntry)(a:Nat):Prop:=(∀e∈b.toList,e.born<a)/\(b.toList.map (·.born)).Nodup
def I9(w:World)(b:Nat)(j3:List (Int×Value)):Prop:=
 ∃c a,w.heap[b]? =some (.map c a)/\c.toList.map (fun e=>(e.key,e.val))=j3.map (fun p=>(Value.int .i64 p.1,p.2))/\Ll c a
structure Pce where
 own:BS
 P:World->BS->Prop
 lt:∀{w A b},P w A->own b->b<w.heap.size
 go:∀{w w' A A' K},P w A->bJ K w w'->(∀b,K b->b<w.heap.size->A b)->(∀b,K b->¬own b)->(∀b,A' b->b<w.heap.size->A b\/own b)->P w' A'
inductive Chunk:Type 1 where
 |no
 |rd {α:Type} (R:kW α) (v:Value) (l:List α)
 |sr {α:Type} (R:kW α) (v:Value) (l:List α)
 |pt (b o:Nat) (cs:List Value)
 |blk (b:Nat) (cs:List Value)
 |own {α:Type} (R:kW α) (E:TypeId) (v:Value) (l:List α)
 |mp (b:Nat) (j3:List (Int×Value))
 |rp {α:Type} (R:kW α) (v:Value) (x:α)
 |two (a b:Chunk)
 |eX (S:Pce)
def Chunk.own':Chunk->BS
 | .blk b _=>fun x=>x=b
 | .own _ _ v _=>ob v
 | .mp b _=>fun x=>x=b
 | .two a b=>fun x=>a.own' x\/b.own' x
 | .eX S=>S.own
 |_=>BE
def Chunk.holds(w:World)(M O:BS):Chunk->Prop
 | .no=>True
 | .rd R v l=>df R w (fun b=>M b\/O b) v l
 | .sr R v l=>ed R w O (fun b=>M b\/O b) v l
 | .pt b o cs=>¬O b/\∃cells E c,w.heap[b]? =some (.cells cells E c)/\(cells.toList.drop o).take cs.length=cs
 | .blk b cs=>∃E,w.heap[b]? =some (.cells cs.toArray E (0,0))
 | .own R E v l=>bZ R E w (fun b=>M b\/O b) v l
 | .mp b j3=>I9 w b j3
 | .rp R v x=>R.rd w (fun b=>M b\/O b) [v] x
 | .two a b=>a.holds w M O/\b.holds w M O/\∀x,a.own' x->¬b.own' x
 | .eX S=>S.P w (fun b=>M b\/O b)
theorem Chunk.go{c:Chunk}{w w':World}{M O k N:BS}(h:c.holds w M O)(g:bJ N w w')(hN:∀b,N b->b<w.heap.size->O b)(f:∀b,N b->¬c.own' b)(j:∀b,k b->b<w.heap.size->M b\/O b)(i:∀b,k b->b<w.heap.size->O b):c.holds w' M k:=by
 induction c with
 |no=>trivial
 |rd R v l=>exact df.go h g (fun b d e=>.inr (hN b d e)) (fun b d e=>d.elim .inl (fun d=>j b d e))
 |sr R v l=>exact ed.go h g hN (fun b d e=>.inr (hN b d e)) i (fun b d e=>d.elim .inl (fun d=>j b d e))
 |pt b o cs=>
  obtain⟨p,cells,E,t,n,q⟩:=h;exact⟨fun h=>p<|i b h<|iK n,cells,E,t,g.blk n fun h=>p<|hN b h<|iK n,q⟩
 |blk b cs=>
  obtain⟨E,h⟩:=h;exact⟨E,g.blk h fun d=>f b d Z⟩
 |own R E v l=>exact bZ.go h g (fun b d e=>.inr (hN b d e)) f (fun b d e=>.inl (d.elim .inl (fun d=>j b d e)))
 |rp R v x=>exact R.go h g (fun b d e=>.inr (hN b d e)) (fun b d e=>d.elim .inl (fun d=>j b d e))
 |two a b iha ihb=>exact⟨iha h.1 (fun x m r=>f x m (.inl r)),ihb h.2.1 (fun x m d=>f x m (.inr d)),h.2.2⟩
 |eX S=>exact S.go h g (fun b d e=>.inr (hN b d e)) f (fun b d e=>.inl (d.elim .inl (fun d=>j b d e)))
 |mp b j3=>
  obtain⟨s,c,h,u⟩:=h;exact⟨s,c,g.blk h fun d=>f b d Z,u⟩
theorem Chunk.sub{c:Chunk}{w:World}{M O a:BS}(h:c.holds w M O)(d:∀b,a b->b<w.heap.size->O b):c.holds w M a:=
 Chunk.go h (bJ.refl BE w) (fun _ h=>h.elim) (fun _ h=>h.elim) (fun b f e=>.inr (d b f e)) d
theorem Chunk.lt{c:Chunk}{w:World}{M O:BS}(h:c.holds w M O):∀b,c.own' b->b<w.heap.size:=by
 intro b d;induction c with
 |no=>exact d.elim
 |rd=>exact d.elim
 |sr=>exact d.elim
 |pt=>exact d.elim
 |blk b' cs=>
  cases d;exact iK h.choose_spec
 |own R E v l=>exact bZ.lt h b d
 |rp=>exact d.elim
 |two a c iha ihc=>exact d.elim (fun d=>iha h.1 d) (fun d=>ihc h.2.1 d)
 |eX S=>exact S.lt h d
 |mp b' j3=>
  cases d;obtain⟨_,_,h,_⟩:=h;exact iK h
def bX(hp:Nat->Chunk)(i:Nat)(c:Chunk):Nat->Chunk:=fun j=>bif Nat.beq j i then c else hp j
theorem dn(hp:Nat->Chunk)(i:Nat)(c:Chunk):bX hp i c i=c:=by simp[bX,Nat.beq_refl]
theorem fA{hp:Nat->Chunk}{i j:Nat}{c:Chunk}(h:j≠i):bX hp i c j=hp j:=by
 have:Nat.beq j i=false:=by rw[Bool.eq_false_iff];intro e;exact h (Nat.eq_of_beq_eq_true e)
 simp[bX,this]
def hno:Nat->Chunk:=fun _=>.no
def iL(hp:Nat->Chunk):BS:=fun b=>∃j,(hp j).own' b
structure SH(w0:World)(M K:BS)(w:World)(hp:Nat->Chunk):Prop where
 keep:bJ K w0 w
 ltM:∀b,M b->b<w0.heap.size
 apM:∀i b,(hp i).own' b->¬M b
 ok:∀i,(hp i).holds w M (iL hp)
 apart:∀i j,i≠j->∀b,(hp i).own' b->¬(hp j).own' b
 old:∀i b,(hp i).own' b->b<w0.heap.size->K b
section
variable{w0 w w':World}{M K:BS}{hp:Nat->Chunk}{i:Nat}{c:Chunk}
def rest(hp:Nat->Chunk)(i:Nat):BS:=fun b=>∃j,j≠i/\(hp j).own' b
theorem lh{hp:Nat->Chunk}{i b:Nat}(h:rest hp i b):iL hp b:=let ⟨j,_,h⟩:=h;⟨j,h⟩
abbrev SH.av(hp:Nat->Chunk)(i:Nat)(c:Chunk):BS:=fun b=>rest hp i b\/c.own' b
theorem SH.step{N:BS}(h:SH w0 M K w hp)(i:Nat)(s:bJ N w w')(hN:∀b,N b->b<w.heap.size->(hp i).own' b)
    (ho:∀b,c.own' b->b<w.heap.size->(hp i).own' b) (u:c.holds w' M (SH.av hp i c)):SH w0 M K w' (bX hp i c):=by
  have t:∀b,M b->b<w.heap.size:=fun b a=>Nat.lt_of_lt_of_le (h.ltM b a) h.keep.size;have m:∀b,iL (bX hp i c) b->rest hp i b\/c.own' b:=by
    rintro b⟨j,o⟩;by_cases e:j=i
    · subst e;rw[dn]at o;exact .inr o
    · rw[fA e]at o;exact .inl ⟨j,e,o⟩
  have g:∀b,iL (bX hp i c) b->b<w.heap.size->iL hp b:=fun b a f=>(m b a).elim lh fun h=>⟨i,ho b h f⟩;refine⟨?_,h.ltM,?_,?_,?_,?_⟩
  · exact h.keep.step s (fun x q f=>by
      have n:=Nat.lt_of_lt_of_le f h.keep.size;exact h.old i x (hN x q n) f)
  · intro j b a;by_cases e:j=i
    · subst e;rw[dn]at a;intro r;exact h.apM j b (ho b a<|t b r) r
    · rw[fA e]at a;exact h.apM j b a
  · intro j;by_cases e:j=i
    · subst e;rw[dn];exact Chunk.sub u fun b a _=>m b a
    · rw[fA e];have f:=h.ok j;refine Chunk.go f (s.weaken (N:=fun b=>N b/\b<w.heap.size) fun b a f=>⟨a,f⟩) ?_ ?_ ?_ ?_
      · intro b a n;exact⟨i,hN b a.1 n⟩
      · intro b a o;exact h.apart j i e b o<|hN b a.1 a.2
      · exact fun b a f=>.inr<|g b a f
      · exact g
  · intro j k l b a d;have lt:∀x,x≠i->(hp x).own' b->b<w.heap.size:=fun x _ q=>Chunk.lt (h.ok x) b q;by_cases e:j=i
    · subst e;have p:k≠j:=fun e=>l e.symm;rw[dn]at a;rw[fA p]at d;exact h.apart j k l b (ho b a<|lt k p d) d
    · rw[fA e]at a;by_cases p:k=i
      · subst p;rw[dn]at d;exact h.apart j k l b a<|ho b d<|lt j e a
      · rw[fA p]at d;exact h.apart j k l b a d
  · intro j b a f;by_cases e:j=i
    · subst e;rw[dn]at a;exact h.old j b (ho b a<|Nat.lt_of_lt_of_le f h.keep.size) f
    · rw[fA e]at a;exact h.old j b a f
abbrev SH.A(M:BS)(hp:Nat->Chunk):BS:=fun b=>M b\/iL hp b
theorem SH.lt(h:SH w0 M K w hp):∀b,SH.A M hp b->b<w.heap.size:=by
  rintro b(a|⟨j,a⟩)
  · exact Nat.lt_of_lt_of_le (h.ltM b a) h.keep.size
  · exact Chunk.lt (h.ok j) b a
theorem SH.learn(h:SH w0 M K w hp)(i:Nat)(d:Grow w w')(ho:∀b,c.own' b->w.heap.size<=b)(e:c.holds w' M (fun b=>iL hp b\/c.own' b)):SH w0 M K w' (bX hp i c):=
 h.step i d (fun _ h=>h.elim) (fun b a f=>absurd (ho b a) V) (Chunk.sub e (fun b a _=>a.imp lh id))
theorem SH.grow(h:SH w0 M K w hp)(c:Grow w w'):SH w0 M K w' hp:=
 ⟨h.keep.grow c,h.ltM,h.apM,fun i=>Chunk.go (h.ok i) c (fun _ h=>h.elim) (fun _ h=>h.elim) (fun b a _=>.inr a) (fun b a _=>a),h.apart,h.old⟩
theorem SH.know(h:SH w0 M K w hp)(i:Nat)(ho:∀b,¬c.own' b)(d:c.holds w M (iL hp)):SH w0 M K w (bX hp i c):=
 h.learn i (bJ.refl BE w) (fun b a=>absurd a (ho b)) (Chunk.sub d (fun b a _=>a.elim id (fun a=>absurd a (ho b))))
theorem SH.freeze{α:Type}{R:kW α}{E:TypeId}{v:Value}{l:List α}(h:SH w0 M K w hp)(i:Nat)(f:hp i=.own R E v l):SH w0 M K w (bX hp i (.rd R v l)):=by
  refine h.step i (bJ.refl BE w) (fun _ h=>h.elim) (fun b a=>a.elim) ?_;have e:=h.ok i;rw[f]at e;refine bZ.rd e (fun b a c=>?_) fun b a e=>?_
  · have d:(hp i).own' b:=by rw[f];exact a
    rcases c with c|⟨j,hj,c⟩|c
    · exact h.apM i b d c
    · exact h.apart j i hj b c d
    · exact c
  · rcases a with a|a|a
    · exact .inl<|.inl a
    · exact .inl<|.inr<|lh a
    · exact a.elim
def hset:List (Nat×Chunk)->Nat->Chunk
 |[]=>hno
 |(i,c)::r=>bX (hset r) i c
def HoldsC(hp:Nat->Chunk):List (Nat×Chunk)->Prop
 |[]=>True
 |(i,c)::r=>hp i=c/\HoldsC hp r
theorem hset_is{hp:Nat->Chunk}:∀{l:List (Nat×Chunk)},HoldsC hp l->∀j,hset l j=hp j\/hset l j=.no
  |[],_,_=>.inr Z
  |(i,c)::r,h,j=>by
    by_cases e:j=i
    · subst e;left;show bX _ _ _ _=_;rw[dn];exact h.1.symm
    · show bX _ _ _ _=_\/bX _ _ _ _=_;rw[fA e];exact hset_is h.2 j
theorem SH.canon(h:SH w0 M K w hp)(l:List (Nat×Chunk))(g:HoldsC hp l):SH w0 M K w (hset l):=by
  have c:=hset_is g;have own:∀j b,(hset l j).own' b->(hp j).own' b:=by
    intro j b a;rcases c j with e|e
    · rw[e]at a;exact a
    · rw[e]at a;exact a.elim
  refine⟨h.keep,h.ltM,fun i b a=>h.apM i b<|own i b a,fun i=>?_,fun i j d b a f=>h.apart i j d b (own i b a)<|own j b f,fun i b a=>h.old i b<|own i b a⟩;rcases c i with e|e
  · rw[e];exact Chunk.sub (h.ok i) fun b⟨j,k⟩_=>⟨j,own j b k⟩
  · rw[e];trivial
theorem SH.init{w:World}{M:BS}(a:∀b,M b->b<w.heap.size):SH w M BE w hno:=
 ⟨bJ.refl _ _,a,fun _ _ h=>h.elim,fun _=>trivial,fun _ _ _ _ h=>h.elim,fun _ _ h=>h.elim⟩
theorem SH.tH{α:Type}{R:kW α}{E:TypeId}{v:Value}{l:List α}(h:SH w0 M K w hp)(i:Nat)(c:Grow w w')(ho:bZ R E w' (SH.A M hp) v l)(d:∀b,ob v b->w.heap.size<=b):SH w0 M K w' (bX hp i (.own R E v l)):=
 h.learn i c d (bZ.go ho (bJ.refl BE w') (fun _ h=>h.elim) (fun _ h=>h.elim) (fun b a _=>a.elim (fun h=>.inl (.inl h)) (fun h=>h.elim (fun h=>.inl (.inr h)) .inr)))
theorem SH.Ca{α:Type}{R:kW α}{v:Value}{l:List α}(h:SH w0 M K w hp)(i:Nat)(c:Grow w w')(ho:df R w' (SH.A M hp) v l):SH w0 M K w' (bX hp i (.rd R v l)):=
 h.learn i c (fun _ h=>h.elim) (df.go ho (bJ.refl BE w') (fun _ h=>h.elim) (fun b a _=>a.elim .inl (fun h=>h.elim .inr (fun h=>h.elim))))
theorem SH.aJ{α:Type}{R:kW α}{v:Value}{l:List α}(h:SH w0 M K w hp)(i:Nat)(ho:df R w (SH.A M hp) v l):SH w0 M K w (bX hp i (.rd R v l)):=h.Ca i (bJ.refl BE w) ho
theorem SH.G9{α:Type}{R:kW α}{v:Value}{l:List α}(h:SH w0 M K w hp)(i:Nat)(ho:df R w M v l)(hn:∀b,¬iL hp b):SH w0 M K w (bX hp i (.rd R v l)):=
 h.aJ i (ho.go (bJ.refl BE w) (fun _ h=>h.elim) (fun b a _=>a.elim id (fun h=>absurd h (hn b))))
theorem SH.dA{α:Type}{R:kW α}{v:Value}{l:List α}(h:SH w0 M K w hp)(i:Nat)(ho:ed R w BE M v l)(hn:∀b,¬iL hp b):SH w0 M K w (bX hp i (.sr R v l)):=
 h.know i (fun _ h=>h) (ho.sub (fun b a _=>absurd a (hn b)) (fun b a _=>a.elim id (fun h=>absurd h (hn b))))
theorem SH.bH{α:Type}{R:kW α}{v:Value}{l:List α}(h:SH w0 M K w hp)(i:Nat)(a:hp i=.rd R v l):df R w (SH.A M hp) v l:=by
 have:=h.ok i;rw[a]at this;exact this
theorem SH.srAt{α:Type}{R:kW α}{v:Value}{l:List α}(h:SH w0 M K w hp)(i:Nat)(a:hp i=.sr R v l):ed R w (iL hp) (SH.A M hp) v l:=by
 have:=h.ok i;rw[a]at this;exact this
theorem SH.bG{α:Type}{R:kW α}{E:TypeId}{v:Value}{l:List α}(h:SH w0 M K w hp)(i:Nat)(a:hp i=.own R E v l):bZ R E w (SH.A M hp) v l:=by
 have:=h.ok i;rw[a]at this;exact this
theorem SH.zV{b:Nat}{cs:List Value}(h:SH w0 M K w hp)(i:Nat)(a:hp i=.blk b cs):∃E,w.heap[b]? =some (.cells cs.toArray E (0,0)):=by
 have:=h.ok i;rw[a]at this;exact this
theorem SH.ptAt{b o:Nat}{cs:List Value}(h:SH w0 M K w hp)(i:Nat)(c:hp i=.pt b o cs):∃cells E a,w.heap[b]? =some (.cells cells E a)/\(cells.toList.drop o).take cs.length=cs:=by
 have:=h.ok i;rw[c]at this;exact this.2
theorem SH.mpAt{b:Nat}{a:List (Int×Value)}(h:SH w0 M K w hp)(i:Nat)(c:hp i=.mp b a):I9 w b a:=by
 have:=h.ok i;rw[c]at this;exact this
theorem SH.grown(h:SH w0 M BE w hp):Grow w0 w:=h.keep
theorem SH.fresh(h:SH w0 M BE w hp)(i:Nat):∀b,(hp i).own' b->w0.heap.size<=b:=fun b c=>Nat.le_of_not_lt (fun a=>h.old i b c a)
theorem SH.kK{α:Type}{R:kW α}{v:Value}{l:List α}(h:SH w0 M K w hp)(i:Nat)(a:hp i=.rd R v l):ed R w BE (SH.A M hp) v l:=(h.bH i a).src
theorem SH.fJ{α:Type}{R:kW α}{v:Value}{l:List α}(h:SH w0 M K w hp)(i:Nat)(a:hp i=.sr R v l):ed R w BE (SH.A M hp) v l:=(h.srAt i a).src
theorem bZ.src{α:Type}{R:kW α}{E:TypeId}{w:World}{A:BS}{v:Value}{l:List α}(h:bZ R E w A v l):ed R w BE A v l:=by
  obtain⟨xs,e,d⟩:=h;rcases e.2 with⟨rfl,hn⟩|⟨g,cap,cur,rfl,e1,e2,e3,e4,e5,e6⟩
  · have:l=[]:=List.eq_nil_of_length_eq_zero hn;subst this;exact ed.nil
  · refine⟨some ⟨g,0,none⟩,cap,Z,e3,e4,(fun h=>by cases h),fun i a=>⟨g,0,cur,E,(0,0),Z,fun h=>h,e2,?_⟩⟩;have:=R.go (A':=A) (d i a) (bJ.refl BE w) (fun _ h=>h.elim) fun b c _=>.inl c;rw[<-e6,List.drop_take,List.take_take,Nat.min_eq_left ?_]at this
    · rw[Nat.zero_add];exact this
    · have:(i+1)*R.sz<=l.length*R.sz:=Nat.mul_le_mul_right _ a;rw[Nat.add_mul]at this;omega
theorem SH.dM{α:Type}{R:kW α}{E:TypeId}{v:Value}{l:List α}(h:SH w0 M K w hp)(i:Nat)(a:hp i=.own R E v l):ed R w BE (SH.A M hp) v l:=(h.bG i a).src
theorem aO:∀b,¬iL hno b:=fun _⟨_,h⟩=>h
theorem wC{α:Type}{R:kW α}{v:Value}{l:List α}{i:Nat}(h:∀b,¬iL hp b):∀b,¬iL (bX hp i (.rd R v l)) b:=by
  rintro b⟨j,a⟩;by_cases e:j=i
  · subst e;rw[dn]at a;exact a
  · rw[fA e]at a;exact h b ⟨j,a⟩
theorem aQ{α:Type}{R:kW α}{v:Value}{l:List α}{i:Nat}(h:∀b,¬iL hp b):∀b,¬iL (bX hp i (.sr R v l)) b:=by
  rintro b⟨j,a⟩;by_cases e:j=i
  · subst e;rw[dn]at a;exact a
  · rw[fA e]at a;exact h b ⟨j,a⟩
end
open Go.RowKit
def gv(c:Bool)(v:Value):Value:=(bif c then [v]else []).headD undef
theorem eH{c:Bool}{v:Value}(h:c=true):gv c v=v:=by rw[h];rfl
theorem gl{a b:Bool}(h:(a&&b)=true):a=true:=by cases a<;>simp_all
theorem gr{a b:Bool}(h:(a&&b)=true):b=true:=by cases a<;>simp_all
structure ko(P:Program)(T E:TypeId)(sz bytes:Nat):Prop where
 desc:P.underlying T=some (.slice E)
 info:∃i z,P.info? E=some i/\i.zero=some z/\i.size=sz/\i.bytes=bytes/\z.cells.size=sz
theorem Ro{P:Program}{T:TypeId}{z:Option Value}{s:Nat}(h:(P.info? T).map (fun i=>(i.zero,i.size))=some (z,s)):∃i,P.info? T=some i/\i.zero=z/\i.size=s:=by
 cases hi:P.info? T with
 |none=>simp[hi]at h
 |some i=>simp[hi]at h;exact⟨i,Z,h.1,h.2⟩
def wz(w:World)(b:Nat)(o:Obj):World:={w with heap:=w.heap.setIfInBounds b o}
theorem vw{w:World}{b:Nat}{o:Obj}(h:b<w.heap.size):(wz w b o).heap[b]? =some o:=by simp[wz,h]
theorem bJ.wz(w:World)(b:Nat)(o:Obj):bJ (fun x=>x=b) w (wz w b o):=
 ⟨rfl,rfl,rfl,by simp[LX.wz],fun k a _=>by
  have:b≠k:=fun e=>a (by simp[e]);show(w.heap.setIfInBounds b o)[k]? =_;rw[Array.getElem?_setIfInBounds_ne this]⟩
theorem setCell_putb{w:World}{b o:Nat}{cs:Array Value}{E:TypeId}{d:Nat×Nat}{v:Value}(c:w.heap[b]? =some (.cells cs E d)):w.setCell ⟨b,o,none⟩ v=wz w b (.cells (cs.setIfInBounds o v) E d):=by
  simp only[World.setCell,wz];congr 1;have a:=iK c;apply Array.ext_getElem?;intro i;simp only[Array.getElem?_modify,Array.getElem?_setIfInBounds];by_cases e:b=i
  · subst e;rw[if_pos rfl,if_pos rfl,if_pos a,c];rfl
  · simp[e]
theorem Ja{w:World}{b:Nat}{cs a:Array Value}{E:TypeId}{d:Nat×Nat}(f:w.heap[b]? =some (.cells cs E d)):w.setRow b a=wz w b (.cells a E d):=by
  simp only[World.setRow,wz];congr 1;have c:=iK f;apply Array.ext_getElem?;intro i;simp only[Array.getElem?_modify,Array.getElem?_setIfInBounds];by_cases e:b=i
  · subst e;rw[if_pos rfl,if_pos rfl,if_pos c,f];rfl
  · simp[e]
def Lh(cs:List Value)(o:Nat)(vs:List Value):List Value:=cs.take o++vs++cs.drop (o+vs.length)
def At(w:World)(b o:Nat)(cs:List Value):Prop:=∃cells E a,w.heap[b]? =some (.cells cells E a)/\(cells.toList.drop o).take cs.length=cs
section
variable{P:Program}{ops:Array Oper}{Q:Exit->Act->World->Prop}{n:Nat}{env:Nat->Value}{w w' w0:World}{M K:BS}{hp:Nat->Chunk}{rest:List Oper}
 {d:Option Nat} {op:Op} {ty:TypeId} {pos:String} {af:Array Edge} {v:Value} {g:Option (Nat×Bool)} {T:TypeId} {ρ:Operand->Value} {x y:Operand}
theorem o7{j dj:Nat}{b a:Bool}(c:Bool)(k:(ops[j]?).bind (·.dst)=some dj)(i:ev n env (.tmp dj)=gv c (.bool b))
    (p:(c&&(b==a))=true->(execOp (ev n env) ⟨d,op,ty,pos,af,none⟩).run P w=.ok (.value v) w) (h:WL P ops Q rest n (gy env d (gv (c&&(b==a)) v)) w):
    WL P ops Q (⟨d,op,ty,pos,af,some (j,a)⟩::rest) n env w:=by
  by_cases g:(c&&(b==a))=true
  · have o:=gl g;have e:=gr g;rw[eH o]at i;rw[eH g]at h;have r:b=a:=by simpa using e
    subst r;exact J7 k i<|F (p g) h
  · have f:(c&&(b==a))=false:=by simpa using g
    rw[f]at h;cases c with
    |true=>
      refine bQ k i ?_ h;simpa using f
    |false=>
      have q:ev n env (.tmp dj)=undef:=i;have l:yielded ops (act n env).tmps j=none:=by
        unfold yielded;have e:(act n env).eval (.tmp dj)=undef:=by rw[gN];exact q
        simp only[k,Option.bind_some];simp only[Act.eval]at e;cases h2:(act n env).tmps[dj]? with
        |none=>rfl
        |some x=>simp[Array.getD_eq_getD_getElem?,h2]at e;subst e;rfl
      have m:Region.wanted ⟨d,op,ty,pos,af,some (j,a)⟩ (yielded ops (act n env).tmps)=false:=by simp[Region.wanted,l]
      refine⟨?_⟩;unfold wpList;rw[if_neg (by rw[m];decide),ED];exact h.out
theorem aR{j dj:Nat}{b a:Bool}(f:(ops[j]?).bind (·.dst)=some dj)(e:ev n env (.tmp dj)=.bool b)
    (c:(b==a)=true->(execOp (ev n env) ⟨d,op,ty,pos,af,none⟩).run P w=.ok (.value v) w) (h:WL P ops Q rest n (gy env d (gv (b==a) v)) w):
    WL P ops Q (⟨d,op,ty,pos,af,some (j,a)⟩::rest) n env w:=
  o7 true f e (fun h=>c (by simpa using h)) (by simpa using h)
theorem fK{c a:Operand}{b p:Bool}(f:ρ c=.bool b)(e:ρ a=gv (b==false) (.bool p))(h:∀v,ρ (.const v)=v):(execOp ρ ⟨d,.pick c (.const (.bool true)) a,ty,pos,af,g⟩).run P w=.ok (.value (.bool (b||p))) w:=by
 cases b<;>simp_all[execOp,asBool,gv]
theorem gz{c a:Operand}{b p:Bool}(f:ρ c=.bool b)(e:ρ a=gv (b==true) (.bool p))(h:∀v,ρ (.const v)=v):(execOp ρ ⟨d,.pick c a (.const (.bool false)),ty,pos,af,g⟩).run P w=.ok (.value (.bool (b&&p))) w:=by
 cases b<;>simp_all[execOp,asBool,gv]
theorem lT{n:Nat}{env:Nat->Value}:∀v,ev n env (.const v)=v:=fun _=>rfl
theorem fU{T:TypeId}{b:Bool}(a:ρ x=.bool b):(execOp ρ ⟨d,.unOp .not T x,ty,pos,af,g⟩).run P w=.ok (.value (.bool !b)) w:=r_not a
theorem r_eqlb{T2:TypeId}{p q:Bool}(c:P.underlying T=some .bool)(a:ρ x=.bool p)(b:ρ y=.bool q):(execOp ρ ⟨d,.binOp .eql T x y T2,ty,pos,af,g⟩).run P w=.ok (.value (.bool (p==q))) w:=by
 simp[execOp,a,b,eqGuard,binOp,run_equal_bool w T p q c]
theorem r_neqb{T2:TypeId}{p q:Bool}(c:P.underlying T=some .bool)(a:ρ x=.bool p)(b:ρ y=.bool q):(execOp ρ ⟨d,.binOp .neq T x y T2,ty,pos,af,g⟩).run P w=.ok (.value (.bool (p !=q))) w:=by
 simp[execOp,a,b,eqGuard,binOp,run_equal_bool w T p q c,bne]
theorem cu{z:Value}{b o:Nat}{cs:List Value}(h:SH w0 M K w hp)(i:Nat)(e:hp i=.blk b cs)(j:One P T z)(a:ρ x=.pointer (some ⟨b,o,none⟩))(c:cs[o]? =some v):
 (execOp ρ ⟨d,.load T x,ty,pos,af,g⟩).run P w=.ok (.value v) w:=let ⟨_,f⟩:=h.zV i e;r_load1 j a f (by simpa using c)
theorem r_loadN{zs vs:List Value}{b o:Nat}{cells:Array Value}{E:TypeId}{t:Nat×Nat}(e:wF P T zs)(r:ρ x=.pointer (some ⟨b,o,none⟩))(k:w.heap[b]? =some (.cells cells E t))(y:(cells.toList.drop o).take zs.length=vs)(n:vs.length=zs.length):
    (execOp ρ ⟨d,.load T x,ty,pos,af,g⟩).run P w=.ok (.value (.agg vs.toArray)) w:=by
  obtain⟨i,z,A,p⟩:=Ro e.info;obtain⟨s,m,q⟩:=e.desc;have u:∀j v,vs[j]? =some v->w.cell? ((⟨b,o,none⟩:Addr).add j)=some v:=by
    intro j v a;have c:j<zs.length:=by
      rcases Nat.lt_or_ge j vs.length with h|h
      · omega
      · rw[List.getElem?_eq_none h]at a;cases a
    rw[<-y,List.getElem?_take,if_pos c,List.getElem?_drop]at a;by_cases f:j=0
    · subst f;simpa[Addr.add,World.cell?,k]using a
    · simpa[Addr.add,World.cell?,k,f]using a
  have l:=run_loadCells_list (P:=P) (w:=w) ⟨b,o,none⟩ vs u;rw[n]at l;cases s<;>simp at q<;>simp[execOp,Instr.loadAt,r,Instr.sureAddr,loadVar,isAgg,underlying,m,sizeOf,typeInfo,z,p,l]
theorem vz{zs vs:List Value}{b o:Nat}{cs:List Value}(h:SH w0 M K w hp)(i:Nat)(j:hp i=.blk b cs)(k:wF P T zs)(a:ρ x=.pointer (some ⟨b,o,none⟩))(c:(cs.drop o).take zs.length=vs)(e:vs.length=zs.length):
 (execOp ρ ⟨d,.load T x,ty,pos,af,g⟩).run P w=.ok (.value (.agg vs.toArray)) w:=let ⟨_,f⟩:=h.zV i j;r_loadN k a f (by simpa using c) e
theorem lH{z:Value}{b o k:Nat}{cs:List Value}(h:At w b o cs)(l:One P T z)(e:ρ x=.pointer (some ⟨b,o+k,none⟩))(a:cs[k]? =some v):
    (execOp ρ ⟨d,.load T x,ty,pos,af,g⟩).run P w=.ok (.value v) w:=by
  obtain⟨cells,E,m,j,i⟩:=h;refine r_load1 l e j ?_;have f:k<cs.length:=by
    rcases Nat.lt_or_ge k cs.length with h1|h1
    · exact h1
    · rw[List.getElem?_eq_none h1]at a;cases a
  have c:((cells.toList.drop o).take cs.length)[k]? =some v:=by rw[i];exact a
  rw[List.getElem?_take,if_pos f,List.getElem?_drop]at c;simpa using c
theorem ZB{α:Type}{l:List α}{o k m s:Nat}{cs:List α}(h:(l.drop o).take s=cs)(a:k+m<=s):(l.drop (o+k)).take m=(cs.drop k).take m:=by
 rw[<-h,List.drop_take,List.take_take,List.drop_drop,Nat.min_eq_left V]
theorem lU{zs vs:List Value}{b o k:Nat}{cs:List Value}(h:At w b o cs)(l:wF P T zs)(a:ρ x=.pointer (some ⟨b,o+k,none⟩))(c:(cs.drop k).take zs.length=vs)(e:vs.length=zs.length)(i:k+zs.length<=cs.length):
  (execOp ρ ⟨d,.load T x,ty,pos,af,g⟩).run P w=.ok (.value (.agg vs.toArray)) w:=by
 obtain⟨cells,E,m,f,j⟩:=h;exact r_loadN l a f (by rw[ZB j i];exact c) e
theorem fE{z:Value}{b o k:Nat}{cs:List Value}(h:SH w0 M K w hp)(i:Nat)(e:hp i=.pt b o cs)(f:One P T z)(a:ρ x=.pointer (some ⟨b,o+k,none⟩))(c:cs[k]? =some v):
 (execOp ρ ⟨d,.load T x,ty,pos,af,g⟩).run P w=.ok (.value v) w:=lH (h.ptAt i e) f a c
theorem P5{zs vs:List Value}{b o k:Nat}{cs:List Value}(h:SH w0 M K w hp)(i:Nat)(j:hp i=.pt b o cs)(l:wF P T zs)(a:ρ x=.pointer (some ⟨b,o+k,none⟩))(c:(cs.drop k).take zs.length=vs)(e:vs.length=zs.length)(f:k+zs.length<=cs.length):
 (execOp ρ ⟨d,.load T x,ty,pos,af,g⟩).run P w=.ok (.value (.agg vs.toArray)) w:=lU (h.ptAt i j) l a c e f
theorem aL{b o k off:Nat}(m:dQ P T k off)(n:ρ x=.pointer (some ⟨b,o,none⟩)):
  (execOp ρ ⟨d,.fieldAddr T x k,ty,pos,af,g⟩).run P w=.ok (.value (.pointer (some ⟨b,o+off,none⟩))) w:=by
 obtain⟨q,f,s,j,l,h,c⟩:=m.desc;obtain⟨i,a,e⟩:∃i,P.info? f.type=some i/\i.size=s+1:=by
  cases a:P.info? f.type with
  |none=>simp[a]at c
  |some i=>simp[a]at c;exact⟨i,Z,c⟩
 by_cases p:off=0<;>simp[execOp,Instr.fieldAt,underlying,j,l,n,Instr.sureAddr,fieldPlace,sizeOf,typeInfo,a,e,h,Addr.add,p]
theorem aS{a:Addr}(b:ρ x=.pointer (some a)):(execOp ρ ⟨d,.nilCheck x,ty,pos,af,g⟩).run P w=.ok (.value (.pointer (some a))) w:=by
 simp[execOp,b]
theorem gY{α:Type}{R:kW α}{E:TypeId}{f:Nat}{B A:BS}{l:List α}{e:World}(h:SliceOf P T E f)(b:ρ x=v)(c:ed R e B A v l):
  (execOp ρ ⟨d,.call {callee:=.builtin .len,args:= #[x],argTypes:= #[T]},ty,pos,af,g⟩).run P w=.ok (.value (.int .i64 l.length)) w:=by
 obtain⟨a,cap,rfl,_⟩:=c;exact mH h b
theorem JC{s:Str}(c:P.underlying T=some .string)(a:ρ x=bC s):
  (execOp ρ ⟨d,.call {callee:=.builtin .len,args:= #[x],argTypes:= #[T]},ty,pos,af,g⟩).run P w=.ok (.value (.int .i64 s.length)) w:=by
 have b:(⟨s.toArray⟩:ByteArray).size=s.length:=by simp[ByteArray.size]
 simp[execOp,resolve,invoke,builtin,Builtin.len_,a,bC,underlying,c,goInt,b]
theorem r_ix{α:Type}{R:kW α}{E:TypeId}{B A:BS}{l:List α}{k:Int}{a:α}{n:World}(s:SliceOf P T E R.sz)(L:ed R n B A v l)(q:0<=k)(f:l[k.toNat]? =some a):
    ∃b o cs,(∀(ρ:Operand->Value) x y w d ty pos af g,ρ x=v->ρ y=.int .i64 k->(execOp ρ ⟨d,.indexAddr T x y,ty,pos,af,g⟩).run P w=.ok (.value (.pointer (some ⟨b,o,none⟩))) w)/\¬B b/\At n b o cs/\R.rd n A cs a:=by
  have e:k.toNat<l.length:=by
    rcases Nat.lt_or_ge k.toNat l.length with h|h
    · exact h
    · rw[List.getElem?_eq_none h]at f;cases f
  obtain⟨a',cap,rfl,N,O,M,K⟩:=L;obtain⟨b,o,cells,c,I,rfl,u,z,r⟩:=K k.toNat e;obtain⟨i,j,t⟩:∃i,P.info? E=some i/\i.size=R.sz:=by
    have:=s.info;cases j:P.info? E with
    |none=>simp[j]at this
    |some i=>simp[j]at this;exact⟨i,Z,this⟩
  have p:l[k.toNat]=a:=by rw[List.getElem?_eq_getElem e]at f;exact Option.some.inj f
  rw[p]at r;refine⟨b,o+k.toNat*R.sz,_,?_,u,⟨cells,c,I,z,by rw[R.len r]⟩,r⟩;intro ρ x y w d ty pos af g C J;simp only[execOp,Instr.indexAt,C,J,asIntOf,underlying,sizeOf,typeInfo];have G:(⟨b,o,none⟩:Addr).add (k.toNat*R.sz)=⟨b,o+k.toNat*R.sz,none⟩:=by
    unfold Addr.add;split
    · next hz=>rw[hz];rfl
    · rfl
  have m:k<(l.length:Int):=by omega
  simp[s.desc,j,t,q,m,G]
theorem SH.pt(h:SH w0 M K w hp)(i:Nat){b o:Nat}{cs:List Value}(c:¬iL hp b)(a:At w b o cs):SH w0 M K w (bX hp i (.pt b o cs)):=
 h.know i (fun _ h=>h) ⟨c,a⟩
theorem Z7{i:Nat}{c:Chunk}(d:∀b,¬c.own' b):∀b,iL (bX hp i c) b->iL hp b:=by
  rintro b⟨j,a⟩;by_cases e:j=i
  · subst e;rw[dn]at a;exact absurd a (d b)
  · rw[fA e]at a;exact⟨j,a⟩
theorem ed.up{α:Type}{R:kW α}{l:List α}{i:Nat}{c:Chunk}(h:df R w (SH.A M hp) v l)(d:∀b,¬c.own' b:=by exact fun _ h=>h):df R w (SH.A M (bX hp i c)) v l:=
 h.sub (fun b a _=>a.imp id (Z7 d b)) (fun b a _=>a.imp id (Z7 d b))
abbrev IxOk(P:Program)(T:TypeId)(v:Value)(k:Int)(p:Value):Prop:=∀(ρ:Operand->Value) x y w d ty pos af g,ρ x=v->ρ y=.int .i64 k->(execOp ρ ⟨d,.indexAddr T x y,ty,pos,af,g⟩).run P w=.ok (.value p) w
theorem SH.Jb{α:Type}{R:kW α}{E:TypeId}{d:Nat}{l:List α}{k:Int}{a:α}(h:SH w0 M K w hp)(i j:Nat)(s:hp i=.rd R v l)(m:SliceOf P T E d)(e:R.sz=d)(c:0<=k)(r:l[k.toNat]? =some a):
  ∃b o cs,SH w0 M K w (bX hp j (.pt b o cs))/\R.rd w (SH.A M hp) cs a/\IxOk P T v k (.pointer (some ⟨b,o,none⟩)):=by
 subst e;obtain⟨b,o,cs,g,q,f,p⟩:=r_ix m (h.bH i s) c r;exact⟨b,o,cs,h.pt j (fun n=>q<|.inr n) f,p,g⟩
theorem SH.Ag{α:Type}{R:kW α}{E:TypeId}{d:Nat}{l:List α}{k:Int}{a:α}(h:SH w0 M K w hp)(i j:Nat)(r:hp i=.sr R v l)(m:SliceOf P T E d)(e:R.sz=d)(c:0<=k)(q:l[k.toNat]? =some a):
  ∃b o cs,SH w0 M K w (bX hp j (.pt b o cs))/\R.rd w (SH.A M hp) cs a/\IxOk P T v k (.pointer (some ⟨b,o,none⟩)):=by
 subst e;obtain⟨b,o,cs,g,p,f,n⟩:=r_ix m (h.srAt i r) c q;exact⟨b,o,cs,h.pt j p f,n,g⟩
def PI(o:Option Value)(a:Int)(b:Nat):Prop:=(o=none/\a=b)\/o=some (.int .i64 a)
def cut{α:Type}(l:List α)(a b:Int):List α:=(l.take b.toNat).drop a.toNat
theorem r_slv{α:Type}{R:kW α}{E:TypeId}{a b:Int}{B A:BS}{l:List α}{y:World}(hT:SliceOf P T E R.sz)(hv:ed R y B A v l)(ha:0<=a)(n:a<=b)(hb:b<=l.length):
    ∃u,(∀(ρ:Operand->Value) x (t m:Option Operand) w d ty pos af g,ρ x=v->PI (t.map ρ) a 0->PI (m.map ρ) b l.length->(execOp ρ ⟨d,.slice T x t m none,ty,pos,af,g⟩).run P w=.ok (.value u) w)/\ed R y B A u (cut l a b)/\(∀(p:World) (s q:BS) (h:List α),ed R p s q v h->h.length=l.length->ed R p s q u (cut h a b)):=by
  obtain⟨a,rfl⟩:=Int.eq_ofNat_of_zero_le ha;obtain⟨b,rfl⟩:=Int.eq_ofNat_of_zero_le (by omega:0<=b);have n:a<=b:=by omega
  have hb:b<=l.length:=by omega
  obtain⟨ad,cap,rfl,O,X,J,I⟩:=hv;obtain⟨i,z,G⟩:∃i,P.info? E=some i/\i.size=R.sz:=by
    have:=hT.info;cases m:P.info? E with
    |none=>simp[m]at this
    |some i=>simp[m]at this;exact⟨i,Z,this⟩
  have r:b<=cap:=by omega
  refine⟨.slice (if cap=a then ad else ad.map (·.add (a*R.sz))) (b-a)<|cap-a,fun ρ x t m w d ty pos af g hx L C=>?_,?_⟩
  · have M:(Instr.sliceBounds true l.length cap (t.map ρ) (m.map ρ) none).run P w=.ok (a,b,cap) w:=by
      have h0:(0:Int)<=(a:Int):=Int.natCast_nonneg a;have a3:(0:Int)<=(b:Int):=Int.natCast_nonneg b;have a2:(a:Int)<=(b:Int):=by omega
      have a5:(b:Int)<=(cap:Int):=by omega
      rcases L with⟨k,Q⟩|k<;>rcases C with⟨f1,f2⟩|f1
      · obtain rfl:a=0:=by omega
        obtain rfl:b=l.length:=by omega
        simp[Instr.sliceBounds,k,f1]
      · obtain rfl:a=0:=by omega
        simp[Instr.sliceBounds,k,f1,Instr.sliceBound,asIntOf,r]
      · obtain rfl:b=l.length:=by omega
        simp[Instr.sliceBounds,k,f1,Instr.sliceBound,asIntOf,n]
      · simp[Instr.sliceBounds,k,f1,Instr.sliceBound,asIntOf,n,r]
    simp only[execOp,Instr.sliceAt,Instr.slice,underlying,hx];simp[hT.desc,M,sizeOf,typeInfo,z,G]
  suffices c:∀(p:World) (s q:BS) (h:List α),ed R p s q (.slice ad l.length cap) h->h.length=l.length->ed R p s q (.slice (if cap=a then ad else ad.map (·.add (a*R.sz))) (b-a) (cap-a)) (cut h a b)from⟨c _ _ _ l ⟨ad,cap,Z,O,X,J,I⟩ Z,c⟩
  · intro y B A l⟨a4,S,e0,O,X,J,I⟩a1;obtain⟨N,a0,K⟩:=Value.slice.inj e0;subst N;subst K;have hb:b<=l.length:=by omega
    have f:(cut l a b).length=b-a:=by simp[cut];omega
    refine⟨_,cap-a,by rw[f],by rw[f];omega,by omega,?_,?_⟩
    · intro hn;split at hn
      · omega
      · cases ad with
        |none=>have:=J Z;omega
        |some x=>simp at hn
    · intro j hj;rw[f]at hj;obtain⟨bb,o,cells,e,fz,k,Q,e3,e4⟩:=I (a+j) V;subst k;refine⟨bb,o+a*R.sz,cells,e,fz,?_,Q,e3,?_⟩
      · rw[if_neg V];simp only[Option.map_some,Option.some.injEq];unfold Addr.add;split
        · next hz=>rw[hz];rfl
        · rfl
      · have:(cut l a b)[j]'(by rw[f];exact hj)=l[a+j]'V:=by simp[cut]
        rw[this];rw[show o+a*R.sz+j*R.sz=o+(a+j)*R.sz by rw[Nat.add_mul,Nat.add_assoc]];exact e4
theorem r_sl{α:Type}{R:kW α}{E:TypeId}{a b:Int}{B A:BS}{l:List α}{e:World}(j:SliceOf P T E R.sz)(o:ed R e B A v l)(k:0<=a)(c:a<=b)(m:b<=l.length):
  ∃u,(∀(ρ:Operand->Value) x (f h:Option Operand) w d ty pos af g,ρ x=v->PI (f.map ρ) a 0->PI (h.map ρ) b l.length->(execOp ρ ⟨d,.slice T x f h none,ty,pos,af,g⟩).run P w=.ok (.value u) w)/\ed R e B A u (cut l a b):=
 let ⟨u,i,n,_⟩:=r_slv j o k c m;⟨u,i,n⟩
abbrev SlOk(P:Program)(T:TypeId)(v:Value)(a b:Int)(n:Nat)(u:Value):Prop:=∀(ρ:Operand->Value) x (e c:Option Operand) w d ty pos af g,ρ x=v->PI (e.map ρ) a 0->PI (c.map ρ) b n->(execOp ρ ⟨d,.slice T x e c none,ty,pos,af,g⟩).run P w=.ok (.value u) w
theorem SH.slR{α:Type}{R:kW α}{E:TypeId}{d:Nat}{a b:Int}{l:List α}(h:SH w0 M K w hp)(i j:Nat)(o:hp i=.rd R v l)(g:SliceOf P T E d)(e:R.sz=d)(k:0<=a)(c:a<=b)(m:b<=l.length):
  ∃u,SH w0 M K w (bX hp j (.rd R u (cut l a b)))/\SlOk P T v a b l.length u:=by
 subst e;obtain⟨u,f,n⟩:=r_sl g (h.bH i o) k c m;exact⟨u,h.aJ j n,f⟩
theorem SH.slS{α:Type}{R:kW α}{E:TypeId}{d:Nat}{a b:Int}{l:List α}(h:SH w0 M K w hp)(i j:Nat)(o:hp i=.sr R v l)(g:SliceOf P T E d)(e:R.sz=d)(k:0<=a)(c:a<=b)(m:b<=l.length):
  ∃u,SH w0 M K w (bX hp j (.sr R u (cut l a b)))/\SlOk P T v a b l.length u:=by
 subst e;obtain⟨u,f,n⟩:=r_sl g (h.srAt i o) k c m;exact⟨u,h.know j (fun _ h=>h) n,f⟩
theorem r_allocN{zs:List Value}(c:wF P T zs):(execOp ρ ⟨d,.alloc T,ty,pos,af,g⟩).run P w=.ok (.value (.pointer (some ⟨w.heap.size,0,none⟩))) (w.alloc (.cells zs.toArray T)):=by
 obtain⟨i,a,b,e⟩:=Ro c.info;simp[execOp,Instr.alloc,zeroValue,typeInfo,a,b,newVar,newRow,Value.cells,World.alloc,-World.alloc_eq]
theorem r_alloc1{z:Value}(a:One P T z):(execOp ρ ⟨d,.alloc T,ty,pos,af,g⟩).run P w=.ok (.value (.pointer (some ⟨w.heap.size,0,none⟩))) (w.alloc (.cells #[z] T)):=by
 obtain⟨i,b,c,e⟩:=Ro a.info;simp[execOp,Instr.alloc,zeroValue,typeInfo,b,c,newVar,newRow,a.cell,World.alloc,-World.alloc_eq]
theorem r_box(a:ρ x=v):(execOp ρ ⟨d,.box T x,ty,pos,af,g⟩).run P w=.ok (.value (.pointer (some ⟨w.heap.size,0,none⟩))) (w.alloc (.cells v.cells T)):=by
 simp[execOp,Instr.box,newVar,newRow,a,World.alloc,-World.alloc_eq]
theorem SH.newB(h:SH w0 M K w hp)(i:Nat)(cs:List Value)(T:TypeId):SH w0 M K (w.alloc (.cells cs.toArray T)) (bX hp i (.blk w.heap.size cs)):=
 h.learn i (Grow.alloc _ _) (fun b a=>Nat.le_of_eq a.symm) ⟨T,Ow _ _⟩
theorem bg{zs:List Value}(h:SH w0 M K w hp)(i:Nat)(a:wF P T zs)(k:∀w' b,SH w0 M K w' (bX hp i (.blk b zs))->WL P ops Q rest n (gy env d (.pointer (some ⟨b,0,none⟩))) w'):WL P ops Q (⟨d,.alloc T,ty,pos,af,none⟩::rest) n env w:=
 F (r_allocN a) (k _ _ (h.newB i zs T))
theorem yx{z:Value}(h:SH w0 M K w hp)(i:Nat)(a:One P T z)(k:∀w' b,SH w0 M K w' (bX hp i (.blk b [z]))->WL P ops Q rest n (gy env d (.pointer (some ⟨b,0,none⟩))) w'):WL P ops Q (⟨d,.alloc T,ty,pos,af,none⟩::rest) n env w:=
 F (r_alloc1 a) (k _ _ (h.newB i [z] T))
theorem gX{cs:List Value}(h:SH w0 M K w hp)(i:Nat)(a:ev n env x=v)(c:v.cells=cs.toArray)(k:∀w' b,SH w0 M K w' (bX hp i (.blk b cs))->WL P ops Q rest n (gy env d (.pointer (some ⟨b,0,none⟩))) w'):WL P ops Q (⟨d,.box T x,ty,pos,af,none⟩::rest) n env w:=
 F (by rw[r_box a,c]) (k _ _ (h.newB i cs T))
theorem Rp{z:Value}{b o:Nat}{cs:Array Value}{E:TypeId}(n:One P T z)(f:ρ x=.pointer (some ⟨b,o,none⟩))(c:w.heap[b]? =some (.cells cs E (0,0)))(ho:o<cs.size)(h:ρ y=v)(e:v.oneCell'=true):
  (execOp ρ ⟨d,.store T x y,ty,pos,af,g⟩).run P w=.ok .skip (wz w b (.cells (cs.setIfInBounds o v) E (0,0))):=by
 obtain⟨i,k,p,j⟩:=Ro n.info;have m:w.cell? ⟨b,o,none⟩=some cs[o]:=by simp[World.cell?,c,ho]
 have l:w.frozen? ⟨b,o,none⟩=false:=by simp[World.frozen?,c]
 have a:v.cells= #[v]:=by cases v<;>first|rfl|simp[Value.oneCell']at e
 rw[<-setCell_putb c];simp only[execOp,Instr.storeAt,f,h,Instr.sureAddr,storeVar,a,sizeOf,typeInfo];simp[k,j,storeCells,run_store _ _ _ _ _ e,m,l,Addr.add]
theorem Rq{zs vs:List Value}{b o:Nat}{cs:List Value}{E:TypeId}(l:wF P T zs)(c:ρ x=.pointer (some ⟨b,o,none⟩))(a:w.heap[b]? =some (.cells cs.toArray E (0,0)))(e:ρ y=.agg vs.toArray)(h:vs.length=zs.length)(ho:o+vs.length<=cs.length)(f:∀v∈vs,v.oneCell'=true):
  (execOp ρ ⟨d,.store T x y,ty,pos,af,g⟩).run P w=.ok .skip (wz w b (.cells (Lh cs o vs).toArray E (0,0))):=by
 obtain⟨i,k,m,j⟩:=Ro l.info;have:=run_storeCells_at (P:=P) b o E vs 0 cs.toArray w a (by simpa using ho) f;simp only[execOp,Instr.storeAt,c,e,Instr.sureAddr,storeVar,Value.cells,sizeOf,typeInfo];simp[k,j,h,this,Ja a,Lh]
theorem SH.putB{b:Nat}{cs:List Value}(h:SH w0 M K w hp)(i:Nat)(d:hp i=.blk b cs)(a:List Value)(E:TypeId):SH w0 M K (wz w b (.cells a.toArray E (0,0))) (bX hp i (.blk b a)):=by
 have e:=h.zV i d;obtain⟨f,e⟩:=e;exact h.step i (bJ.wz _ _ _) (fun x c _=>by rw[d];exact c) (fun x c _=>by rw[d];exact c) ⟨E,vw (iK e)⟩
theorem gP{z:Value}{b o:Nat}{cs:List Value}(h:SH w0 M K w hp)(i:Nat)(a:List Value)(e:hp i=.blk b cs)(m:One P T z)(f:ev n env x=.pointer (some ⟨b,o,none⟩))(g:ev n env y=v)(ho:cs.set o v=a)(c:Nat.blt o cs.length=true)(j:v.oneCell'=true)
  (k:∀w',SH w0 M K w' (bX hp i (.blk b a))->WL P ops Q rest n (gy env d undef) w'):
  WL P ops Q (⟨d,.store T x y,ty,pos,af,none⟩::rest) n env w:=by
 obtain⟨E,l⟩:=h.zV i e;refine AL (Rp m f l (by rw[Nat.blt_eq]at c;simpa using c) g j) (k _ ?_);have:=h.putB i e a E;subst ho;simpa using this
theorem w_stN{zs vs:List Value}{b o:Nat}{cs:List Value}(h:SH w0 M K w hp)(i:Nat)(a:List Value)(e:hp i=.blk b cs)(g:wF P T zs)(j:ev n env x=.pointer (some ⟨b,o,none⟩))(m:ev n env y=.agg vs.toArray)(f:vs.length=zs.length)(ho:Lh cs o vs=a)(l:Nat.ble (o+vs.length) cs.length=true)(p:∀v∈vs,v.oneCell'=true)
  (k:∀w',SH w0 M K w' (bX hp i (.blk b a))->WL P ops Q rest n (gy env d undef) w'):
  WL P ops Q (⟨d,.store T x y,ty,pos,af,none⟩::rest) n env w:=by
 obtain⟨E,c⟩:=h.zV i e;subst ho;exact AL (Rq g j c m f (Nat.le_of_ble_eq_true l) p)<|k _<|h.putB i e _ E
def Rs(P:Program)(f:FuncId):Prop:=∃a,P.funcs[f]? =some a/\(a.name== "runtime.NumGoroutine")=false/\a.body.isNone=false
theorem r_call{f:FuncId}{first captured:Array Value}{xs:Array Operand}{l:Array TypeId}(k:Rs P f)(m:ρ x=.func (.func f) first captured):
  (execOp ρ ⟨d,.call {callee:=.value x,args:=xs,argTypes:=l},ty,pos,af,g⟩).run P w=.ok (.enter f (first++xs.map ρ++captured)) w:=by
 obtain⟨c,i,j,h⟩:=k;have b:¬c.name= "runtime.NumGoroutine" :=by simpa using j
 have a:¬c.body=none:=fun e=>by simp[e]at h
 simp[execOp,resolve,m,Deferred.ofValue,invoke,callFunc,i,b,a]
theorem bW{f:FuncId}{first captured:Array Value}{xs:Array Operand}{i:Array TypeId}{args:List Value}{R:Ending->World->Prop}(c:Rs P f)(a:ev n env x=.func (.func f) first captured)
  (b:first.toList++xs.toList.map (ev n env)++captured.toList=args) (g:Calls P f args.toArray w R)
  (h:∀e w',R e w'->∃v,e=.returned v/\WL P ops Q rest n (gy env d v) w'):
  WL P ops Q (⟨d,.call {callee:=.value x,args:=xs,argTypes:=i},ty,pos,af,none⟩::rest) n env w:=by
 refine wl_enter (r_call c a) ?_ h;have:first++xs.map (ev n env)++captured=args.toArray:=by
  rw[<-b];apply Array.ext';simp
 rw[this];exact g
theorem dh{i:Nat}{vs:List Value}(a:ρ x=.tuple vs.toArray)(b:vs[i]? =some v):(execOp ρ ⟨d,.extract x i,ty,pos,af,g⟩).run P w=.ok (.value v) w:=by
 simp[execOp,Instr.extract,a,b]
theorem wG{f:FuncId}{first captured:Array Operand}{c1 c2:List Value}(a:first.toList.map ρ=c1)(c:captured.toList.map ρ=c2):
  (execOp ρ ⟨d,.makeFunc (.func f) first captured,ty,pos,af,g⟩).run P w=.ok (.value (.func (.func f) c1.toArray c2.toArray)) w:=by
 have b:first.map ρ=c1.toArray:=by rw[<-a];apply Array.ext';simp
 have e:captured.map ρ=c2.toArray:=by rw[<-c];apply Array.ext';simp
 simp[execOp,Instr.makeFunc,b,e]
theorem calls_start{f:FuncId}{a:Func}{c:Code}{args:List Value}{R:Ending->World->Prop}{n:Nat}
  (d:P.funcs[f]? =some a) (e:a.body=some c) (hn:a.ntmps=n) (b:args.length<=n)
  (h:WC P c (bodyPost P a R) n (Tu args) w):Calls P f args.toArray w R:=by
 refine calls_of_wp d e ?_;rw[hn,act_init n args b];exact h.out
theorem aW{a:Func}{R:Ending->World->Prop}{t:Tmp}(b:a.results= #[.tmp t])(c:ev n env (.tmp t)=v)(h:R (.returned v) w):bodyPost P a R .ret (act n env) w:=by
 refine⟨Z,v,?_,h⟩;rw[results_tmp b];have:=congrFun (gN n env)<|.tmp t;rw[c]at this;exact congrArg (fun v=>Result.ok v w) this
theorem fin0{a:Func}{R:Ending->World->Prop}(b:a.results= #[])(h:R (.returned (.tuple #[])) w):bodyPost P a R .ret (act n env) w:=⟨rfl,_,results_none b _ _ _,h⟩
theorem Rt{a:Func}{R:Ending->World->Prop}(b:a.results= #[])(h:R (.returned (.tuple #[])) w):bodyPost P a R .normal (act n env) w:=⟨rfl,_,results_none b _ _ _,h⟩
theorem xP{c:Func}{R:Ending->World->Prop}{t u:Tmp}{v1 v2:Value}(e:c.results= #[.tmp t,.tmp u])(d:ev n env (.tmp t)=v1)(f:ev n env (.tmp u)=v2)(h:R (.returned (.tuple #[v1,v2])) w):bodyPost P c R .ret (act n env) w:=by
 refine⟨Z,_,?_,h⟩;rw[results_tmp2 e];have a:=congrFun (gN n env)<|.tmp t;have b:=congrFun (gN n env)<|.tmp u;rw[d]at a;rw[f]at b;simp only[Act.eval]at a b;rw[a,b]
end
section
variable{α β σ ρ:Type}{r:ρ}{G:Prop}
theorem iN{b:Bool}{X a:ρ}(c:cond b X a=r)(d:b=true->X=r->G)(e:b=false->a=r->G):G:=by
  cases b
  · exact e Z c
  · exact d Z c
theorem az{o:Option α}{f:α->Option β}{r:β}(h:o.bind f=some r):∃x,o=some x/\f x=some r:=by
 cases o with
 |none=>cases h
 |some x=>exact⟨x,rfl,h⟩
def iF(p:Prop) [Decidable p](x:Option β):Option β:=if p then x else none
theorem bB{p:Prop} [Decidable p]{x:Option β}{r:β}(h:iF p x=some r):p/\x=some r:=by
  unfold iF at h;by_cases hp:p
  · rw[if_pos hp]at h;exact⟨hp,h⟩
  · rw[if_neg hp]at h;cases h
def idx(l:List α)(k:Int):Option α:=if 0<=k then l[k.toNat]? else none
theorem aF{l:List α}{k:Int}{x:α}(h:idx l k=some x):0<=k/\l[k.toNat]? =some x:=by
  unfold idx at h;by_cases hp:0<=k
  · rw[if_pos hp]at h;exact⟨hp,h⟩
  · rw[if_neg hp]at h;cases h
def sub?(l:List α)(a b:Int):Option (List α):=if 0<=a/\a<=b/\b<=l.length then some (cut l a b)else none
theorem M3{l:List α}{a b:Int}{x:List α}(h:sub? l a b=some x):x=cut l a b/\0<=a/\a<=b/\b<=l.length:=by
  unfold sub? at h;by_cases hp:0<=a/\a<=b/\b<=l.length
  · rw[if_pos hp]at h;cases h;exact⟨Z,hp⟩
  · rw[if_neg hp]at h;cases h
def ku(x:Int):Prop:= -9223372036854775808<=x/\x<=9223372036854775807
def i64b:Int->Bool
 | .ofNat n=>Nat.ble n 9223372036854775807
 | .negSucc n=>Nat.ble n 9223372036854775807
theorem i64b_iff{x:Int}:i64b x=true↔ku x:=by
 unfold ku;cases x with
 |ofNat n=>simp[i64b,Nat.ble_eq];omega
 |negSucc n=>simp[i64b,Nat.ble_eq];omega
instance (x:Int):Decidable (ku x):=decidable_of_iff (i64b x=true) i64b_iff
theorem ku.mk{x:Int}(a: -9223372036854775808<=x)(b:x<=9223372036854775807):ku x:=⟨a,b⟩
def each(body:α->σ->(σ->ρ)->ρ)(k:σ->ρ):List α->σ->ρ
 |[],s=>k s
 |x::r,s=>body x s (each body k r)
def fM(body:Int->α->σ->(σ->ρ)->ρ)(k:σ->ρ):Int->List α->σ->ρ
 |_,[],s=>k s
 |i,x::r,s=>body i x s (fM body k (i+1) r)
def upto(body:Int->σ->(σ->ρ)->ρ)(k:σ->ρ):Int->Nat->σ->ρ
 |_,0,s=>k s
 |i,m+1,s=>body i s (upto body k (i+1) m)
def again(body:σ->(σ->Option β)->Option β):Nat->σ->Option β
 |0,_=>none
 |n+1,s=>body s (again body n)
end
section
variable{P:Program}{Q:Exit->Act->World->Prop}{n:Nat}{env:Nat->Value}{w:World}{x y:Code}
theorem aD{ρ:Type}{r X a:ρ}{c:Operand}{b:Bool}(d:cond b X a=r)(g:ev n env c=.bool b)(e:b=true->X=r->WC P x Q n env w)(f:b=false->a=r->WC P y Q n env w):
 WC P (Code.cond c x y) Q n env w:=eB g (fun h=>e h (by rw[h]at d;exact d)) (fun h=>f h (by rw[h]at d;exact d))
def JP{σ:Type}(n:Nat)(mod:Nat->Bool)(Tu:Nat->Value)(live:σ->List (Nat×Value))(J:σ->World->Prop):Act->World->Prop:=
 fun a' w'=>∃s e,a'=act n e/\I1 mod e Tu/\Holds e (live s)/\J s w'
def JL{σ:Type}(n:Nat)(mod:Nat->Bool)(Tu:Nat->Value)(live:σ->List (Nat×Value))(J:σ->World->Prop)(a:σ->Nat)(b:σ):Act->World->Prop:=
 fun a' w'=>∃s e,a'=act n e/\I1 mod e Tu/\Holds e (live s)/\J s w'/\a s<a b
theorem eZ{σ:Type}{c:Code}(mod:Nat->Bool)(live:σ->List (Nat×Value))(J:σ->World->Prop)(d:σ->Nat)(b:σ)
 (f:Holds env (live b)) (g:J b w)
 (a:∀s e h,J s e->WC P c (Exit.then (JL n mod env live J d s) Q) n (ZA (hav mod h env) (live s)) e):
 WC P (Code.loop c) Q n env w:=wc_loop mod live J d b f g a
theorem bV{σ:Type}(mod:Nat->Bool)(live:σ->List (Nat×Value))(J:σ->World->Prop)
  (f:∀s w g,J s w->WC P y Q n (ZA (hav mod g env) (live s)) w)
  (h:WC P x (Exit.then (JP n mod env live J) Q) n env w):WC P (Code.seq x y) Q n env w:=by
 refine aA ⟨wp_mono h.out fun d a w h=>?_⟩;cases d with
 |normal=>
  obtain⟨s,e,rfl,b,c,i⟩:=h;have:=f s w e i;rw[hav_self b,Tv _ c]at this;exact this.out
 |_=>exact h
end
section
variable{K:Act->World->Prop}{Q:Exit->Act->World->Prop}{a:Act}{w:World}{i j:Nat}
theorem ah(h:K a w):Exit.then K Q .normal a w:=h
theorem ai(h:Q .ret a w):Exit.then K Q .ret a w:=h
theorem cz(h:Q (.exit i) a w):Exit.then K Q (.exit i) a w:=h
theorem ak(h:Q .normal a w):Exit.inBlock i Q .normal a w:=h
theorem aC(h:Q .ret a w):Exit.inBlock i Q .ret a w:=h
theorem fD(h:Q .normal a w):Exit.inBlock i Q (.exit i) a w:=by simp only[Exit.inBlock,if_true];exact h
theorem Ha(hn:¬j=i)(h:Q (.exit j) a w):Exit.inBlock i Q (.exit j) a w:=by simp only[Exit.inBlock,if_neg hn];exact h
end
theorem I1.os{mod:Nat->Bool}{e a:Nat->Value}{d:Nat}{v:Value}(b:mod d=true)(h:I1 mod e a):I1 mod (gy e (some d) v) a:=I1.upd b h
theorem I1.on{mod:Nat->Bool}{e a:Nat->Value}{v:Value}(h:I1 mod e a):I1 mod (gy e none v) a:=h
theorem I1.uc{mod:Nat->Bool}{e a:Nat->Value}{d:Nat}{v:Value}{l:List (Nat×Value)}(b:mod d=true)(h:I1 mod (ZA e l) a):I1 mod (ZA e ((d,v)::l)) a:=I1.upd b h
theorem I1.un{mod:Nat->Bool}{e a:Nat->Value}(h:I1 mod e a):I1 mod (ZA e []) a:=h
def inl(l:List Nat)(i:Nat):Bool:=match l with|[]=>false|a::r=>bif Nat.beq i a then true else inl r i
def subl(l m:List Nat):Bool:=match l with|[]=>true|a::r=>bif inl m a then subl r m else false
theorem subl_inl{m:List Nat}:∀{l:List Nat},subl l m=true->∀i,inl l i=true->inl m i=true
 |[],_,i,h=>by simp[inl]at h
 |a::r,hs,i,h=>by
  unfold subl at hs;unfold inl at h;cases ha:inl m a with
  |false=>simp[ha]at hs
  |true=>
   simp only[ha,cond_true]at hs;cases hb:Nat.beq i a with
   |true=>have:=Nat.eq_of_beq_eq_true hb;subst this;exact ha
   |false=>simp only[hb,cond_false]at h;exact subl_inl hs i h
theorem I1.hin{l m:List Nat}{j e a:Nat->Value}(c:subl l m=true)(h:I1 (inl m) e a):I1 (inl m) (LX.hav (inl l) j e) a:=fun i b=>by
 have:inl l i=false:=by
  cases hc:inl l i with
  |false=>rfl
  |true=>rw[subl_inl c i hc]at b;cases b
 simp only[LX.hav,this,cond_false];exact h i b
open Go.RowKit
theorem ed.row{α:Type}{R:kW α}{w:World}{B A:BS}{v:Value}{l:List α}(h:ed R w B A v l):
    (v=.slice none 0 0/\l=[])\/∃(a:Addr) (cap:Nat) (news:List Value),v=.slice (some a) l.length cap/\news.length=l.length*R.sz/\(∀j u,news[j]? =some u->w.cell? (a.add j)=some u)/\(∀u∈news,u.oneCell'=true)/\
      ∀i (h:i<l.length),R.rd w A ((news.drop (i*R.sz)).take R.sz) l[i]:=by
  obtain⟨a,cap,rfl,I,N,y,x⟩:=h;cases a with
  |none=>
    have G:=y Z;subst G;have p:l=[]:=List.eq_nil_of_length_eq_zero V;subst p;exact .inl ⟨Z,Z⟩
  |some a=>
    right;by_cases p:l.length=0
    · have:l=[]:=List.eq_nil_of_length_eq_zero p;subst this;exact⟨a,cap,[],Z,by simp,fun j u h=>by simp at h,fun u h=>by simp at h,fun i h=>absurd h<|Nat.not_lt_zero _⟩
    · obtain⟨b,o,cells,E,M,q,K,s,O⟩:=x 0 V;cases q;have c:∀i (f:i<l.length),R.rd w A ((cells.toList.drop<|o+i*R.sz).take R.sz) l[i]:=by
        intro i f;obtain⟨b',J,n,L,C,q,_,m,r⟩:=x i f;cases q;rw[s]at m;cases m;exact r
      have e:=R.len<|c (l.length-1) V;simp only[List.length_take,List.length_drop,Array.length_toList]at e;have g:=R.pos;have t:o+l.length*R.sz<=cells.size:=by
        have P:l.length*R.sz=(l.length-1)*R.sz+R.sz:=by
          conv=>lhs;rw[show l.length=(l.length-1)+1 by omega]
          rw[Nat.add_mul,Nat.one_mul]
        omega
      refine⟨⟨b,o,none⟩,cap,(cells.toList.drop o).take<|l.length*R.sz,Z,?_,?_,?_,?_⟩
      · simp only[List.length_take,List.length_drop,Array.length_toList];omega
      · intro j u d;rw[List.getElem?_take]at d;split at d
        · rw[List.getElem?_drop]at d;have z:(⟨b,o,none⟩:Addr).add j=⟨b,o+j,none⟩:=by unfold Addr.add;split<;>simp_all
          rw[z];simpa[World.cell?,s]using d
        · cases d
      · intro u d;obtain⟨j,k⟩:=List.getElem?_of_mem d;rw[List.getElem?_take]at k;split at k
        · next hlt=>
          rw[List.getElem?_drop]at k;have f:j / R.sz<l.length:=Nat.div_lt_of_lt_mul (by rw[Nat.mul_comm];exact hlt);refine R.one (c (j / R.sz) f) u ?_;refine List.mem_of_getElem? (i:=j%R.sz) ?_;rw[List.getElem?_take,if_pos (Nat.mod_lt _ g),List.getElem?_drop];rw[show o+j / R.sz*R.sz+j%R.sz=o+j by rw[Nat.add_assoc,Nat.div_add_mod' j R.sz]];exact k
        · cases k
      · intro i f;rw[List.drop_take,List.take_take,List.drop_drop,Nat.min_eq_left]
        · exact c i f
        · have:(i+1)*R.sz<=l.length*R.sz:=Nat.mul_le_mul_right _ f;rw[Nat.add_mul]at this;omega
theorem Z8(c:List Value):∀(cells:Array Value) (o:Nat),o+c.length<=cells.size->
  (c.zipIdx.foldl (fun cs(p:Value×Nat)=>cs.setIfInBounds (o+p.2) p.1) cells).toList=Lh cells.toList o c:=by
 suffices a:∀(k:Nat) (cells:Array Value) (o:Nat),o+k+c.length<=cells.size->
   ((c.zipIdx k).foldl (fun cs(p:Value×Nat)=>cs.setIfInBounds (o+p.2) p.1) cells).toList=Lh cells.toList (o+k) c by
  intro cells o h;have:=a 0 cells o (by simpa using h);simpa using this
 induction c with
 |nil=>intro k cells o h;simp[Lh]
 |cons x r ih=>
  intro k cells o h;simp only[List.length_cons]at h;rw[List.zipIdx_cons,List.foldl_cons,ih (k+1) _ o (by simp;omega)];simp only[Array.toList_setIfInBounds,Lh];rw[show o+(k+1)=o+k+1 by omega];apply List.ext_getElem?;intro i;simp only[List.append_assoc,List.getElem?_append,List.length_take,List.length_set,Array.length_toList,List.getElem?_take,List.getElem?_set,List.getElem?_drop,List.length_cons,List.getElem?_cons]
  grind
theorem WQ{a:Nat}(n:0<a):∀(vs:List Value) (k:Nat) (cells:Array Value),(∀v∈vs,v.cells.size=a)->(k+vs.length)*a<=cells.size->
    ∃out,Instr.fill (fun i=>some (i*a,a)) cells ((vs.zipIdx k).map fun p=>(p.2,p.1))=some out/\out.toList=Lh cells.toList (k*a) (vs.map fun v=>v.cells.toList).flatten
  |[],k,cells,_,_=>⟨cells,rfl,by simp[Lh]⟩
  |v::r,k,cells,hv,hs=>by
    have d:v.cells.size=a:=hv v zq3;simp only[List.length_cons]at hs;have g:(k+1+r.length)*a<=cells.size:=by rw[show k+1+r.length=k+(r.length+1) by omega];exact hs
    have m:k*a+a<=cells.size:=by
      have:(k+1)*a<=(k+1+r.length)*a:=Nat.mul_le_mul_right _ V;rw[Nat.add_mul,Nat.one_mul]at this;omega
    have j:=Z8 v.cells.toList cells (k*a) (by rw[Array.length_toList,d];exact m);let c2:=v.cells.zipIdx.foldl (fun cs(p:Value×Nat)=>cs.setIfInBounds (k*a+p.2) p.1) cells;have b:c2.toList=Lh cells.toList (k*a) v.cells.toList:=by
      rw[<-j];show(v.cells.zipIdx.foldl _ cells).toList=_;rw[<-Array.foldl_toList,Array.toList_zipIdx]
    have f:c2.size=cells.size:=by
      have:=congrArg List.length b;simp only[Lh,List.length_append,List.length_take,List.length_drop,Array.length_toList]at this;omega
    obtain⟨out,e,h⟩:=WQ n r (k+1) c2 (fun x l=>hv x (by simp[l])) (by rw[f];exact g);refine⟨out,?_,?_⟩
    · rw[List.zipIdx_cons,List.map_cons];unfold Instr.fill;simp only[d,ne_eq,not_true_eq_false,decide_false,Bool.false_or];rw[if_neg (by simp;omega)];exact e
    · rw[h,b];simp only[List.map_cons,List.flatten_cons,Lh];rw[show(k+1)*a=k*a+a by rw[Nat.add_mul,Nat.one_mul]];have o:v.cells.toList.length=a:=by rw[Array.length_toList,d]
      generalize v.cells.toList=c at*;generalize (r.map fun v=>v.cells.toList).flatten=q;apply List.ext_getElem?;intro i;simp only[List.append_assoc,List.getElem?_append,List.length_take,Array.length_toList,List.length_append,List.getElem?_take,List.getElem?_drop,List.length_drop]
      grind
def J9{α:Type}(R:kW α)(w:World)(A:BS):List Value->List α->Prop
 |[],[]=>True
 |v::vs,x::xs=>R.rd w A v.cells.toList x/\J9 R w A vs xs
 |_,_=>False
theorem J9.len{α:Type}{R:kW α}{w:World}{A:BS}:∀{vs:List Value} {xs:List α},J9 R w A vs xs->vs.length=xs.length
 |[],[],_=>rfl
 |v::vs,x::xs,h=>by simp[J9.len h.2]
 |[],_::_,h=>h.elim
 |_::_,[],h=>h.elim
theorem J9.sizes{α:Type}{R:kW α}{w:World}{A:BS}:∀{vs:List Value} {xs:List α},J9 R w A vs xs->∀v∈vs,v.cells.size=R.sz
  |[],[],_=>by simp
  |v::vs,x::xs,h=>by
    intro u a;rcases List.mem_cons.1 a with rfl|a
    · have:=R.len h.1;simpa using this
    · exact J9.sizes h.2 u a
  |[],_::_,h=>h.elim
  |_::_,[],h=>h.elim
theorem flat_len{a:Nat}:∀{vs:List Value},(∀v∈vs,v.cells.size=a)->(vs.map fun v=>v.cells.toList).flatten.length=vs.length*a
 |[],_=>by simp
 |v::r,h=>by
  have b:=h v zq3;have d:=flat_len fun u c=>h u<|List.mem_cons_of_mem _ c;simp only[List.map_cons,List.flatten_cons,List.length_append,d,Array.length_toList,b,List.length_cons,Nat.add_mul];omega
theorem J9.at{α:Type}{R:kW α}{w:World}{A:BS}:∀{vs:List Value} {xs:List α},J9 R w A vs xs->∀i (h:i<xs.length),R.rd w A (((vs.map fun v=>v.cells.toList).flatten.drop (i*R.sz)).take R.sz) xs[i]
 |[],[],_,i,h=>absurd h (Nat.not_lt_zero _)
 |v::vs,x::xs,h,i,hi=>by
  have a:v.cells.toList.length=R.sz:=R.len h.1;cases i with
  |zero=>
   simp only[List.map_cons,List.flatten_cons,Nat.zero_mul,List.drop_zero,List.getElem_cons_zero];rw[List.take_append_of_le_length V,List.take_of_length_le V];exact h.1
  |succ i=>
   have:=J9.at h.2 i (by simpa using hi);simp only[List.map_cons,List.flatten_cons,List.getElem_cons_succ];rw[List.drop_append,List.drop_eq_nil_of_le (by rw[a,Nat.add_mul];omega),List.nil_append,a,show(i+1)*R.sz-R.sz=i*R.sz by rw[Nat.add_mul];omega];exact this
 |[],_::_,h,_,_=>h.elim
 |_::_,[],h,_,_=>h.elim
structure Struct(P:Program)(T:TypeId)(zs:List Value)(pl:List (Nat×Nat)):Prop where
  zero:(P.info? T).map (·.zero)=some (some (.agg zs.toArray))
  desc:∃fs,P.underlying T=some (.struct fs)/\fs.toList.map (fun f=>(f.offset,(P.info? f.type).map (·.size)))=pl.map (fun p=>(p.1,some p.2))
def FillOk(b:List (Nat×Nat))(cs:List Value):List (Nat×Value)->List Value->Prop
 |[],out=>cs=out
 |(i,v)::r,out=>∃off a vs,b[i]? =some (off,a)/\v.cells.toList=vs/\vs.length=a/\off+a<=cs.length/\FillOk b (Lh cs off vs) r out
theorem fill_ok{f:List (Nat×Nat)}:∀{a:List (Nat×Value)} {cs out:List Value},FillOk f cs a out->Instr.fill (fun i=>f[i]?) cs.toArray a=some out.toArray
 |[],cs,out,h=>by cases h;rfl
 |(i,v)::r,cs,out,h=>by
  obtain⟨off,b,vs,k,g,e,j,l⟩:=h;unfold Instr.fill;simp only[k];have c:v.cells.size=b:=by rw[<-e,<-g,Array.length_toList]
  rw[if_neg (by simp[c];omega)];have m:=Z8 vs cs.toArray off (by rw[e];simpa using j);have:(v.cells.zipIdx.foldl (fun cs(p:Value×Nat)=>cs.setIfInBounds (off+p.2) p.1) cs.toArray)=(Lh cs off vs).toArray:=by
   apply Array.ext';rw[<-Array.foldl_toList,Array.toList_zipIdx,g];exact m
  have d:=fill_ok l;rw[<-this]at d;exact d
section
variable{P:Program}{ops:Array Oper}{Q:Exit->Act->World->Prop}{n:Nat}{env:Nat->Value}{w w' w0:World}{M K:BS}{hp:Nat->Chunk}{rest:List Oper}
 {d:Option Nat} {op:Op} {ty:TypeId} {pos:String} {af:Array Edge} {v:Value} {g:Option (Nat×Bool)} {T:TypeId} {ρ:Operand->Value} {x y:Operand}
theorem AO(h:w.grownBy w' v.ownBlock):bJ (ob v) w w':=
 ⟨h.os,h.tape,h.output,h.size,fun b c a=>h.block b a (fun e=>c (ob_row.2 e.symm))⟩
theorem PK{E:TypeId}{j b:Nat}{a:Option Addr}{l c:Nat}(e:ko P T E j b)(f:ρ x=.slice a l c)(k:l<=c)(h:ρ y=.slice none 0 0):
  (execOp ρ ⟨d,.call {callee:=.builtin .append,args:= #[x,y],argTypes:= #[T,T]},ty,pos,af,g⟩).run P w=.ok (.value (.slice a l c)) w:=by
 obtain⟨i,z,m,o,n,_,_⟩:=e.info;cases a<;>simp[execOp,resolve,invoke,builtin,f,h,Builtin.append_,underlying,e.desc,sizeOf,typeInfo,m,Builtin.lenOf,k,Builtin.firstCells,storeCells]
theorem run_app{α:Type}{R:kW α}{E:TypeId}{sz f:Nat}{A:BS}{u:Value}{l m:List α}(q:ko P T E sz f)(o:R.sz=sz)(hx:ρ x=v)(hv:bZ R E w A v l)(hy:ρ y=u)(hu:ed R w BE A u m)
    (hA:∀b,ob v b->A b) (a:(l.length+m.length)*f<=140737488355328) (hm:l.length+m.length<=9223372036854775807):
    ∃n w',(execOp ρ ⟨d,.call {callee:=.builtin .append,args:= #[x,y],argTypes:= #[T,T]},ty,pos,af,g⟩).run P w=.ok (.value n) w'/\bZ R E w' A n (l++m)/\bJ (ob v) w w'/\(∀b,ob n b->b<w.heap.size->ob v b):=by
  subst o;have S:=hv;obtain⟨xs,B,h3⟩:=hv;rcases hu.row with⟨rfl,rfl⟩|⟨ad,c,news,rfl,n1,n2,n3,n4⟩
  · have hw:(execOp ρ ⟨d,.call {callee:=.builtin .append,args:= #[x,y],argTypes:= #[T,T]},ty,pos,af,g⟩).run P w=.ok (.value v) w:=by
      rcases B.2 with⟨rfl,hn⟩|⟨gg,cap,cur,rfl,_,_,hc,_⟩
      · exact PK q hx (Nat.le_refl _) hy
      · exact PK q hx hc hy
    exact⟨v,w,hw,by simpa using S,bJ.refl _ _,fun _ a _=>a⟩
  · obtain⟨i,z,J,hz,o,t,X⟩:=q.info;obtain⟨n,w',k,K,hg,_⟩:=run_append_own (P:=P) w 0 T ty E i z R.sz f q.desc J hz o t X R.pos v l.length xs B ad m.length c news n1 n2 n3 (by unfold maxLen;omega) a (Nat.zero_le _);have hk:=AO hg;have p:∀b,ob n b->b<w.heap.size->ob v b:=by
      rcases B.2 with⟨rfl,hn⟩|⟨gg,cap,cur,rfl,_,hgg,hc,hcm,hcs,htake⟩
      · by_cases M:m.length=0
        · have r:news=[]:=List.eq_nil_of_length_eq_zero (by rw[n1,M];simp);subst r;have e:(Builtin.append_ #[T,T] ty #[.slice none 0 0,.slice (some ad) m.length c]).run P w=.ok (.slice none 0 0) w:=by
            simp[Builtin.append_,underlying,q.desc,sizeOf,typeInfo,J,Builtin.lenOf,M,Builtin.firstCells,loadCells,loadCellsFrom]
          rw[e]at k;cases k;exact fun b a _=>a
        · have e:=run_append_nil (P:=P) w T ty E i z q.desc J hz ad m.length c news (by rw[o];exact n1) n2 V V (by rw[t];have:=a;rw[Nat.add_mul]at this;omega);rw[e]at k;cases k;intro b a L;simp[ob]at a;omega
      · by_cases h:l.length+m.length<=cap
        · have I:l.length*i.size+news.length<=cur.size:=by rw[n1,o,hcs,<-Nat.add_mul];exact Nat.mul_le_mul_right _ h
          have e:=run_append_room (P:=P) w T ty E i q.desc J gg l.length cap cur hgg ad m.length c news (by rw[o];exact n1) n2 n3 h I;rw[e]at k;cases k;exact fun b a _=>a
        · have holds:∀j u,xs[j]? =some u->w.cell? ((⟨gg,0,none⟩:Addr).add j)=some u:=B.cells (g:=gg) Z;have e:=run_append_grow (P:=P) w T ty E i z q.desc J hz ⟨gg,0,none⟩ l.length cap xs (by rw[o];exact B.1) holds ad m.length c news (by rw[o];exact n1) n2 V V (growslice_fits V (by rw[t];exact a));rw[e]at k;cases k;intro b a L;simp[ob]at a;omega
    have C:(execOp ρ ⟨d,.call {callee:=.builtin .append,args:= #[x,y],argTypes:= #[T,T]},ty,pos,af,g⟩).run P w=.ok (.value n) w':=by
      simp only[execOp,resolve,invoke,builtin,Sem.run_bind,Sem.run_pure,Result.andThen_ok,List.map_toArray,List.map_cons,List.map_nil,hx,hy,k]
    refine⟨n,w',C,⟨xs++news,by rw[List.length_append];exact K,?_⟩,hk,p⟩;intro i Q;have G:=B.1;have N:∀b,A b\/ob n b->b<w.heap.size->A b\/ob v b:=fun b a L=>a.imp id fun a=>p b a L;by_cases s:i<l.length
    · have h5:=R.go (h3 i s) hk (fun b a _=>.inr a) N;have O:(i+1)*R.sz<=l.length*R.sz:=Nat.mul_le_mul_right _ s;rw[Nat.add_mul]at O;rw[List.getElem_append_left s,List.drop_append_of_le_length V,List.take_append_of_le_length (by rw[List.length_drop];omega)];exact h5
    · rw[List.length_append]at Q;have h5:=R.go (n4 (i-l.length) V) hk (fun b a _=>hA b a) fun b a L=>(N b a L).elim id<|hA b;rw[List.getElem_append_right V,List.drop_append,List.drop_eq_nil_of_le (by rw[G];exact Nat.mul_le_mul_right _ V),List.nil_append,G,<-Nat.sub_mul];exact h5
theorem SH.DX{α:Type}{R:kW α}{E:TypeId}(h:SH w0 M K w hp)(i:Nat):SH w0 M K w (bX hp i (.own R E (.slice none 0 0) ([]:List α))):=
 h.learn i (bJ.refl BE w) (fun _ h=>h.elim) bZ.nil
theorem ll{α:Type}{R:kW α}{E:TypeId}{j c:Nat}{u:Value}{l m:List α}(h:SH w0 M K w hp)(i:Nat)(e:hp i=.own R E v l)(I:ed R w BE (SH.A M hp) u m)(C:ko P T E j c)(p:R.sz=j)(G:ev n env x=v)(o:ev n env y=u)
    (a:(l.length+m.length)*c<=140737488355328) (r:l.length+m.length<=9223372036854775807)
    (k:∀w' f,SH w0 M K w' (bX hp i (.own R E f (l++m)))->WL P ops Q rest n (gy env d f) w'):
    WL P ops Q (⟨d,.call {callee:=.builtin .append,args:= #[x,y],argTypes:= #[T,T]},ty,pos,af,none⟩::rest) n env w:=by
  obtain⟨f,w',t,B,s,z⟩:=run_app (d:=d) (ty:=ty) (pos:=pos) (af:=af) (g:=none) C p G (h.bG i e) o I (fun b a=>.inr ⟨i,by rw[e];exact a⟩) a r;refine F t (k w' f (h.step i s (fun b a _=>by rw[e];exact a) (fun b a q=>by rw[e];exact z b a q) ?_));refine bZ.go B (bJ.refl BE w') (fun _ h=>h.elim) (fun _ h=>h.elim) fun b a _=>?_;rcases a with a|a|a
  · exact .inl<|.inl a
  · exact .inl<|.inr<|lh a
  · exact .inr a
theorem run_bs{α:Type}{R:kW α}{E:TypeId}{L m:Nat}{A:BS}{a:Array (Nat×Operand)}{len:Nat}{vs:List Value}{xs:List α}(M:ko P T E L m)(S:R.sz=L)
    (hx:(a.toList.map fun p=>(p.1,ev n env p.2))=vs.zipIdx.map fun p=>(p.2,p.1)) (C:vs.length=len) (N:J9 R w A vs xs) (hA:∀b,A b->b<w.heap.size) (Q:len*L<=16777216):
    ∃u w',(execOp (ev n env) ⟨d,.buildSlice T len a,ty,pos,af,g⟩).run P w=.ok (.value u) w'/\Grow w w'/\bZ R E w' A u xs/\∀b,ob u b->w.heap.size=b:=by
  subst S;subst C;obtain⟨i,z,O,hz,y,a0,X⟩:=M.info;have e:=N.sizes;have o:=N.len;let zero:Array Value:=if vs.length*R.sz=0 then #[]else z.cells
  let c:Array Value:=(Array.range (vs.length*R.sz)).map (zero[· %zero.size]!);have f:c.size=vs.length*R.sz:=by simp[c]
  obtain⟨out,B,G⟩:=WQ R.pos vs 0 c e (by rw[f];simp);have j:=flat_len e;have s:out.toList=(vs.map fun v=>v.cells.toList).flatten:=by
    rw[G,Nat.zero_mul];simp only[Lh,List.take_zero,List.nil_append,Nat.zero_add];rw[List.drop_eq_nil_of_le (by rw[Array.length_toList,f,j];omega),List.append_nil]
  have k:out.size=vs.length*R.sz:=by rw[<-Array.length_toList,s,j]
  have q:(a.map fun p=>(p.1,ev n env p.2)).toList=vs.zipIdx.map fun p=>(p.2,p.1):=by simpa using hx
  have r:(execOp (ev n env) ⟨d,.buildSlice T vs.length a,ty,pos,af,g⟩).run P w=.ok (.value<|.slice (some ⟨w.heap.size,0,none⟩) vs.length vs.length) (w.alloc<|.cells out E):=by
    simp only[execOp,Instr.buildSlice,underlying,sizeOf,typeInfo];have J:¬(vs.length*R.sz>2 ^ 24):=by omega
    by_cases t:vs.length*R.sz=0
    · simp only[Sem.run_bind,run_program,Result.andThen_ok,M.desc,Sem.run_pure,O,y,Sem.run_ite,t,if_true];have:out= #[]:=Array.eq_empty_of_size_eq_zero (by rw[k,t]);have K:Instr.fill (fun i=>some (i*R.sz,R.sz)) ((Array.range 0).map fun x=>(#[]:Array Value)[x%(#[]:Array Value).size]!) (a.map fun p=>(p.1,ev n env p.2)).toList=some out:=by
        rw[q];have:c=(Array.range 0).map (fun x=>(#[]:Array Value)[x%(#[]:Array Value).size]!):=by simp[c,t]
        rw[<-this];exact B
      rw[K];simp[newRow,World.alloc,-World.alloc_eq]
    · simp only[Sem.run_bind,run_program,Result.andThen_ok,M.desc,Sem.run_pure,O,y,Sem.run_ite,if_neg J,t,if_false,zeroValue,typeInfo,hz];have K:Instr.fill (fun i=>some (i*R.sz,R.sz)) ((Array.range<|vs.length*R.sz).map fun x=>z.cells[x%z.cells.size]!) (a.map fun p=>(p.1,ev n env p.2)).toList=some out:=by
        rw[q];have:c=(Array.range<|vs.length*R.sz).map (fun x=>z.cells[x%z.cells.size]!):=by simp[c,zero,t]
        rw[<-this];exact B
      rw[K];simp[newRow,World.alloc,-World.alloc_eq]
  refine⟨_,_,r,Grow.alloc _ _,⟨out.toList,⟨by rw[Array.length_toList,k,o],.inr ⟨w.heap.size,vs.length,out,by rw[o],Nat.zero_le _,Ow _ _,by omega,?_,k,?_⟩⟩,?_⟩,?_⟩
  · unfold maxLen;have:vs.length<=vs.length*R.sz:=Nat.le_mul_of_pos_right _ R.pos;omega
  · rw[List.take_of_length_le];rw[Array.length_toList,k,o];exact Nat.le_refl _
  · intro i I;have h5:=R.go (A':=fun b=>A b\/ob (.slice (some ⟨w.heap.size,0,none⟩) vs.length vs.length) b) (N.at i I) (Grow.alloc w (.cells out E)) (fun _ h=>h.elim) (fun b l hl=>by
      rcases l with l|l
      · exact l
      · simp[ob]at l;omega)
    rw[s];exact h5
  · intro b l;simp[ob]at l;exact l.symm
theorem qo{α:Type}{R:kW α}{E:TypeId}{f c:Nat}{a:Array (Nat×Operand)}{len:Nat}{vs:List Value}{xs:List α}(h:SH w0 M K w hp)(i:Nat)(t:ko P T E f c)(l:R.sz=f)
  (v:(a.toList.map fun p=>(p.1,ev n env p.2))=vs.zipIdx.map fun p=>(p.2,p.1)) (e:vs.length=len) (r:J9 R w (SH.A M hp) vs xs) (j:Nat.ble (len*f) 16777216=true)
  (k:∀w' u,SH w0 M K w' (bX hp i (.own R E u xs))->WL P ops Q rest n (gy env d u) w'):
  WL P ops Q (⟨d,.buildSlice T len a,ty,pos,af,none⟩::rest) n env w:=by
 obtain⟨u,w',q,s,m,o⟩:=run_bs (d:=d) (ty:=ty) (pos:=pos) (af:=af) (g:=none) t l v e r h.lt<|Nat.le_of_ble_eq_true j;exact F q<|k w' u<|h.tH i s m fun b x=>Nat.le_of_eq<|o b x
theorem run_places{P:Program}{w:World}:∀(a:List Field) (c:List (Nat×Nat)),a.map (fun f=>(f.offset,(P.info? f.type).map (·.size)))=c.map (fun p=>(p.1,some p.2))->
    (a.mapM (m:=Sem) fun f=>do pure (f.offset,<-sizeOf f.type)).run P w=.ok c w
  |[],[],_=>rfl
  |[],_::_,h=>by simp at h
  |_::_,[],h=>by simp at h
  |f::a,p::c,h=>by
    simp only[List.map_cons,List.cons.injEq,Prod.mk.injEq]at h;obtain⟨⟨k,d⟩,j⟩:=h;have e:=run_places (w:=w) a c j;obtain⟨i,b,g⟩:∃i,P.info? f.type=some i/\i.size=p.2:=by
      cases b:P.info? f.type with
      |none=>simp[b]at d
      |some i=>simp[b]at d;exact⟨i,Z,d⟩
    rw[List.mapM_cons];simp only[Sem.run_bind,sizeOf,typeInfo,run_program,Result.andThen_ok,b,Sem.run_pure,g,k];simp only[sizeOf,typeInfo]at e;rw[e];simp
theorem ou{zs out:List Value}{c:List (Nat×Nat)}{a:Array (Nat×Operand)}{pv:List (Nat×Value)}(o:Struct P T zs c)(hp:(a.toList.map fun p=>(p.1,ρ p.2))=pv)(s:FillOk c zs pv out):
  (execOp ρ ⟨d,.build T a,ty,pos,af,g⟩).run P w=.ok (.value (.agg out.toArray)) w:=by
 obtain⟨q,n,j⟩:=o.desc;obtain⟨i,h,t⟩:∃i,P.info? T=some i/\i.zero=some (.agg zs.toArray):=by
  have:=o.zero;cases h:P.info? T with
  |none=>simp[h]at this
  |some i=>simp[h]at this;exact⟨i,Z,this⟩
 have r:=run_places (w:=w) q.toList c j;have l:(q.mapM (m:=Sem) fun f=>do pure (f.offset,<-sizeOf f.type)).run P w=.ok c.toArray w:=by
  rw[Array.mapM_eq_mapM_toList];simp only[Sem.run_map,r,Result.andThen_ok]
 have k:(a.map fun p=>(p.1,ρ p.2)).toList=pv:=by rw[<-hp];simp
 have b:=fill_ok s;simp only[execOp,Instr.build,zeroValue,typeInfo,underlying];simp only[Sem.run_bind,run_program,Result.andThen_ok,h,Sem.run_pure,t,n,l,k,Value.cells];have e:(fun(x:Nat)=>c.toArray[x]?)=fun(i:Nat)=>c[i]? :=by funext x;simp
 rw[e,b];simp
def isNil:Value->Bool| .slice none _ _=>true|_=>false
theorem EE{α:Type}{R:kW α}{T2 E:TypeId}{k:Nat}{B A:BS}{l:List α}{e:World}(f:SliceOf P T E k)(h:ρ x=v)(j:ed R e B A v l)(i:ρ y=.slice none 0 0):(execOp ρ ⟨d,.binOp .eql T x y T2,ty,pos,af,g⟩).run P w=.ok (.value (.bool (isNil v))) w:=by
 obtain⟨a,cap,rfl,n,p,m,o⟩:=j;have b:∀a l c,(Op.equalIn Op.maxDepth T (.slice a l c)<|.slice none 0 0).run P w=.ok a.isNone w:=by
  intro a l c;show(Op.equalIn (9999+1) T (.slice a l c)<|.slice none 0 0).run P w=_;unfold Op.equalIn;simp only[Sem.run_bind,underlying,run_program,Result.andThen_ok,f.desc,Sem.run_pure];cases a<;>simp
 cases a<;>simp[execOp,h,i,eqGuard,binOp,isNil,Op.equal,b]
theorem o8{α:Type}{R:kW α}{B A:BS}{l:List α}(d:ed R w B A v l)(h:isNil v=true):v=.slice none 0 0/\l=[]:=by
 obtain⟨a,cap,rfl,f,g,c,e⟩:=d;cases a with
 |none=>
  have:=c Z;subst this;have b:l.length=0:=by omega
  exact⟨by rw[b],List.eq_nil_of_length_eq_zero b⟩
 |some a=>simp[isNil]at h
theorem SH.xe{α:Type}{R:kW α}{E:TypeId}{l:List α}{k:Int}{a:α}{b:Nat}(h:SH w0 M K w hp)(i:Nat)(m:hp i=.own R E v l)(r:ob v b)(g:l[k.toNat]? =some a):
    ∃cs,At w b (k.toNat*R.sz) cs/\R.rd w (SH.A M hp) cs a:=by
  have d:k.toNat<l.length:=by
    rcases Nat.lt_or_ge k.toNat l.length with h|h
    · exact h
    · rw[List.getElem?_eq_none h]at g;cases g
  have j:l[k.toNat]=a:=by rw[List.getElem?_eq_getElem d]at g;exact Option.some.inj g
  obtain⟨a',cap,rfl,u,x,t,s⟩:=h.dM i m;obtain⟨b',o,cells,c,q,rfl,_,p,f⟩:=s k.toNat d;have:b=b':=r;subst this;have ho:o=0:=by
    obtain⟨xs,n,_⟩:=h.bG i m;rcases n.2 with⟨e,_⟩|⟨_,_,_,e,_⟩
    · cases e
    · cases e;rfl
  subst ho;rw[j]at f;rw[Nat.zero_add]at f;exact⟨_,⟨cells,c,q,p,by rw[R.len f]⟩,f⟩
theorem SH.uJ{α:Type}{R:kW α}{E:TypeId}{m:Nat}{l:List α}{k:Int}{a:α}(h:SH w0 M K w hp)(i:Nat)(c:hp i=.own R E v l)(n:SliceOf P T E m)(f:R.sz=m)(j:0<=k)(o:l[k.toNat]? =some a):
    ∃b,ob v b/\IxOk P T v k (.pointer (some ⟨b,k.toNat*m,none⟩)):=by
  subst f;have q:k.toNat<l.length:=by
    rcases Nat.lt_or_ge k.toNat l.length with h|h
    · exact h
    · rw[List.getElem?_eq_none h]at o;cases o
  obtain⟨xs,p,_⟩:=h.bG i c;rcases p.2 with⟨rfl,hn⟩|⟨g',cap,cur,rfl,_⟩
  · omega
  refine⟨g',Z,fun ρ x y w d ty pos af g r t=>?_⟩;obtain⟨i,c,f⟩:∃i,P.info? E=some i/\i.size=R.sz:=by
    have:=n.info;cases c:P.info? E with
    |none=>simp[c]at this
    |some i=>simp[c]at this;exact⟨i,Z,this⟩
  simp only[execOp,Instr.indexAt,r,t,asIntOf,underlying,sizeOf,typeInfo];have s:(⟨g',0,none⟩:Addr).add (k.toNat*R.sz)=⟨g',k.toNat*R.sz,none⟩:=by
    unfold Addr.add;split
    · next hz=>rw[hz]
    · simp
  have e:k<(l.length:Int):=by omega
  simp[n.desc,c,f,j,e,s]
theorem SH.cutO{α:Type}{R:kW α}{E:TypeId}{S:Nat}{l:List α}{b:Int}(h:SH w0 M K w hp)(i:Nat)(L:hp i=.own R E v l)(p:SliceOf P T E S)(X:R.sz=S)(m:0<=b)(Q:b<=l.length):
    ∃u,SH w0 M K w (bX hp i (.own R E u (l.take b.toNat)))/\SlOk P T v 0 b l.length u:=by
  subst X;have n:b.toNat<=l.length:=by omega
  have d:(l.take b.toNat).length=b.toNat:=by rw[List.length_take];omega
  obtain⟨xs,A,q2⟩:=h.bG i L;obtain⟨u,C,hr⟩:=r_sl (P:=P) (T:=T) p (h.dM i L) (Int.le_refl 0) m Q;have hv:∃cap,v=.slice none 0 0\/∃g,v=.slice (some ⟨g,0,none⟩) l.length cap:=by
    rcases A.2 with⟨rfl,_⟩|⟨g',cap,cur,rfl,_⟩
    · exact⟨0,.inl Z⟩
    · exact⟨cap,.inr ⟨g',Z⟩⟩
  have e:=C (fun o=>match o with| .tmp 0=>v| .const v=>v|_=>undef) (.tmp 0) none (some<|.const<|.int .i64 b) w none 0 "" #[] none Z (.inl ⟨Z,Z⟩) (.inr Z);rcases A.2 with⟨rfl,hn⟩|⟨g',cap,cur,rfl,e1,e2,e3,e4,e5,e6⟩
  · have B:l=[]:=List.eq_nil_of_length_eq_zero hn;subst B;obtain⟨a,cap,rfl,h1,h2,h3,h4⟩:=hr;have N:b=0:=by simp at Q;omega
    subst N;have:a=none/\cap=0:=by
      obtain⟨q,k⟩:∃q,P.info? E=some q:=by
        have:=p.info;cases r:P.info? E with
        |none=>simp[r]at this
        |some i=>exact⟨i,rfl⟩
      simp[execOp,Instr.sliceAt,Instr.slice,underlying,p.desc,Instr.sliceBounds,Instr.sliceBound,asIntOf,sizeOf,typeInfo,k,cut]at e;exact⟨e.1.symm,e.2.symm⟩
    obtain⟨rfl,rfl⟩:=this;refine⟨_,?_,C⟩;have:=h.step (c:=.own R E (.slice none 0 0) ([]:List α)) i (bJ.refl BE w) (fun _ h=>h.elim) (fun _ h=>h.elim) bZ.nil;simpa[cut]using this
  · have G:u=.slice (some ⟨g',0,none⟩) b.toNat cap:=by
      obtain⟨q,k,y⟩:∃q,P.info? E=some q/\q.size=R.sz:=by
        have:=p.info;cases r:P.info? E with
        |none=>simp[r]at this
        |some i=>simp[r]at this;exact⟨i,Z,this⟩
      obtain⟨t,rfl⟩:=Int.eq_ofNat_of_zero_le m;have I:t<=cap:=by simp at n;omega
      have z:(⟨g',0,none⟩:Addr).add 0=⟨g',0,none⟩:=rfl;have a0:(0:Int)<=(t:Int):=Int.natCast_nonneg t;have a1:(t:Int)<=(cap:Int):=by omega
      by_cases s:cap=0
      · subst s;have m:t=0:=by omega
        subst m;simp[execOp,Instr.sliceAt,Instr.slice,underlying,p.desc,Instr.sliceBounds,Instr.sliceBound,asIntOf,sizeOf,typeInfo,k,y]at e;simpa using e.symm
      · simp[execOp,Instr.sliceAt,Instr.slice,underlying,p.desc,Instr.sliceBounds,Instr.sliceBound,asIntOf,sizeOf,typeInfo,k,y,I,s,z]at e;simpa using e.symm
    subst G;refine⟨_,h.step (c:=.own R E (.slice (some ⟨g',0,none⟩) b.toNat cap) (l.take b.toNat)) i (bJ.refl BE w) (fun _ h=>h.elim) (fun x f _=>by rw[L];exact f) ⟨xs.take (b.toNat*R.sz),⟨?_,.inr ⟨g',cap,cur,by rw[d],e1,e2,?_,e4,e5,?_⟩⟩,?_⟩,C⟩
    · rw[d,List.length_take,A.1,Nat.min_eq_left (Nat.mul_le_mul_right _ n)]
    · rw[d];omega
    · rw[d,<-e6,List.take_take,Nat.min_eq_left (Nat.mul_le_mul_right _ n)]
    · intro j O;rw[d]at O;have J:j<l.length:=by omega
      have r:=R.go (A':=fun x=>(M x\/SH.av hp i (.own R E (.slice (some ⟨g',0,none⟩) b.toNat cap) (l.take b.toNat)) x)\/ob (.slice (some ⟨g',0,none⟩) b.toNat cap) x) (q2 j J) (bJ.refl BE w) (fun _ h=>h.elim) (fun x f _=>by
        rcases f with(f|f|f)|f
        · exact .inl<|.inl f
        · exact .inl<|.inr<|lh f
        · exact .inr f
        · exact .inr f)
      rw[List.getElem_take];rw[List.drop_take,List.take_take,Nat.min_eq_left]
      · exact r
      · have:(j+1)*R.sz<=b.toNat*R.sz:=Nat.mul_le_mul_right _ O;rw[Nat.add_mul]at this;omega
theorem PL{α:Type}{l:List α}{i o s off:Nat}{x:α}(ho:o=i+off):((l.set o x).drop i).take s=((l.drop i).take s).set off x:=by
 subst ho;rw[List.drop_set,if_neg V,Nat.add_sub_cancel_left,List.take_set]
theorem M4{α:Type}{l:List α}{i o s:Nat}{x:α}(h:o<i\/i+s<=o):((l.set o x).drop i).take s=(l.drop i).take s:=by
  rw[List.drop_set];split
  · rfl
  · rw[List.take_set,List.set_eq_of_length_le];rw[List.length_take];omega
theorem Ka{α:Type}{R:kW α}{E:TypeId}{G:Nat}{l:List α}{k:Int}{a a':α}{b off:Nat}{z u:Value}(h:SH w0 M K w hp)(i:Nat)(r:hp i=.own R E u l)(N:ob u b)(hs:R.sz=G)(s:l[k.toNat]? =some a)(hT:One P T z)(c:ev n env x=.pointer (some ⟨b,k.toNat*G+off,none⟩))
    (hy:ev n env y=v) (h1:v.oneCell'=true) (p:Nat.blt off G=true) (hset:∀cs,R.rd w (SH.A M hp) cs a->R.rd w (SH.A M hp) (cs.set off v) a')
    (kk:∀w',SH w0 M K w' (bX hp i (.own R E u (l.set k.toNat a')))->WL P ops Q rest n (gy env d undef) w'):
    WL P ops Q (⟨d,.store T x y,ty,pos,af,none⟩::rest) n env w:=by
  subst hs;rw[Nat.blt_eq]at p;have f:k.toNat<l.length:=by
    rcases Nat.lt_or_ge k.toNat l.length with h|h
    · exact h
    · rw[List.getElem?_eq_none h]at s;cases s
  have J:l[k.toNat]=a:=by rw[List.getElem?_eq_getElem f]at s;exact Option.some.inj s
  generalize k.toNat=k at*;have e:∀b,ob u b->SH.A M hp b:=fun b N=>.inr ⟨i,by rw[r];exact N⟩;obtain⟨xs,O,X⟩:=h.bG i r;rcases O.2 with⟨rfl,hn⟩|⟨g',cap,cur,rfl,e1,e2,e3,e4,e5,e6⟩
  · omega
  have B:b=g':=N;subst B;have t:(k+1)*R.sz<=l.length*R.sz:=Nat.mul_le_mul_right _ f;have a0:l.length*R.sz<=cap*R.sz:=Nat.mul_le_mul_right _ e3;rw[Nat.add_mul]at t;have I:k*R.sz+off<cur.size:=by omega
  have m:=bJ.wz w b<|.cells (cur.setIfInBounds (k*R.sz+off) v) E (0,0);refine AL (Rp hT c e2 I hy h1) (kk _ (h.step i m (fun x c _=>by rw[r];exact c) (fun x c _=>by rw[r];exact c) ⟨xs.set (k*R.sz+off) v,⟨?_,.inr ⟨b,cap,cur.setIfInBounds (k*R.sz+off) v,?_,e1,?_,?_,e4,?_,?_⟩⟩,?_⟩))
  · rw[List.length_set,List.length_set];exact O.1
  · rw[List.length_set]
  · rw[vw (iK e2)]
  · rw[List.length_set];exact e3
  · simpa using e5
  · rw[List.length_set,Array.toList_setIfInBounds,List.take_set,e6]
  · intro g C;have L:g<l.length:=by rwa[List.length_set]at C
    have q:=fun cs a(h:R.rd w (SH.A M hp) cs a)=>R.go (A':=fun x=>(M x\/(SH.av hp i (.own R E (.slice (some ⟨b,0,none⟩) l.length cap) (l.set k a'))) x)\/ob (.slice (some ⟨b,0,none⟩) l.length cap) x) h m (fun x c _=>e x c) (fun x c _=>by
      rcases c with(c|c|c)|c
      · exact .inl c
      · exact .inr<|lh c
      · exact e x c
      · exact e x c)
    have S:=fun j(hj:j<l.length)=>R.go (A':=SH.A M hp) (X j hj) (bJ.refl BE w) (fun _ h=>h.elim) fun x c _=>.inl c;by_cases o:g=k
    · subst o;rw[List.getElem_set_self,PL rfl];exact q _ _<|hset _<|J▸S g f
    · rw[List.getElem_set_ne (Ne.symm o),M4]
      · exact q _ _<|S g L
      · rcases Nat.lt_or_ge k g with h5|h5
        · left;have:(k+1)*R.sz<=g*R.sz:=Nat.mul_le_mul_right _ h5;rw[Nat.add_mul]at this;omega
        · right;have:(g+1)*R.sz<=k*R.sz:=Nat.mul_le_mul_right _ V;rw[Nat.add_mul]at this;omega
structure WK(P:Program)(ops:Array Oper)(w:World)(Q:Act->Prop)(l:List Oper)(n:Nat)(env:Nat->Value):Prop where
 out:wpQuiet P ops (fun x=>x=w) Q l (act n env)
end
section
variable{P:Program}{ops:Array Oper}
theorem vB{w:World}{Q:Act->Prop}:∀{l:List Oper} {a:Act},wpQuiet P ops (fun x=>x=w) Q l a->wpStill P ops w Q l a
  |[],_,h=>h
  |o::rest,a,h=>by
    unfold wpQuiet at h;unfold wpStill;split
    · rename_i c;rw[if_pos c]at h;obtain⟨v,i,d⟩:=h;have b:=i w Z;unfold Oper.quietAt at b;unfold Oper.still;generalize (execOp a.eval o).run P w=r at b⊢;cases r with
      |ok n w'=>
        cases n<;>simp only[Oper.quietUpon]at b<;>simp only[Oper.stillUpon];case value u=>exact⟨b.1,by rw[b.2];exact vB d⟩
        case skip=>exact⟨b.1,by rw[<-b.2];exact vB d⟩
        case enter f args=>exact⟨b.1,v,b.2.mono (fun e g h=>h),vB d⟩
      |halt x w'=>simp only[Oper.quietUpon]at b
    · rename_i c;rw[if_neg c]at h;exact vB h
end
section
variable{P:Program}{ops:Array Oper}{Q:Exit->Act->World->Prop}{n:Nat}{env:Nat->Value}{w w' w0:World}{M K:BS}{hp:Nat->Chunk}{rest:List Oper}
 {d:Option Nat} {op:Op} {ty:TypeId} {pos:String} {af:Array Edge} {v:Value} {g:Option (Nat×Bool)} {T:TypeId} {ρ:Operand->Value} {x y:Operand}
variable{Q1:Act->Prop}
theorem aG(c:(execOp (ev n env) ⟨d,op,ty,pos,af,none⟩).run P w=.ok (.value v) w)(h:WK P ops w Q1 rest n (gy env d v)):WK P ops w Q1 (⟨d,op,ty,pos,af,none⟩::rest) n env:=by
  refine⟨?_⟩;unfold wpQuiet;have a:Region.wanted ⟨d,op,ty,pos,af,none⟩ (yielded ops (act n env).tmps)=true:=rfl;rw[if_pos a];refine⟨v,fun w' b=>?_,?_⟩
  · subst b;unfold Oper.quietAt;rw[gN,c];exact⟨Z,Z⟩
  · rw[ED];exact h.out
theorem fQ{j dj:Nat}{b:Bool}(f:(ops[j]?).bind (·.dst)=some dj)(g:ev n env (.tmp dj)=.bool b)(h:WK P ops w Q1 (⟨d,op,ty,pos,af,none⟩::rest) n env):WK P ops w Q1 (⟨d,op,ty,pos,af,some (j,b)⟩::rest) n env:=by
  have c:=Lj (ops:=ops) f g;have e:Region.wanted ⟨d,op,ty,pos,af,some (j,b)⟩ (yielded ops (act n env).tmps)=true:=by simp[Region.wanted,c]
  have a:Region.wanted ⟨d,op,ty,pos,af,none⟩ (yielded ops (act n env).tmps)=true:=rfl;obtain⟨h⟩:=h;refine⟨?_⟩;unfold wpQuiet at h⊢;rw[if_pos a]at h;rw[if_pos e];exact h
theorem wk_skip(a:Region.wanted ⟨d,op,ty,pos,af,g⟩ (yielded ops (act n env).tmps)=false)(h:WK P ops w Q1 rest n (gy env d undef)):WK P ops w Q1 (⟨d,op,ty,pos,af,g⟩::rest) n env:=by
 refine⟨?_⟩;unfold wpQuiet;rw[if_neg (by rw[a];decide),ED];exact h.out
theorem dP{j dj:Nat}{b b':Bool}(c:(ops[j]?).bind (·.dst)=some dj)(e:ev n env (.tmp dj)=.bool b')(f:(b'==b)=false)(h:WK P ops w Q1 rest n (gy env d undef)):WK P ops w Q1 (⟨d,op,ty,pos,af,some (j,b)⟩::rest) n env:=
  wk_skip (by have a:=Lj (ops:=ops) c e;simpa[Region.wanted,a]using f) h
theorem PM{j dj:Nat}(b:(ops[j]?).bind (·.dst)=some dj)(c:ev n env (.tmp dj)=undef):yielded ops (act n env).tmps j=none:=by
  unfold yielded;have a:(act n env).eval (.tmp dj)=undef:=by rw[gN];exact c
  simp only[b,Option.bind_some];simp only[Act.eval]at a;cases h2:(act n env).tmps[dj]? with
  |none=>rfl
  |some x=>simp[Array.getD_eq_getD_getElem?,h2]at a;subst a;rfl
theorem AP{j dj:Nat}{b:Bool}(c:(ops[j]?).bind (·.dst)=some dj)(a:ev n env (.tmp dj)=undef)(h:WK P ops w Q1 rest n (gy env d undef)):WK P ops w Q1 (⟨d,op,ty,pos,af,some (j,b)⟩::rest) n env:=
  wk_skip (by simp[Region.wanted,PM c a]) h
theorem Ru{j dj:Nat}{b:Bool}(e:(ops[j]?).bind (·.dst)=some dj)(c:ev n env (.tmp dj)=undef)(h:WL P ops Q rest n (gy env d undef) w):WL P ops Q (⟨d,op,ty,pos,af,some (j,b)⟩::rest) n env w:=by
  have a:Region.wanted ⟨d,op,ty,pos,af,some (j,b)⟩ (yielded ops (act n env).tmps)=false:=by simp[Region.wanted,PM e c]
  refine⟨?_⟩;unfold wpList;rw[if_neg (by rw[a];decide),ED];exact h.out
theorem wk_gd{j dj:Nat}{b a:Bool}(c:Bool)(i:(ops[j]?).bind (·.dst)=some dj)(g:ev n env (.tmp dj)=gv c (.bool b))
    (m:(c&&(b==a))=true->(execOp (ev n env) ⟨d,op,ty,pos,af,none⟩).run P w=.ok (.value v) w) (h:WK P ops w Q1 rest n (gy env d (gv (c&&(b==a)) v))):
    WK P ops w Q1 (⟨d,op,ty,pos,af,some (j,a)⟩::rest) n env:=by
  by_cases f:(c&&(b==a))=true
  · have k:=gl f;have l:=gr f;rw[eH k]at g;rw[eH f]at h;have o:b=a:=by simpa using l
    subst o;exact fQ i g<|aG (m f) h
  · have e:(c&&(b==a))=false:=by simpa using f
    rw[e]at h;cases c with
    |true=>exact dP i g (by simpa using e) h
    |false=>exact AP i g h
theorem ny{j dj:Nat}{b a:Bool}(f:(ops[j]?).bind (·.dst)=some dj)(e:ev n env (.tmp dj)=.bool b)
    (c:(b==a)=true->(execOp (ev n env) ⟨d,op,ty,pos,af,none⟩).run P w=.ok (.value v) w) (h:WK P ops w Q1 rest n (gy env d (gv (b==a) v))):
    WK P ops w Q1 (⟨d,op,ty,pos,af,some (j,a)⟩::rest) n env:=
  wk_gd true f e (fun h=>c (by simpa using h)) (by simpa using h)
theorem Bq{l:List Oper}(h:WL P ops Q l n env w):WK P ops w (fun a=>wpList P ops Q l a w) [] n env:=⟨h.out⟩
theorem uZ{id:Nat}(k:Nat){l:List Oper}(b:P.follows .mixedOrders=true)(d:Region.lexTailB .any l.toArray k=true)(h:SH w0 M K w hp)
  (c:∀w,SH w0 M K w hp->WK P l.toArray w (fun a=>wpList P l.toArray Q (l.drop k) a w) (l.take k) n env):WC P (Code.region id l.toArray true) Q n env w:=
 ⟨wp_region_still_tail k b d (vB (c _ (h.grow (Grow.drew w))).out)⟩
theorem qp{id:Nat}{l:List Oper}(b:P.follows .mixedOrders=true)(d:Region.lexB .any l.toArray=true)(h:SH w0 M K w hp)
  (c:∀w,SH w0 M K w hp->WK P l.toArray w (fun a=>∀w',w'=w->Q .normal a w') l n env):WC P (Code.region id l.toArray true) Q n env w:=
 ⟨wp_region_quiet (C:=fun x=>x=w.drew) b d Z (c _ (h.grow (Grow.drew w))).out⟩
theorem qD(h:Q .normal (act n env) w):WK P ops w (fun a=>∀w',w'=w->Q .normal a w') [] n env:=⟨fun _ e=>by rw[e];exact h⟩
end
open Go.RowKit
section
variable{P:Program}{ops:Array Oper}{Q:Exit->Act->World->Prop}{n:Nat}{env:Nat->Value}{w w' w0:World}{M K:BS}{hp:Nat->Chunk}{rest:List Oper}
 {d:Option Nat} {op:Op} {ty:TypeId} {pos:String} {af:Array Edge} {v:Value} {g:Option (Nat×Bool)} {T:TypeId} {ρ:Operand->Value} {x y:Operand}
theorem Gf{v:Value}(h:v.oneCell'=true):v.cells= #[v]:=by
 cases v<;>first|rfl|simp[Value.oneCell']at h
theorem dS{v:Value}(h:v.oneCell'=true):v.cells.toList=[v]:=by rw[Gf h]
theorem ed.rdc{α:Type}{R:kW α}{A:BS}{l:List α}(h:df R w A v l):(tu R).rd w A v.cells.toList l:=by
 rw[Gf h.one];exact⟨v,Z,h⟩
theorem gvn{c d:Bool}{v:Value}(h:c=true):gv (c&&d) v=gv d v:=by rw[h,Bool.true_and]
theorem aK:∀v∈([]:List Value),v.oneCell'=true:=fun _ h=>by cases h
theorem aa{a:Value}{l:List Value}(b:a.oneCell'=true)(c:∀v∈l,v.oneCell'=true):∀v∈a::l,v.oneCell'=true:=fun v h=>by
  rcases List.mem_cons.1 h with rfl|h
  · exact b
  · exact c v h
def Room{α:Type}(a:Nat)(l m:List α):Prop:=(l.length+m.length)*a<=140737488355328/\l.length+m.length<=9223372036854775807
instance {α:Type} (bytes:Nat) (l m:List α):Decidable (Room bytes l m):=inferInstanceAs (Decidable (_/\_))
theorem Room.mk{α:Type}{a:Nat}{l m:List α}(b:(l.length+m.length)*a<=140737488355328)(c:l.length+m.length<=9223372036854775807):Room a l m:=⟨b,c⟩
theorem set1{α:Type}{R:kW α}{A:BS}{cs:List Value}{a a':α}{v:Value}(h:R.rd w A v.cells.toList a')(e:R.rd w A cs a)(d:R.sz=1:=by rfl)(b:v.oneCell'=true:=by assumption):R.rd w A (cs.set 0 v) a':=by
 have:=R.len e;rw[d]at this
 match cs,this with
 |[c],_=>rw[dS b]at h;exact h
theorem r_rem{T2:TypeId}{p m:Int}(b:ρ x=.int .i64 p)(c:ρ y=.int .i64 m)(e:0<m):(execOp ρ ⟨d,.binOp .rem T x y T2,ty,pos,af,g⟩).run P w=.ok (.value (.int .i64 (Int.tmod p m))) w:=by
 have a:m≠0:=by omega
 simp[execOp,b,c,eqGuard,binOp,Op.intDiv,a]
theorem gF{f:FuncId}{first captured:Array Value}{xs:Array Operand}{c:Array TypeId}{args:List Value}(a:Rs P f)(g:ev n env x=.func (.func f) first captured)
  (i:first.toList++xs.toList.map (ev n env)++captured.toList=args) (b:Calls P f args.toArray w (fun e w'=>∃v,e=.returned v/\WL P ops Q rest n (gy env d v) w')):
  WL P ops Q (⟨d,.call {callee:=.value x,args:=xs,argTypes:=c},ty,pos,af,none⟩::rest) n env w:=
 bW a g i b (fun _ _ h=>h)
theorem kX{α:Type}{a b:α}{l m:List α}(h:a=b)(c:l=m):a::l=b::m:=by rw[h,c]
theorem w_callG{f:FuncId}{first captured:Array Value}{xs:Array Operand}{y:Array TypeId}{args:List Value}{j dj:Nat}{b a:Bool}(g:Bool)(m:(ops[j]?).bind (·.dst)=some dj)(l:ev n env (.tmp dj)=gv g (.bool b))(p:Rs P f)(q:ev n env x=.func (.func f) first captured)
    (r:(g&&(b==a))=true->first.toList++xs.toList.map (ev n env)++captured.toList=args) (u:Calls P f args.toArray w (fun e w'=>Grow w w'/\e=.returned v))
    (k:∀w',Grow w w'->WL P ops Q rest n (gy env d (gv (g&&(b==a)) v)) w'):
    WL P ops Q (⟨d,.call {callee:=.value x,args:=xs,argTypes:=y},ty,pos,af,some (j,a)⟩::rest) n env w:=by
  by_cases c:(g&&(b==a))=true
  · have s:=gl c;have o:=gr c;rw[eH s]at l;have t:b=a:=by simpa using o
    subst t;refine J7 m l<|bW p q (r c) u ?_;rintro e w'⟨z,rfl⟩;refine⟨_,Z,?_⟩;have:=k w' z;rw[eH c]at this;exact this
  · have i:(g&&(b==a))=false:=by simpa using c
    have h:=k w<|bJ.refl _ _;rw[i]at h;cases g with
    |true=>exact bQ m l (by simpa using i) h
    |false=>exact Ru m l h
theorem w_callG0{f:FuncId}{first captured:Array Value}{xs:Array Operand}{l:Array TypeId}{args:List Value}{j dj:Nat}{b a:Bool}(m:(ops[j]?).bind (·.dst)=some dj)(g:ev n env (.tmp dj)=.bool b)(o:Rs P f)(c:ev n env x=.func (.func f) first captured)
    (i:(b==a)=true->first.toList++xs.toList.map (ev n env)++captured.toList=args) (p:Calls P f args.toArray w (fun e w'=>Grow w w'/\e=.returned v))
    (k:∀w',Grow w w'->WL P ops Q rest n (gy env d (gv (b==a) v)) w'):
    WL P ops Q (⟨d,.call {callee:=.value x,args:=xs,argTypes:=l},ty,pos,af,some (j,a)⟩::rest) n env w:=
  w_callG true m g o c (fun h=>i (by simpa using h)) p (by simpa using k)
theorem SH.dW{α:Type}{R:kW α}{E:TypeId}{l:List α}(h:SH w0 M BE w hp)(i:Nat)(c:hp i=.own R E v l):bZ R E w M v l/\∀b,ob v b->w0.heap.size<=b:=
 ⟨bZ.go (h.bG i c) (bJ.refl BE w) (fun _ h=>h.elim) (fun _ h=>h.elim) (fun b a _=>.inl (.inl a)),fun b a=>h.fresh i b (by rw[c];exact a)⟩
theorem eG{s:Nat}:∀b,ob (.slice none 0 0) b->s<=b:=fun _ h=>h.elim
theorem pg{P:Program}{E:TypeId}{z:Value}{s b:Nat}(h:(P.info? E).map (fun i=>(i.zero,i.size,i.bytes))=some (some z,s,b))(a:z.cells.size=s):∃i z,P.info? E=some i/\i.zero=some z/\i.size=s/\i.bytes=b/\z.cells.size=s:=by
 cases hi:P.info? E with
 |none=>simp[hi]at h
 |some i=>simp[hi]at h;exact⟨i,z,Z,h.1,h.2.1,h.2.2,a⟩
theorem r_max{T2:TypeId}{p q:Int}(a:ρ x=.int .i64 p)(b:ρ y=.int .i64 q):(execOp ρ ⟨d,.call {callee:=.builtin .max,args:= #[x,y],argTypes:= #[T,T2]},ty,pos,af,g⟩).run P w=.ok (.value (.int .i64 (max p q))) w:=by
 have h:(if q>p then q else p)=max p q:=by split<;>omega
 simp[execOp,resolve,invoke,builtin,Builtin.max_,Builtin.max2,a,b,h]
theorem r_min{T2:TypeId}{p q:Int}(a:ρ x=.int .i64 p)(b:ρ y=.int .i64 q):(execOp ρ ⟨d,.call {callee:=.builtin .min,args:= #[x,y],argTypes:= #[T,T2]},ty,pos,af,g⟩).run P w=.ok (.value (.int .i64 (min p q))) w:=by
 have h:(if q<p then q else p)=min p q:=by split<;>omega
 simp[execOp,resolve,invoke,builtin,Builtin.min_,Builtin.min2,a,b,h]
theorem Cb{zs vs cs:List Value}{b i:Nat}(j:SH w0 M K w hp)(k:hp i=.blk b cs)(l:wF P T zs)(e:vs.length=zs.length)(f:cs=vs):(loadVar T ⟨b,0,none⟩).run P w=.ok (.agg vs.toArray) w:=by
 subst f;have h:=vz (P:=P) (ρ:=fun _=>.pointer (some ⟨b,0,none⟩)) (d:=none) (ty:=0) (pos:= "") (af:= #[]) (g:=none) (x:=.tmp 0) (o:=0) (vs:=cs) j i k l Z (by rw[<-e];simp) e;simp only[execOp,Instr.loadAt,Instr.sureAddr]at h;have c:((loadVar T ⟨b,0,none⟩).run P w).andThen (fun a w'=>Result.ok (Next.value a) w')=Result.ok (Next.value (Value.agg cs.toArray)) w:=by simpa using h
 cases hres:(loadVar T ⟨b,0,none⟩).run P w with
 |ok v w'=>rw[hres]at c;simp at c;rw[c.1,c.2]
 |halt x w'=>rw[hres]at c;simp[Result.andThen]at c
theorem fin_tct{g:Func}{R:Ending->World->Prop}{t u a:Tmp}{T:TypeId}{v1 v3:Value}{zs vs:List Value}{b:Nat}(l:g.results= #[.tmp t,.cell a T,.tmp u])(k:ev n env (.tmp t)=v1)(p:ev n env (.tmp a)=.pointer (some ⟨b,0,none⟩))(m:ev n env (.tmp u)=v3)
  (q:SH w0 M K w hp) (i:Nat) (r:hp i=.blk b vs) (o:wF P T zs) (j:vs.length=zs.length) (h:R (.returned (.tuple #[v1,.agg vs.toArray,v3])) w):bodyPost P g R .ret (act n env) w:=by
 refine⟨Z,_,?_,h⟩;have e:=congrFun (gN n env)<|.tmp t;have c:=congrFun (gN n env)<|.tmp u;have d:=congrFun (gN n env)<|.tmp a;rw[k]at e;rw[m]at c;rw[p]at d;simp only[Act.eval]at e c d;rw[Array.getD_eq_getD_getElem?]at e c d;have f:=Cb (P:=P) q r o j Z;unfold results;rw[l];simp[e,c,d,asAddr,f]
theorem SH.jI{α:Type}{R:kW α}{E:TypeId}{l:List α}(h:SH w0 M K w hp)(j i:Nat)(o:hp j=.own R E v l)(u:hp i=.no)(t:j≠i):SH w0 M K w (bX (bX hp j .no) i (.own R E v l)):=by
  have ho:=h.bG j o;have d:∀x b,(bX (bX hp j .no) i (.own R E v l) x).own' b->∃y,(hp y).own' b/\(x=i->y=j)/\(x≠i->y=x/\x≠j):=by
    intro x b a;by_cases e:x=i
    · subst e;rw[dn]at a;exact⟨j,by rw[o];exact a,fun _=>rfl,fun h=>absurd Z h⟩
    · rw[fA e]at a;by_cases c:x=j
      · subst c;rw[dn]at a;exact a.elim
      · rw[fA c]at a;exact⟨x,a,fun h=>absurd h e,fun _=>⟨Z,c⟩⟩
  have f:∀b,iL (bX (bX hp j .no) i<|.own R E v l) b->iL hp b:=fun b⟨x,n⟩=>let ⟨y,g,_⟩:=d x b n;⟨y,g⟩;refine⟨h.keep,h.ltM,fun x b a=>let ⟨y,g,_⟩:=d x b a;h.apM y b g,fun x=>?_,fun x y k b n g=>?_,fun x b a=>let ⟨y,g,_⟩:=d x b a;h.old y b g⟩
  · by_cases e:x=i
    · subst e;rw[dn];have:=h.ok j;rw[o]at this;exact Chunk.sub this fun b a _=>f b a
    · rw[fA e];by_cases c:x=j
      · subst c;rw[dn];trivial
      · rw[fA c];exact Chunk.sub (h.ok x) (fun b a _=>f b a)
  · obtain⟨x',r,s,m⟩:=d x b n;obtain⟨q,k1,k2,p⟩:=d y b g;have:x'≠q:=by
      by_cases e:x=i
      · have c:y≠i:=fun h=>k<|e.trans h.symm;rw[s e,(p c).1];exact fun h=>(p c).2 h.symm
      · by_cases c:y=i
        · rw[k2 c,(m e).1];exact(m e).2
        · rw[(m e).1,(p c).1];exact k
    exact h.apart x' q this b r k1
theorem SH.fT{α:Type}{R:kW α}{l:List α}(h:SH w0 M K w hp)(j i:Nat)(a:hp j=.rd R v l):SH w0 M K w (bX hp i (.rd R v l)):=h.aJ i (h.bH j a)
theorem SH.Ai{α:Type}{R:kW α}{l:List α}(h:SH w0 M K w hp)(i:Nat)(c:hp i=.rd R v l):df R w M v l:=
 (h.bH i c).sub (fun b a _=>.inl a) (fun b a _=>.inl a)
def clone{α:Type}(b:Nat)(a:List α):Option (List α):=iF (Room b ([]:List α) a) (some a)
structure Arr2(P:Program)(T E:TypeId):Prop where
  desc:P.underlying T=some (.array 2 E)
  zero:∃z0 z1,(P.info? T).map (·.zero)=some (some (.agg #[z0,z1]))
  size:(P.info? E).map (·.size)=some 1
  plain:∃F,P.underlying E=some (.slice F)
theorem r_build2{E:TypeId}{x y:Operand}{p q:Value}(e:Arr2 P T E)(l:ρ x=p)(m:ρ y=q)(o:p.oneCell'=true)(s:q.oneCell'=true):(execOp ρ ⟨d,.build T #[(0,x),(1,y)],ty,pos,af,g⟩).run P w=.ok (.value (.agg #[p,q])) w:=by
 obtain⟨b,f,h⟩:=e.zero;obtain⟨i,a,k⟩:∃i,P.info? T=some i/\i.zero=some (.agg #[b,f]):=by
  cases a:P.info? T with
  |none=>simp[a]at h
  |some i=>simp[a]at h;exact⟨i,Z,h⟩
 obtain⟨j,r,c⟩:∃j,P.info? E=some j/\j.size=1:=by
  have:=e.size;cases a:P.info? E with
  |none=>simp[a]at this
  |some i=>simp[a]at this;exact⟨i,Z,this⟩
 have c1:=Gf o;have c2:=Gf s;simp only[execOp,Instr.build,l,m,underlying,zeroValue,typeInfo,sizeOf];have n:(Value.agg #[b,f]).cells= #[b,f]:=rfl;simp[a,k,e.desc,r,c,Instr.fill,c1,c2,n,l,m]
theorem r_index2{E:TypeId}{x y:Operand}{p q v:Value}{k:Nat}(f:Arr2 P T E)(o:ρ x=.agg #[p,q])(s:ρ y=.int .i64 k)(b:[p,q][k]? =some v):(execOp ρ ⟨d,.index T x y,ty,pos,af,g⟩).run P w=.ok (.value v) w:=by
  obtain⟨a,m⟩:=f.plain;obtain⟨j,r,e⟩:∃j,P.info? E=some j/\j.size=1:=by
    have:=f.size;cases hi:P.info? E with
    |none=>simp[hi]at this
    |some i=>simp[hi]at this;exact⟨i,Z,this⟩
  have l:k<2:=by
    rcases Nat.lt_or_ge k 2 with h|h
    · exact h
    · rw[List.getElem?_eq_none (by simpa using h)]at b;cases b
  have n:(#[p,q]:Array Value)[k]? =some v:=by simpa using b
  have c:((k:Int)<2):=by omega
  simp only[execOp,Instr.index,o,s,underlying,asIntOf,part,isAgg,sizeOf,typeInfo];simp[f.desc,r,e,m,c,l];rw[List.getElem?_eq_getElem (by simpa using l)]at b;exact Option.some.inj b
structure PairI(P:Program)(T:TypeId):Prop where
 desc:∃f0 f1,P.underlying T=some (.struct #[f0,f1])/\f0.name≠ "_" /\f1.name≠ "_" /\f0.offset=0/\f1.offset=1/\P.underlying f0.type=some (.int .i64)/\P.underlying f1.type=some (.int .i64)/\P.plainKey f0.type=true/\P.plainKey f1.type=true
 stood:P.stoodInHeld T=false
 guard:P.eqGuardType P.depth T=false
theorem eq_pairI(i:PairI P T)(a b c e:Int):(Op.equalIn 10000 T (.agg #[.int .i64 a,.int .i64 b]) (.agg #[.int .i64 c,.int .i64 e])).run P w=.ok (decide (a=c)&&decide (b=e)) w:=by
  obtain⟨k,g,f,q,p,n,o1,l,o,j,k1⟩:=i.desc;have d:P.fieldsOf T= #[k,g]:=by simp[Program.fieldsOf,f]
  rw[show(10000:Nat)=9999+1 from rfl,run_equalIn_agg w 9999 T _ _ (by rw[d];exact f) i.stood,d];simp only[Op.eqFields,q,p,ne_eq,not_false_eq_true,if_true,n,o1,Sem.run_bind];rw[run_part_plain w j (xs:= #[.int .i64 a,.int .i64 b]) (off:=0) (v:=.int .i64 a) rfl];simp only[Result.andThen_ok];rw[run_part_plain w j (xs:= #[.int .i64 c,.int .i64 e]) (off:=0) (v:=.int .i64 c) rfl];simp only[Result.andThen_ok];rw[show(9999:Nat)=9998+1 from rfl,run_equalIn_int w 9998 k.type .i64 .i64 a c l];simp only[Result.andThen_ok,Sem.run_ite,Sem.run_bind];by_cases h:a=c
  · subst h;simp only[beq_self_eq_true,Bool.not_true,Bool.false_eq_true,if_false];rw[run_part_plain w k1 (xs:= #[.int .i64 a,.int .i64 b]) (off:=1) (v:=.int .i64 b) rfl];simp only[Result.andThen_ok];rw[run_part_plain w k1 (xs:= #[.int .i64 a,.int .i64 e]) (off:=1) (v:=.int .i64 e) rfl];simp only[Result.andThen_ok];rw[run_equalIn_int w 9998 g.type .i64 .i64 b e o];by_cases m:b=e<;>simp[m]
  · simp[h]
theorem r_eqlP{T2:TypeId}{a b c e:Int}(f:PairI P T)(h:ρ x=.agg #[.int .i64 a,.int .i64 b])(i:ρ y=.agg #[.int .i64 c,.int .i64 e]):(execOp ρ ⟨d,.binOp .eql T x y T2,ty,pos,af,g⟩).run P w=.ok (.value (.bool (decide (a=c)&&decide (b=e)))) w:=by
 simp only[execOp,h,i,Sem.run_bind,run_eqGuard_agg w .eql T x y _ _ f.guard,Result.andThen_ok,run_eql_struct,eq_pairI f];simp
theorem r_neqP{T2:TypeId}{a b c e:Int}(f:PairI P T)(h:ρ x=.agg #[.int .i64 a,.int .i64 b])(i:ρ y=.agg #[.int .i64 c,.int .i64 e]):(execOp ρ ⟨d,.binOp .neq T x y T2,ty,pos,af,g⟩).run P w=.ok (.value (.bool (!(decide (a=c)&&decide (b=e))))) w:=by
 simp only[execOp,h,i,Sem.run_bind,run_eqGuard_agg w .neq T x y _ _ f.guard,Result.andThen_ok,run_neq_struct,eq_pairI f];simp
end
section
variable{σ:Type}{n:Nat}{e Tu:Nat->Value}{mod:Nat->Bool}{live:σ->List (Nat×Value)}{J:σ->World->Prop}{w:World}
theorem bN(s:σ)(b:J s w)(c:Holds e (live s):=by repeat (first|exact U|refine⟨rfl,?_⟩))
 (a:I1 mod e Tu:=by repeat (first|(with_reducible exact I1.refl _ _)|(with_reducible exact I1.hav _ _ _)|(with_reducible refine I1.on ?_)|((with_reducible refine I1.hin ?_ ?_);rfl)|(with_reducible refine I1.un ?_)|((with_reducible refine I1.os ?_ ?_);rfl)|((with_reducible refine I1.uc ?_ ?_);rfl))):
 JP n mod Tu live J (act n e) w:=⟨s,e,rfl,a,c,b⟩
theorem iY{a:σ->Nat}{c:σ}(s:σ)(f:J s w)(b:a s<a c:=by dsimp only;omega)(g:Holds e (live s):=by repeat (first|exact U|refine⟨rfl,?_⟩))
 (d:I1 mod e Tu:=by repeat (first|(with_reducible exact I1.refl _ _)|(with_reducible exact I1.hav _ _ _)|(with_reducible refine I1.on ?_)|((with_reducible refine I1.hin ?_ ?_);rfl)|(with_reducible refine I1.un ?_)|((with_reducible refine I1.os ?_ ?_);rfl)|((with_reducible refine I1.uc ?_ ?_);rfl))):
 JL n mod Tu live J a c (act n e) w:=⟨s,e,rfl,d,g,f,b⟩
end
section
variable{P:Program}{Q:Exit->Act->World->Prop}{n:Nat}{env:Nat->Value}{w:World}
theorem wc_rounds{c:Code}(m:Nat)(h:WC P c (Exit.then (Code.rounds P c Q m) Q) n env w):WC P (Code.loop c) Q n env w:=⟨wp_loop_rounds (m+1) h.out⟩
theorem WS{c:Code}{m:Nat}(h:WC P c (Exit.then (Code.rounds P c Q m) Q) n env w):Exit.then (Code.rounds P c Q (m+1)) Q .normal (act n env) w:=h.out
end
theorem SH.cn{w0 w:World}{M K:BS}{hp:Nat->Chunk}(h:SH w0 M K w hp)(l:List (Nat×Chunk))(a:HoldsC hp l:=by repeat (first|exact U|refine⟨rfl,?_⟩)):SH w0 M K w (hset l):=h.canon l a
section
variable{α β σ ρ:Type}
theorem drop_lt{l:List α}{k:Nat}(h:decide ((k:Int)<(l.length:Int))=true):∃x,l[k]? =some x/\l.drop k=x::l.drop (k+1):=by
 have a:k<l.length:=by have:=of_decide_eq_true h;omega
 exact⟨l[k],List.getElem?_eq_getElem a,List.drop_eq_getElem_cons a⟩
theorem drop_ge{l:List α}{k:Nat}(h:decide ((k:Int)<(l.length:Int))=false):l.drop k=[]:=by
 have:=of_decide_eq_false h;exact List.drop_eq_nil_of_le V
theorem iC{body:α->σ->(σ->ρ)->ρ}{k:σ->ρ}{x:α}{l:List α}{s:σ}:each body k (x::l) s=body x s (each body k l):=rfl
theorem qw{body:α->σ->(σ->ρ)->ρ}{k:σ->ρ}{s:σ}:each body k [] s=k s:=rfl
theorem wH{body:Int->α->σ->(σ->ρ)->ρ}{k:σ->ρ}{x:α}{l:List α}{s:σ}{i:Int}:fM body k i (x::l) s=body i x s (fM body k (i+1) l):=rfl
theorem Ox{body:Int->α->σ->(σ->ρ)->ρ}{k:σ->ρ}{s:σ}{i:Int}:fM body k i [] s=k s:=rfl
theorem upto_lt{body:Int->σ->(σ->ρ)->ρ}{k:σ->ρ}{s:σ}{i:Int}{j m:Nat}(h:j<m):upto body k i (m-j) s=body i s (upto body k (i+1) (m-(j+1))):=by
 rw[show m-j=(m-(j+1))+1 by omega];rfl
theorem upto_ge{body:Int->σ->(σ->ρ)->ρ}{k:σ->ρ}{s:σ}{i:Int}{j m:Nat}(h:m<=j):upto body k i (m-j) s=k s:=by
 rw[show m-j=0 by omega];rfl
theorem p9{body:σ->(σ->Option β)->Option β}{m:Nat}{s:σ}{r:β}(h:again body m s=some r):∃a,m=a+1/\body s (again body a)=some r:=by
 cases m with
 |zero=>cases h
 |succ m=>exact⟨m,rfl,h⟩
theorem eD{l:List α}{k:Nat}{i:Int}{x:α}(a:i=(k:Int))(h:l[k]? =some x):l[i.toNat]? =some x:=by subst a;simpa using h
theorem gQ{k:Nat}{i:Int}(a:i=(k:Int)):0<=i:=by omega
theorem fw{l:List α}{k:Nat}{i:Int}(c:l.length<=9223372036854775807)(b:i=(k:Int))(a:decide (i<(l.length:Int))=true):ku (i+1):=by
 have:=of_decide_eq_true a;exact⟨by omega,by omega⟩
end
open Go.RowKit
section
variable{P:Program}{ops:Array Oper}{C:World->Prop}{Q:Exit->Act->World->Prop}{n:Nat}{env:Nat->Value}{w w':World}{rest:List Oper}
 {d:Option Nat} {op:Op} {ty:TypeId} {pos:String} {af:Array Edge} {v:Value} {g:Option (Nat×Bool)} {T:TypeId} {ρ:Operand->Value}
def BndN(o:Option Value)(a b:Nat):Prop:=(o=none/\a=b)\/o=some (.int .i64 a)
theorem addr_zero(g:Nat):(⟨g,0,none⟩:Addr).add 0=⟨g,0,none⟩:=rfl
theorem xD{x:Operand}{f:Option Operand}{e:Operand}{E:TypeId}{n b len cap:Nat}{ad:Option Addr}(l:SliceOf P T E n)(o:ρ x=.slice ad len cap)(p:ad=none\/∃g,ad=some ⟨g,0,none⟩)(h:BndN (f.map ρ) 0 0)(a:ρ e=.int .i64 b)(m:b<=cap):
    (execOp ρ ⟨d,.slice T x f (some e) none,ty,pos,af,g⟩).run P w=.ok (.value (.slice ad b cap)) w:=by
  obtain⟨i,j,k⟩:∃i,P.info? E=some i/\i.size=n:=by
    have:=l.info;cases e:P.info? E with
    |none=>simp[e]at this
    |some i=>simp[e]at this;exact⟨i,Z,this⟩
  have c:(Instr.sliceBounds true len cap (f.map ρ) ((some e).map ρ) none).run P w=.ok (0,b,cap) w:=by
    have q:(b:Int)<=(cap:Int):=by omega
    rcases h with⟨e1,_⟩|e1
    · simp[Instr.sliceBounds,e1,a,Instr.sliceBound,asIntOf,m]
    · simp[Instr.sliceBounds,e1,a,Instr.sliceBound,asIntOf,m]
  simp only[execOp,Instr.sliceAt,Instr.slice,underlying,o];simp only[Option.map_some,a]at c;rcases p with rfl|⟨g,rfl⟩<;>simp[l.desc,c,sizeOf,typeInfo,j,k,a,addr_zero]
theorem oL{x:Operand}{u c n:Option Operand}{E:TypeId}{f gg a b m len cap:Nat}(v:SliceOf P T E f)(z:ρ x=.slice (some ⟨gg,0,none⟩) len cap)(l:BndN (u.map ρ) a 0)(p:BndN (c.map ρ) b len)(r:(n.map ρ=none/\m=cap)\/(n.map ρ=some (.int .i64 m)/\c.map ρ=some (.int .i64 b)))
    (h:a<=b) (j:b<=m) (s:m<=cap):
    (execOp ρ ⟨d,.slice T x u c n,ty,pos,af,g⟩).run P w=.ok (.value (.slice (some (if m=a then⟨gg,0,none⟩else⟨gg,a*f,none⟩)) (b-a) (m-a))) w:=by
  obtain⟨i,o,q⟩:∃i,P.info? E=some i/\i.size=f:=by
    have:=v.info;cases c:P.info? E with
    |none=>simp[c]at this
    |some i=>simp[c]at this;exact⟨i,Z,this⟩
  have e:(Instr.sliceBounds true len cap (u.map ρ) (c.map ρ)<|n.map ρ).run P w=.ok (a,b,m) w:=by
    have B:(0:Int)<=(a:Int):=Int.natCast_nonneg a;have y:(0:Int)<=(b:Int):=Int.natCast_nonneg b;have k:b<=cap:=by omega
    have t:a<=m:=by omega
    rcases r with⟨g1,g2⟩|⟨g1,f1⟩
    · subst g2;rcases l with⟨e1,e2⟩|e1<;>rcases p with⟨f1,f2⟩|f1<;>(try subst e2)<;>(try subst f2)<;>
        simp[Instr.sliceBounds,e1,f1,g1,Instr.sliceBound,asIntOf,h,j,k]
    · rcases l with⟨e1,e2⟩|e1<;>(try subst e2)<;>
        simp[Instr.sliceBounds,e1,f1,g1,Instr.sliceBound,asIntOf,h,j,s,t]
  have A:(⟨gg,0,none⟩:Addr).add (a*f)=⟨gg,a*f,none⟩:=by
    unfold Addr.add;split
    · next hz=>rw[hz]
    · simp
  simp only[execOp,Instr.sliceAt,Instr.slice,underlying,z];simp[v.desc,e,sizeOf,typeInfo,o,q,A];split<;>rfl
structure Raw(w:World)(gg cap sz:Nat)(E:TypeId)(cur:List Value):Prop where
 blk:w.heap[gg]? =some (.cells cur.toArray E (0,0))
 len:cur.length=cap*sz
 le:cap<=maxLen
theorem addr_add(gg o k:Nat):(⟨gg,o,none⟩:Addr).add k=⟨gg,o+k,none⟩:=by
  unfold Addr.add;split
  · next hz=>rw[hz];rfl
  · rfl
theorem Rv{x y:Operand}{E:TypeId}{b q gg cap a m c j:Nat}{e:List Value}{ad:Addr}(G:ko P T E b q)(r:Raw w gg cap b E e)(L:ev n env x=.slice (some ⟨gg,0,none⟩) a cap)(O:ev n env y=.slice (some ad) m c)
    (A:m=0\/ad=⟨gg,j*b,none⟩) (N:j+m<=cap) (t:a+m<=cap) (I:∀u∈(e.drop (j*b)).take (m*b),u.oneCell'=true)
    (h:∀w',bJ (fun x=>x=gg) w w'->Raw w' gg cap b E (e.take (a*b)++(e.drop (j*b)).take (m*b)++e.drop (a*b+m*b))->WL P ops Q rest n (gy env d (.slice (some ⟨gg,0,none⟩) (a+m) cap)) w'):
    WL P ops Q (⟨d,.call {callee:=.builtin .append,args:= #[x,y],argTypes:= #[T,T]},ty,pos,af,none⟩::rest) n env w:=by
  obtain⟨i,z,J,S,C,R,K⟩:=G.info;have M:j*b+m*b<=cap*b:=by rw[<-Nat.add_mul];exact Nat.mul_le_mul_right _ N
  have s:a*b+m*b<=cap*b:=by rw[<-Nat.add_mul];exact Nat.mul_le_mul_right _ t
  have l:=r.len;have f:((e.drop<|j*b).take<|m*b).length=m*b:=by rw[List.length_take,List.length_drop];omega
  have p:∀k u,((e.drop<|j*b).take<|m*b)[k]? =some u->w.cell? (ad.add k)=some u:=by
    intro k u v;rcases A with rfl|rfl
    · simp at v
    · rw[addr_add];have B:k<m*b:=by
        rcases Nat.lt_or_ge k (m*b)with h|h
        · exact h
        · rw[List.getElem?_eq_none V]at v;cases v
      rw[List.getElem?_take,if_pos B,List.getElem?_drop]at v;simp[World.cell?,r.blk,v]
  have g:=run_append_room (P:=P) w T ty E i G.desc J gg a cap e.toArray r.blk ad m c _ (by rw[C];exact f) p I t (by rw[C,f];simpa[l]using s);have o:(execOp (ev n env) ⟨d,.call {callee:=.builtin .append,args:= #[x,y],argTypes:= #[T,T]},ty,pos,af,none⟩).run P w=.ok (.value<|.slice (some ⟨gg,0,none⟩) (a+m) cap) (wz w gg<|.cells (e.take (a*b)++(e.drop<|j*b).take (m*b)++e.drop (a*b+m*b)).toArray E (0,0)):=by
    rw[C,f,Ja r.blk]at g;simp only[execOp,resolve,invoke,builtin,Sem.run_bind,Sem.run_pure,Result.andThen_ok,List.map_toArray,List.map_cons,List.map_nil,L,O,g]
  refine F o<|h _ (bJ.wz _ _ _) ⟨vw<|iK r.blk,?_,r.le⟩;rw[List.length_append,List.length_append,f,List.length_take,List.length_drop,l];omega
def ZeroOne(P:Program)(E:TypeId):Prop:=∃z,(P.info? E).map (·.zero)=some (some z)/\z.cells.all (·.oneCell')=true
theorem ZC{z:Array Value}{k:Nat}(h:z.all (·.oneCell')=true):∀u∈(Builtin.zeroCells z k).toList,u.oneCell'=true:=by
  intro u c;simp only[Builtin.zeroCells,Array.toList_map,List.mem_map]at c;obtain⟨i,d,rfl⟩:=c;have b:i<k*z.size:=by simpa using d
  have e:0<z.size:=by
    rcases Nat.eq_zero_or_pos z.size with h0|h0
    · rw[h0,Nat.mul_zero]at b;omega
    · exact h0
  have a:i%z.size<z.size:=Nat.mod_lt _ e;rw[getElem!_pos z (i%z.size) a];exact(Array.all_eq_true.1 h) _ a
theorem VK{x:Operand}{E:TypeId}{a j gg cap m k c:Nat}{b:List Value}(C:ko P T E a j)(y:ZeroOne P E)(q:Raw w gg cap a E b)(J:ev n env x=.slice (some ⟨gg,m*a,none⟩) k c)(M:0<k)(B:m+k<=cap)
    (h:∀w' f,bJ (fun x=>x=gg) w w'->Raw w' gg cap a E f->f.take (m*a)=b.take (m*a)->WL P ops Q rest n (gy env d (.tuple #[])) w'):
    WL P ops Q (⟨d,.call {callee:=.builtin .clear,args:= #[x],argTypes:= #[T]},ty,pos,af,none⟩::rest) n env w:=by
  obtain⟨i,z,I,G,L,K,v⟩:=C.info;obtain⟨t,r,p⟩:=y;have u:t=z:=by simp[I,G]at r;exact r.symm
  subst u;have A:m*a+k*a<=cap*a:=by rw[<-Nat.add_mul];exact Nat.mul_le_mul_right _ B
  have g:=q.len;have l:(Builtin.zeroCells t.cells k).toList.length=k*a:=by rw[Array.length_toList,size_zeroCells,v]
  have e:=run_storeCells_at (P:=P) gg (m*a) E (Builtin.zeroCells t.cells k).toList 0 b.toArray w q.blk (by rw[l];simpa[g]using A) (ZC p);rw[Ja q.blk]at e;obtain⟨s,rfl⟩:∃s,k=s+1:=⟨k-1,by omega⟩;have o:(execOp (ev n env) ⟨d,.call {callee:=.builtin .clear,args:= #[x],argTypes:= #[T]},ty,pos,af,none⟩).run P w=.ok (.value<|.tuple #[]) (wz w gg<|.cells (b.take (m*a)++(Builtin.zeroCells t.cells<|s+1).toList++b.drop (m*a+(s+1)*a)).toArray E (0,0)):=by
    rw[l]at e;simp only[Nat.add_zero]at e;simp only[execOp,resolve,invoke,builtin,Builtin.clear_,underlying,zeroValue,typeInfo,Sem.run_bind,Sem.run_pure,Result.andThen_ok,List.map_toArray,List.map_cons,List.map_nil,J];simp[C.desc,I,G,e]
  refine F o<|h _ _ (bJ.wz _ _ _) ⟨vw<|iK q.blk,?_,q.le⟩ ?_
  · rw[List.length_append,List.length_append,l,List.length_take,List.length_drop,g];omega
  · rw[List.append_assoc,List.take_append_of_le_length (by rw[List.length_take];omega),List.take_take,Nat.min_self]
end
theorem Wt{α:Type}{R:kW α}{E:TypeId}{w:World}{A:BS}{v:Value}{l:List α}(h:bZ R E w A v l)(j:0<l.length):
    ∃gg cap a,v=.slice (some ⟨gg,0,none⟩) l.length cap/\Raw w gg cap R.sz E a/\l.length<=cap/\∀i (h:i<l.length),R.rd w (fun b=>A b\/b=gg) ((a.drop (i*R.sz)).take R.sz) l[i]:=by
  obtain⟨xs,f,g⟩:=h;rcases f.2 with⟨rfl,hn⟩|⟨gg,cap,a,rfl,e1,e2,e3,e4,e5,e6⟩
  · omega
  refine⟨gg,cap,a.toList,Z,⟨by simpa using e2,by simpa using e5,e4⟩,e3,fun i d=>?_⟩;have c:(i+1)*R.sz<=l.length*R.sz:=Nat.mul_le_mul_right _ d;rw[Nat.add_mul]at c;have e:=g i d;rw[<-e6,List.drop_take,List.take_take,Nat.min_eq_left V]at e;exact e
theorem rd_ones{α:Type}{R:kW α}{w:World}{A:BS}{l:List α}{a:List Value}(h:∀i (h:i<l.length),R.rd w A ((a.drop (i*R.sz)).take R.sz) l[i]){j m:Nat}(g:j+m<=l.length):∀u∈(a.drop (j*R.sz)).take (m*R.sz),u.oneCell'=true:=by
 intro u d;obtain⟨k,f,rfl⟩:=List.getElem_of_mem d;have b:k<m*R.sz:=by rw[List.length_take]at f;omega
 have hp:=R.pos;have n:k / R.sz<m:=Nat.div_lt_of_lt_mul (by rw[Nat.mul_comm];exact b);refine R.one (h (j+k / R.sz) V) _ ?_;rw[List.mem_iff_getElem?];refine⟨k%R.sz,?_⟩;have c:k%R.sz<R.sz:=Nat.mod_lt _ hp;rw[List.getElem?_take,if_pos c,List.getElem?_drop,List.getElem_take,List.getElem_drop];have e:(j+k / R.sz)*R.sz+k%R.sz=j*R.sz+k:=by
  rw[Nat.add_mul,Nat.add_assoc,Nat.mul_comm (k / R.sz),Nat.div_add_mod]
 rw[e,List.getElem?_eq_getElem]
theorem raw_del{α:Type}{R:kW α}{E:TypeId}{w w':World}{A:BS}{l:List α}{gg cap i j:Nat}{c d:List Value}(r:Raw w' gg cap R.sz E d)(G:Raw w gg cap R.sz E c)(N:bJ (fun x=>x=gg) w w')(s:i<=j)(K:j<=l.length)(z:l.length<=cap)
    (g:∀k (h:k<l.length),R.rd w (fun b=>A b\/b=gg) ((c.drop (k*R.sz)).take R.sz) l[k])
    (v:d.take ((i+(l.length-j))*R.sz)=c.take (i*R.sz)++(c.drop (j*R.sz)).take ((l.length-j)*R.sz)):
    bZ R E w' A (.slice (some ⟨gg,0,none⟩) (i+(l.length-j)) cap) (l.take i++l.drop j):=by
  have e:(l.take i++l.drop j).length=i+(l.length-j):=by rw[List.length_append,List.length_take,List.length_drop];omega
  have y:=G.len;have L:l.length*R.sz<=cap*R.sz:=Nat.mul_le_mul_right _ z;have C:j*R.sz<=l.length*R.sz:=Nat.mul_le_mul_right _ K;have M:i*R.sz<=j*R.sz:=Nat.mul_le_mul_right _ s;have u:(l.length-j)*R.sz=l.length*R.sz-j*R.sz:=Nat.sub_mul _ _ _;have m:(c.take<|i*R.sz).length=i*R.sz:=by rw[List.length_take];omega
  refine⟨c.take (i*R.sz)++(c.drop<|j*R.sz).take ((l.length-j)*R.sz),⟨?_,.inr ⟨gg,cap,d.toArray,?_,Nat.zero_le _,r.blk,?_,r.le,?_,?_⟩⟩,?_⟩
  · rw[e,List.length_append,m,List.length_take,List.length_drop,Nat.add_mul];omega
  · rw[e]
  · rw[e];omega
  · simpa using r.len
  · rw[e];exact v
  · intro k o;rw[e]at o;have n:=fun cs a(h:R.rd w (fun b=>A b\/b=gg) cs a)=>R.go (A':=fun b=>A b\/b=gg) h N (fun x I _=>.inr I) fun _ h _=>h;by_cases p:k<i
    · have f:(k+1)*R.sz<=i*R.sz:=Nat.mul_le_mul_right _ p;rw[Nat.add_mul]at f;have t:=n _ _<|g k V;rw[List.getElem_append_left (by rw[List.length_take];omega),List.getElem_take,List.drop_append_of_le_length V,List.take_append_of_le_length (by rw[List.length_drop];omega),List.drop_take,List.take_take,Nat.min_eq_left V];exact t
    · have t:=n _ _<|g (j+(k-i)) V;have f:(k-i+1)*R.sz<=(l.length-j)*R.sz:=Nat.mul_le_mul_right _ V;rw[Nat.add_mul]at f;have J:i*R.sz<=k*R.sz:=Nat.mul_le_mul_right _ V;have q:(k-i)*R.sz=k*R.sz-i*R.sz:=Nat.sub_mul _ _ _;rw[List.getElem_append_right (by rw[List.length_take];omega)];have B:(l.drop j)[k-(l.take i).length]'(by rw[List.length_take,List.length_drop];omega)=l[j+(k-i)]'V:=by
        rw[List.getElem_drop];congr 1;rw[List.length_take];omega
      rw[B,List.drop_append,List.drop_eq_nil_of_le V,List.nil_append,m,<-q,List.drop_take,List.take_take,Nat.min_eq_left V,List.drop_drop,<-Nat.add_mul];exact t
theorem Raw.keep{w w':World}{gg cap b:Nat}{E:TypeId}{a:List Value}{N:BS}(h:Raw w gg cap b E a)(c:bJ N w w')(hn:¬N gg):Raw w' gg cap b E a:=⟨c.blk h.blk hn,h.len,h.le⟩
section
variable{P:Program}{Q:Exit->Act->World->Prop}{n:Nat}{env:Nat->Value}{w w' w0:World}{M K:BS}{hp:Nat->Chunk}
theorem Rw{id:Nat}(k:Nat){l:List Oper}(d:P.follows .mixedOrders=true)(e:Region.lexTailB .any l.toArray k=true)
  (c:∀b,Grow w b->WK P l.toArray b (fun a=>wpList P l.toArray Q (l.drop k) a b) (l.take k) n env):WC P (Code.region id l.toArray true) Q n env w:=
 ⟨wp_region_still_tail k d e (vB (c _ (Grow.drew w)).out)⟩
theorem SH.given{α:Type}{R:kW α}{E:TypeId}{v u:Value}{l d:List α}(h:SH w0 M K w hp)(i:Nat)(c:hp i=.own R E v l)(ho:bZ R E w' (fun b=>M b\/rest hp i b) u d)(f:bJ (ob v) w w')(hn:∀b,ob u b->b<w.heap.size->ob v b):SH w0 M K w' (bX hp i (.own R E u d)):=by
  refine h.step i f (fun b a _=>by rw[c];exact a) (fun b a e=>by rw[c];exact hn b a e) ?_;refine bZ.go ho (bJ.refl BE w') (fun _ h=>h.elim) (fun _ h=>h.elim) fun b a _=>?_;rcases a with a|a|a
  · exact .inl<|.inl a
  · exact .inl<|.inr a
  · exact .inr a
theorem SH.giveO{α:Type}{R:kW α}{E:TypeId}{v:Value}{l:List α}(h:SH w0 M K w hp)(i:Nat)(c:hp i=.own R E v l):bZ R E w (fun b=>M b\/rest hp i b) v l:=
 bZ.go (h.bG i c) (bJ.refl BE w) (fun _ h=>h.elim) (fun _ h=>h.elim) (fun b a _=>.inl (a.imp id lh))
theorem SH.Lm{α β:Type}{R:kW α}{R':kW β}{E:TypeId}{v u:Value}{l:List α}{e:List β}(h:SH w0 M K w hp)(i j:Nat)(d:hp i=.rd R v l)(c:hp j=.own R' E u e):df R w (fun b=>M b\/ob u b) v l:=
 (h.bH i d).sub (fun b a _=>a.elim .inl (fun a=>.inr ⟨j,by rw[c];exact a⟩)) (fun b a _=>a.elim .inl (fun a=>.inr ⟨j,by rw[c];exact a⟩))
theorem df.M5{α β:Type}{R:kW α}{R':kW β}{E:TypeId}{v u:Value}{l:List α}{d:List β}{i:Nat}(h:df R w (fun b=>SH.A M hp b\/ob u b) v l):df R w (SH.A M (bX hp i (.own R' E u d))) v l:=by
  have c:∀b,SH.A M (bX hp i<|.own R' E u d) b->SH.A M hp b\/ob u b:=by
    rintro b(a|⟨j,a⟩)
    · exact .inl<|.inl a
    · by_cases e:j=i
      · subst e;rw[dn]at a;exact .inr a
      · rw[fA e]at a;exact .inl (.inr ⟨j,a⟩)
  exact h.sub (fun b a _=>c b a) fun b a _=>c b a
theorem del_len{i j l cap a:Nat}{b:List Value}(g:b.length=cap*a)(d:i<=j)(m:j<=l)(f:l<=cap):
  ((b.take (i*a)++(b.drop (j*a)).take ((l-j)*a)++b.drop (i*a+(l-j)*a)).take ((i+(l-j))*a))=b.take (i*a)++(b.drop (j*a)).take ((l-j)*a):=by
 have k:i*a<=j*a:=Nat.mul_le_mul_right _ d;have n:j*a+(l-j)*a=l*a:=by rw[<-Nat.add_mul];congr 1;omega
 have h:l*a<=cap*a:=Nat.mul_le_mul_right _ f;have e:(b.take<|i*a).length=i*a:=by rw[List.length_take];omega
 have c:((b.drop<|j*a).take ((l-j)*a)).length=(l-j)*a:=by rw[List.length_take,List.length_drop];omega
 rw[Nat.add_mul,List.take_append_of_le_length (by rw[List.length_append,e,c];omega),List.take_of_length_le (by rw[List.length_append,e,c];omega)]
def del1{α:Type}(l:List α)(i j:Int):Option (List α):=if 0<=i/\i<j/\j<=l.length then some (l.take i.toNat++l.drop j.toNat)else none
theorem o_del{α:Type}{l r:List α}{i j:Int}(h:del1 l i j=some r):∃a b:Nat,i=a/\j=b/\a<b/\b<=l.length/\r=l.take a++l.drop b:=by
  unfold del1 at h;by_cases hp:0<=i/\i<j/\j<=l.length
  · rw[if_pos hp]at h;cases h;exact⟨i.toNat,j.toNat,by omega,by omega,by omega,by omega,Z⟩
  · rw[if_neg hp]at h;cases h
end
open Go.RowKit
def selK(K:Act->World->Prop)(Q:Exit->Act->World->Prop):Exit->Act->World->Prop
 | .normal,a,w=>K a w
 |e,a,w=>Q e a w
section
variable{P:Program}{ops:Array Oper}
variable{Q:Exit->Act->World->Prop}{n:Nat}{env:Nat->Value}{w w0:World}{M K:BS}{hp:Nat->Chunk}
structure WH(P:Program)(ops:Array Oper)(ws:World)(Q:Exit->Act->World->Prop)(fuel:Nat)(listed:Array Bool)(n:Nat)(env:Nat->Value)(w:World):Prop where
 out:wpAnyH P .any ops (NoPanic Q) (Grow ws) fuel listed (act n env) w
theorem sN{id:Nat}{l:List Oper}(a:P.follows .mixedOrders=true)(b:SH w0 M K w hp)
  (h:∀w,SH w0 M K w hp->WH P l.toArray w Q l.length (Array.replicate l.length false) n env w):WC P (Code.region id l.toArray true) Q n env w:=
 ⟨wp_region_noPanic (wp_region_held (S:=Grow w.drew) a (h _ (b.grow (Grow.drew w))).out)⟩
theorem Z9{S S':World->Prop}(c:∀w,S' w->S w):∀(fuel:Nat) (listed:Array Bool) (a:Act) (w:World),wpAnyH P .any ops Q S' fuel listed a w->wpAnyH P .any ops Q S fuel listed a w
 |0,_,_,_,h=>h
 |fuel+1,_,_,_,h=>⟨h.1,fun i d=>wpOp_mono (fun a' w' b=>⟨c _ b.1,Z9 c fuel _ a' w' b.2⟩) (h.2 i d)⟩
variable{d:Option Nat}{op:Op}{ty:TypeId}{pos:String}{af:Array Edge}{v:Value}{g:Option (Nat×Bool)}{i fuel:Nat}{listed:Array Bool}
theorem aZ:Region.wanted ⟨d,op,ty,pos,af,none⟩ (yielded ops (act n env).tmps)=true:=rfl
theorem wh_first{ws:World}{o:Oper}(a:Grow ws w)(d:ops[i]? =some o)(c:Region.noSelect ops=true)(f:Region.free .any ops listed i=true)(e:(Region.ready .any ops listed).contains i=true)
  (b:YieldsIf P ops (Grow ws) o v (act n env)) (h:WH P ops ws Q fuel (listed.setIfInBounds i true) n (gy env o.dst v) w):WH P ops ws Q (fuel+1) listed n env w:=by
 refine⟨wpAnyH_take d c f e (fun _ _ _ h=>h) b a ?_⟩;rw[ED];exact h.out
theorem wh_ok{ws:World}(i:Nat)(b:Grow ws w)(j:ops[i]? =some ⟨d,op,ty,pos,af,g⟩)(c:Region.wanted ⟨d,op,ty,pos,af,g⟩ (yielded ops (act n env).tmps)=true)(f:Region.noSelect ops=true)(m:Region.free .any ops listed i=true)(k:(Region.ready .any ops listed).contains i=true)
  (e:∀a,Grow ws a->(execOp (ev n env) ⟨d,op,ty,pos,af,g⟩).run P a=.ok (.value v) a) (h:WH P ops ws Q fuel (listed.setIfInBounds i true) n (gy env d v) w):WH P ops ws Q (fuel+1) listed n env w:=
 wh_first (o:=⟨d,op,ty,pos,af,g⟩) b j f m k (.inl ⟨c,fun a l=>by rw[gN];exact e a l⟩) h
theorem wh_done{ws:World}(a:Region.ready .any ops listed=[])(h:Q .normal (act n env) w):WH P ops ws Q fuel listed n env w:=⟨wpAnyH_done a (NoPanic.normal h) fuel⟩
def after(P:Program)(ops:Array Oper)(ws:World)(Q:Exit->Act->World->Prop)(fuel:Nat)(listed:Array Bool):Exit->Act->World->Prop:=
 selK (fun a' w'=>Grow ws w'/\wpAnyH P .any ops (NoPanic Q) (Grow ws) fuel listed a' w') (NoPanic Q)
theorem dI{ws:World}(a:Grow ws w)(h:WH P ops ws Q fuel listed n env w):after P ops ws Q fuel listed .normal (act n env) w:=⟨a,h.out⟩
theorem Hd{K:Act->World->Prop}{Q1:Exit->Act->World->Prop}(l:ops[i]? =some ⟨d,op,ty,pos,af,g⟩)(k:Region.wanted ⟨d,op,ty,pos,af,g⟩ (yielded ops (act n env).tmps)=true)
    (h:WL P ops (selK K Q1) [⟨d,op,ty,pos,af,none⟩] n env w):wpOp P ops Q1 i K (act n env) w:=by
  unfold wpOp;simp only[l,k,if_true];have b:=h.out;unfold wpList at b;rw[if_pos (show Region.wanted _ _=true from rfl)]at b;rcases b with b|⟨ha,hl⟩
  rotate_left
  · exact .inr ⟨ha,let ⟨a,w,h⟩:=hl;⟨a,w,h⟩⟩
  refine .inl ?_;unfold Oper.wp at b⊢;have e:(execOp (act n env).eval ⟨d,op,ty,pos,af,g⟩)=execOp (act n env).eval ⟨d,op,ty,pos,af,none⟩:=by unfold execOp;rfl
  rw[e];generalize (execOp (act n env).eval ⟨d,op,ty,pos,af,none⟩).run P w=r at b⊢;cases r with
  |ok nx w'=>
    cases nx with
    |value v=>exact b
    |skip=>exact b
    |defer d=>exact b
    |enter f args=>
      refine Calls.mono b fun e m j=>?_;cases e with
      |returned v=>exact j
      |panicked c=>exact j
      |outgrown=>exact j
    |row r args=>exact b
    |_=>exact b
  |halt x w'=>
    cases x<;>exact b
theorem wh_eff{ws:World}(i:Nat)(b:Region.ready .any ops listed=[i])(a:ops[i]? =some ⟨d,op,ty,pos,af,g⟩)(c:Region.wanted ⟨d,op,ty,pos,af,g⟩ (yielded ops (act n env).tmps)=true)
  (h:WL P ops (after P ops ws Q fuel (listed.setIfInBounds i true)) [⟨d,op,ty,pos,af,none⟩] n env w):WH P ops ws Q (fuel+1) listed n env w:=by
 refine⟨wpAnyH_all b zq3 fun k e=>?_⟩;obtain rfl:k=i:=by simpa using e
 exact Hd a c h
theorem EF{ws:World}{f:Option Nat}{c:Op}{b:TypeId}{a:String}{e:Array Edge}{o:Option (Nat×Bool)}(i j:Nat)(s:Region.ready .any ops listed=[i,j])(r:ops[i]? =some ⟨d,op,ty,pos,af,g⟩)(p:Region.wanted ⟨d,op,ty,pos,af,g⟩ (yielded ops (act n env).tmps)=true)
    (t:ops[j]? =some ⟨f,c,b,a,e,o⟩) (m:Region.wanted ⟨f,c,b,a,e,o⟩ (yielded ops (act n env).tmps)=true)
    (h:WL P ops (after P ops ws Q fuel (listed.setIfInBounds i true)) [⟨d,op,ty,pos,af,none⟩] n env w) (q:WL P ops (after P ops ws Q fuel (listed.setIfInBounds j true)) [⟨f,c,b,a,e,none⟩] n env w):WH P ops ws Q (fuel+1) listed n env w:=by
  refine⟨wpAnyH_all s zq3 fun k l=>?_⟩;rcases List.mem_cons.1 l with rfl|l
  · exact Hd r p h
  · obtain rfl:k=j:=by simpa using l
    exact Hd t m q
theorem wh_base{ws:World}(a:Grow ws w)(h:WH P ops w Q fuel listed n env w):WH P ops ws Q fuel listed n env w:=⟨Z9 (fun _ h=>a.trans h) _ _ _ _ h.out⟩
variable{w':World}{rest:List Oper}{T:TypeId}{x y:Operand}
theorem yz{α:Type}{R:kW α}{E:TypeId}{f c:Nat}{a:Array (Nat×Operand)}{len:Nat}{vs:List Value}{xs:List α}(h:SH w0 M K w hp)(i:Nat)(v:ko P T E f c)(q:R.sz=f)
  (x:(a.toList.map fun p=>(p.1,ev n env p.2))=vs.zipIdx.map fun p=>(p.2,p.1)) (e:vs.length=len) (t:J9 R w (SH.A M hp) vs xs) (j:Nat.ble (len*f) 16777216=true)
  (k:∀w' u,SH w0 M K w' (bX hp i (.own R E u xs))->Grow w w'->(∀b,ob u b->w.heap.size<=b)->WL P ops Q rest n (gy env d u) w'):
  WL P ops Q (⟨d,.buildSlice T len a,ty,pos,af,none⟩::rest) n env w:=by
 obtain⟨u,w',s,o,r,m⟩:=run_bs (d:=d) (ty:=ty) (pos:=pos) (af:=af) (g:=none) v q x e t h.lt<|Nat.le_of_ble_eq_true j;exact F s<|k w' u (h.tH i o r fun b l=>Nat.le_of_eq<|m b l) o fun b l=>Nat.le_of_eq<|m b l
theorem bJ.fresh{a b c:World}{N:BS}(h:Grow a b)(k:bJ N b c)(hN:∀x,N x->a.heap.size<=x):Grow a c:=h.step k (fun x d e=>by have:=hN x d;omega)
end
open Go.RowKit Go.Deep
def xg{α:Type}(P:Program)(T:TypeId)(R:kW α):Prop:=
 ∀(a:Type) (enc:TypeId×Value->a) (w:World) (b:Nat->Bool) (c:Bool) (fuel:Nat) (cs:List Value) (x:DataW a×List MemPlace),DataW.trod enc P w 0 b c fuel T cs=some x->∃d,R.rd w BE cs d
theorem opens_int{P:Program}{T:TypeId}(d:P.underlying T=some (.int .i64)):xg P T bY:=by
 intro a enc w b c fuel cs x h;obtain⟨n,rfl,_,e⟩:=DataW.trod_int d h;exact⟨n,Z⟩
theorem opens_bool{P:Program}{T:TypeId}(e:P.underlying T=some .bool):xg P T rBool:=by
 intro a enc w c d fuel cs x h;obtain⟨b,rfl,_⟩:=DataW.trod_bool e h;exact⟨b,Z⟩
theorem wD{α:Type}{P:Program}{T E:TypeId}{R:kW α}(X:P.underlying T=some (.slice E))(Q:P.cellsOf E=R.sz)(h:xg P E R):xg P T (tu R):=by
  intro c enc w q I fuel cs x hx;rcases open_slice X hx with⟨rfl,rfl⟩|⟨a,len,cap,m,n,D,Pl,rfl,_,hl,hm,hmm,rfl,hel⟩
  · exact⟨[],_,Z,ed.nil⟩
  · have a0:len<=m:=by rw[hmm];split<;>omega
    have z:∀i,i<len->∃d:α,∃b o cells g t,a=⟨b,o,none⟩/\w.heap[b]? =some (.cells cells g t)/\R.rd w BE ((cells.toList.drop<|o+i*R.sz).take R.sz) d:=by
      intro i p;obtain⟨l,N,h2⟩:=hel i V;obtain⟨d,hd⟩:=h c enc w q I n l _ h2;refine⟨d,?_⟩;rw[Q]at N;obtain⟨_,S,s⟩:=World.cells?_some N;have hp:=R.pos;have B:a.spot=none:=by
        obtain⟨G,g1,_⟩:=hel 0 V;rw[Q]at g1;obtain⟨_,O,r⟩:=World.cells?_some g1;have K:=r 0 hp;rw[Nat.zero_mul,add_add,Nat.zero_add]at K;have:∃v,G[0]? =some v:=⟨G[0]'V,List.getElem?_eq_getElem V⟩;obtain⟨v,M⟩:=this;rw[M]at K;have:=World.cell?_spot K;simpa[Addr.add]using this
      obtain⟨b,o,sp⟩:=a;simp only at B;subst B;have A:∀k,(⟨b,o,none⟩:Addr).add k=⟨b,o+k,none⟩:=by
        intro k;unfold Addr.add;split<;>simp_all
      have y:∀j,j<R.sz->w.cell? ⟨b,o+i*R.sz+j,none⟩=l[j]? :=by
        intro j C;have:=s j C;rw[add_add,A]at this;rw[<-this,Nat.add_assoc]
      have J:=y 0 hp;have M:l[0]? =some (l[0]'V):=List.getElem?_eq_getElem V;rw[M]at J;unfold World.cell? at J;cases u:w.heap[b]? with
      |none=>simp[u]at J
      |some ob=>
        cases ob with
        |cells cells g t=>
          refine⟨b,o,cells,g,t,Z,u,?_⟩;have e:(cells.toList.drop<|o+i*R.sz).take R.sz=l:=by
            apply List.ext_getElem?;intro j;rw[List.getElem?_take,List.getElem?_drop];by_cases C:j<R.sz
            · rw[if_pos C,<-y j C];simp[World.cell?,u]
            · rw[if_neg C,List.getElem?_eq_none V]
          rw[e];exact hd
        |_=>simp[u]at J
    obtain⟨f,hf⟩:∃f:(i:Nat)->i<len->α,∀i p,∃b o cells g t,a=⟨b,o,none⟩/\w.heap[b]? =some (.cells cells g t)/\R.rd w BE ((cells.toList.drop<|o+i*R.sz).take R.sz) (f i p):=
      ⟨fun i p=>Classical.choose (z i p),fun i p=>Classical.choose_spec (z i p)⟩
    refine⟨List.ofFn fun i:Fin len=>f i.val i.isLt,_,Z,some a,cap,by simp,by simpa using hl,hm,(fun h=>by cases h),?_⟩;intro i p;have L:i<len:=by simpa using p
    obtain⟨b,o,cells,g,t,rfl,u,hr⟩:=hf i L;refine⟨b,o,cells,g,t,Z,fun h=>h,u,?_⟩;simpa using hr
theorem yA{a:Type}{enc:TypeId×Value->a}{P:Program}{w:World}{b:Nat->Bool}{c:Bool}{T:TypeId}{d:Array Field}{fuel:Nat}{cs:List Value}{x:DataW a×List MemPlace}(k:P.underlying T=some (.struct d))(h:DataW.trod enc P w 0 b c fuel T cs=some x):
    cs.length=P.cellsOf T/\∃n:Nat,∀(i:Nat) (f:Field),d[i]? =some f->∃y:DataW a×List MemPlace,DataW.trod enc P w 0 b c n f.type ((cs.drop f.offset).take (P.cellsOf f.type))=some y:=by
  obtain⟨xs,n,_,_,l,g,m⟩:=DataW.trod_struct k h;refine⟨l,n,fun i f j=>?_⟩;have:=m i f j;have e:i<xs.length:=by
    rw[g];rcases Nat.lt_or_ge i d.size with h1|h1
    · exact h1
    · rw[Array.getElem?_eq_none h1]at j;cases j
  rw[List.getElem?_eq_getElem e]at this;exact⟨_,this⟩
theorem eP{α:Type}{a:Type}{enc:TypeId×Value->a}{P:Program}{w:World}{b:Nat->Bool}{c:Bool}{e:Array Field}{n:Nat}{cs:List Value}{R:kW α}{i:Nat}{f:Field}
  (h:∀(i:Nat) (f:Field),e[i]? =some f->∃y:DataW a×List MemPlace,DataW.trod enc P w 0 b c n (Field.type f) ((cs.drop f.offset).take (P.cellsOf f.type))=some y) (l:e[i]? =some f) (k:P.cellsOf f.type=R.sz) (j:xg P f.type R):
  ∃d,R.rd w BE ((cs.drop f.offset).take R.sz) d:=by
 obtain⟨y,g⟩:=h i f l;rw[k]at g;exact j a enc w b c n _ _ g
theorem cells_one{l:List Value}{o:Nat}{v:Value}(h:(l.drop o).take 1=[v]):l[o]? =some v:=by
 have:=congrArg (fun l=>l[0]?) h;simpa[List.getElem?_take,List.getElem?_drop]using this
theorem q8{α:Type}{l:List α}{n:Nat}(h:l.length=n+1):∃a t,l=a::t/\t.length=n:=by
 cases l with
 |nil=>simp at h
 |cons a t=>exact⟨a,t,rfl,by simpa using h⟩
theorem nobody{w:World}:∀b,BE b->b<w.heap.size:=fun _ h=>h.elim
open Go.RowKit Go.MapKept
def aget(z:Value)(j3:List (Int×Value))(k:Int):Value:=match j3 with|[]=>z|p::r=>if k=p.1 then p.2 else aget z r k
def WT(j3:List (Int×Value))(k:Int)(v:Value):List (Int×Value):=match j3 with|[]=>[(k,v)]|p::r=>if k=p.1 then(p.1,v)::r else p::WT r k v
def ahas(j3:List (Int×Value))(k:Int):Bool:=match j3 with|[]=>false|p::r=>if k=p.1 then true else ahas r k
def P6(j3:List (Int×Value))(k:Int)(i:Nat):Option (Nat×Value):=match j3 with|[]=>none|p::r=>if k=p.1 then some (i,p.2)else P6 r k (i+1)
theorem Gg{j3:List (Int×Value)}{k:Int}:∀{a:List MapEntry} {i:Nat},a.map (fun e=>(e.key,e.val))=j3.map (fun p=>(Value.int .i64 p.1,p.2))->
    Instr.findNow (.int .i64) (.int .i64 k) a i=some (P6 j3 k i):=by
  induction j3 with
  |nil=>intro a i h;cases a with|nil=>rfl|cons e r=>simp at h
  |cons p r ih=>
    intro a i h;cases a with
    |nil=>simp at h
    |cons e s=>
      simp only[List.map_cons,List.cons.injEq,Prod.mk.injEq]at h;obtain⟨⟨c,f⟩,d⟩:=h;unfold Instr.findNow P6;by_cases b:k=p.1
      · simp[Instr.sameNow,c,f,b]
      · have:(k==p.1)=false:=by simpa using b
        simp[Instr.sameNow,c,this,b,ih d]
theorem WU{z:Value}{k:Int}:∀{j3:List (Int×Value)} {i:Nat},aget z j3 k=match P6 j3 k i with|some (_,v)=>v|none=>z
  |[],i=>rfl
  |p::r,i=>by
    unfold aget P6;by_cases a:k=p.1
    · simp[a]
    · simp only[a,if_false];exact WU
theorem Tw{k:Int}{v:Value}:∀{j3:List (Int×Value)} {i:Nat},P6 j3 k i=none->WT j3 k v=j3++[(k,v)]
  |[],i,_=>rfl
  |p::r,i,h=>by
    unfold P6 at h;unfold WT;by_cases a:k=p.1
    · simp[a]at h
    · simp only[a,if_false]at h⊢;rw[Tw h];rfl
theorem Tx{k:Int}{v u:Value}:∀{j3:List (Int×Value)} {i j:Nat},P6 j3 k i=some (j,u)->i<=j/\∃p,j3[j-i]? =some p/\p.1=k/\WT j3 k v=j3.set (j-i) (k,v)
  |[],i,j,h=>by cases h
  |p::r,i,j,h=>by
    unfold P6 at h;unfold WT;by_cases a:k=p.1
    · simp only[a,if_true,Option.some.injEq,Prod.mk.injEq]at h;obtain⟨rfl,_⟩:=h;refine⟨Nat.le_refl _,p,by simp,a.symm,?_⟩;simp[a]
    · simp only[a,if_false]at h⊢;obtain⟨e,q,d,b,c⟩:=Tx (v:=v) h;refine⟨by omega,q,?_,b,?_⟩
      · rw[show j-i=(j-(i+1))+1 by omega];simpa using d
      · rw[show j-i=(j-(i+1))+1 by omega,c];simp
section
variable{P:Program}{ops:Array Oper}{Q:Exit->Act->World->Prop}{n:Nat}{env:Nat->Value}{w w' w0:World}{M K:BS}{hp:Nat->Chunk}{rest:List Oper}
 {d:Option Nat} {op:Op} {ty:TypeId} {pos:String} {af:Array Edge} {v:Value} {g:Option (Nat×Bool)} {T:TypeId} {ρ:Operand->Value}
structure MapOf(P:Program)(T:TypeId)(z:Value):Prop where
  desc:∃K E,P.underlying T=some (.map K E)/\P.underlying K=some (.int .i64)/\(P.info? E).map (·.zero)=some (some z)
theorem r_makeMap:(execOp ρ ⟨d,.makeMap T none,ty,pos,af,g⟩).run P w=.ok (.value (.map (some w.heap.size))) (w.alloc (.map #[] 0)):=by
 simp[execOp,Instr.makeMap,World.alloc,-World.alloc_eq]
theorem ckInt{e:Bool}{K:TypeId}{k:Int}(a:P.underlying K=some (.int .i64)):(Instr.checkKey e 10000 K (.int .i64 k)).run P w=.ok () w:=
 run_checkKey a (by trivial) e 9999
theorem Ll.push{b:Array MapEntry}{c:Nat}(h:Ll b c)(k v:Value):Ll (b.push {key:=k,val:=v,born:=c}) (c+1):=by
  refine⟨fun e a=>?_,?_⟩
  · simp only[Array.toList_push,List.mem_append,List.mem_singleton]at a;rcases a with a|rfl
    · exact Nat.lt_succ_of_lt<|h.1 e a
    · exact Nat.lt_succ_self c
  · rw[Array.toList_push,List.map_append,List.nodup_append];refine⟨h.2,by simp,fun x f y d=>?_⟩;simp only[List.map_cons,List.map_nil,List.mem_singleton]at d;obtain⟨e,a,rfl⟩:=List.mem_map.1 f;have:=h.1 e a;omega
theorem Ll.modify{a:Array MapEntry}{c:Nat}(h:Ll a c)(j:Nat)(k v:Value):Ll (a.modify j fun e=>{e with key:=k,val:=v}) c:=by
  have e:(a.modify j fun e=>{e with key:=k,val:=v}).toList.map (·.born)=a.toList.map (·.born):=by
    apply List.ext_getElem?;intro i;simp only[List.getElem?_map,Array.getElem?_toList,Array.getElem?_modify];by_cases d:j=i
    · subst d;cases a[j]? <;>simp
    · simp[d]
  refine⟨fun x g=>?_,by rw[e];exact h.2⟩;have:x.born∈(a.modify j fun e=>{e with key:=k,val:=v}).toList.map (·.born):=List.mem_map.2 ⟨x,g,Z⟩;rw[e]at this;obtain⟨y,f,b⟩:=List.mem_map.1 this;rw[<-b];exact h.1 y f
theorem r_lookup{z:Value}{x y:Operand}{b:Nat}{k:Int}{j3:List (Int×Value)}(o:MapOf P T z)(q:ρ x=.map (some b))(t:ρ y=.int .i64 k)(h:I9 w b j3):
  (execOp ρ ⟨d,.lookup T x y false,ty,pos,af,g⟩).run P w=.ok (.value (aget z j3 k)) w:=by
 obtain⟨K,E,l,j,f⟩:=o.desc;obtain⟨r,a,h,u,n⟩:=h;obtain⟨i,c,s⟩:∃i,P.info? E=some i/\i.zero=some z:=by
  cases c:P.info? E with
  |none=>simp[c]at f
  |some i=>simp[c]at f;exact⟨i,Z,f⟩
 have m:=Gg (k:=k) (i:=0) u;have v:(getObj b).run P w=.ok (.map r a) w:=by simp[getObj,Sem.run,h]
 rw[WU (z:=z) (k:=k) (j3:=j3) (i:=0)];simp only[execOp,Instr.lookup,underlying,q,t];have A:=fun e=>ckInt (P:=P) (w:=w) (e:=e) (K:=K) (k:=k) j;simp only[Sem.run_bind,run_program,Result.andThen_ok,l,Sem.run_pure,v,A,Instr.findKey,underlying,j,m];cases ha:P6 j3 k 0 with
 |none=>simp[zeroValue,typeInfo,c,s]
 |some p=>simp
theorem wl_mapUpdate{z:Value}{x y u:Operand}{b:Nat}{k:Int}{j3:List (Int×Value)}(hT:MapOf P T z)(N:ev n env x=.map (some b))(R:ev n env y=.int .i64 k)(O:ev n env u=v)(f:I9 w b j3)
    (h:∀w',bJ (fun x=>x=b) w w'->I9 w' b (WT j3 k v)->WL P ops Q rest n (gy env d undef) w'):
    WL P ops Q (⟨d,.mapUpdate T x y u,ty,pos,af,none⟩::rest) n env w:=by
  obtain⟨K,E,M,J,h3⟩:=hT.desc;obtain⟨c,a,f,o,g⟩:=f;have A:=Gg (k:=k) (i:=0) o;have S:(getObj b).run P w=.ok (.map c a) w:=by simp[getObj,Sem.run,f]
  have m:=iK f;have X:=fun e=>ckInt (P:=P) (w:=w) (e:=e) (K:=K) (k:=k) J;have r:c.toList.length=j3.length:=by have:=congrArg List.length o;simpa using this
  cases ha:P6 j3 k 0 with
  |none=>
    refine AL (w':=wz w b<|.map (c.push {key:=.int .i64 k,val:=v,born:=a})<|a+1) ?_<|h _ (bJ.wz _ _ _) ⟨_,_,vw m,?_,g.push _ _⟩
    · rw[ha]at A;simp only[execOp,Instr.mapUpdate,underlying,N,R,O];simp only[Sem.run_bind,run_program,Result.andThen_ok,M,Sem.run_pure,S,X,Instr.findKey,underlying,J,A,run_setObj_map _ f];rfl
    · rw[Tw ha];simp[o]
  |some p=>
    obtain⟨j,u0⟩:=p;obtain⟨_,q,B,G,hset⟩:=Tx (v:=v) ha;simp only[Nat.sub_zero]at B hset;have C:j<c.size:=by
      have t:j<j3.length:=by
        rcases Nat.lt_or_ge j j3.length with t|t
        · exact t
        · rw[List.getElem?_eq_none t]at B;cases B
      simpa[<-r]using t
    have s:c[j].key=.int .i64 k:=by
      have L:=congrArg (fun l=>l[j]?) o;simp[B,C]at L;rw[L.1,G]
    refine AL (w':=wz w b<|.map (c.modify j fun e=>{e with key:=.int .i64 k,val:=v}) a) ?_<|h _ (bJ.wz _ _ _) ⟨_,_,vw m,?_,g.modify _ _ _⟩
    · rw[ha]at A;have I:(Instr.keyThatStays (.int .i64 k)<|.int .i64 k).run P w=.ok (.int .i64 k) w:=by simp[Instr.keyThatStays,Instr.sameBits]
      simp only[execOp,Instr.mapUpdate,underlying,N,R,O];simp only[Sem.run_bind,run_program,Result.andThen_ok,M,Sem.run_pure,S,X,Instr.findKey,underlying,J,A,Array.getElem?_eq_getElem C,Option.map_some,Option.getD_some,s,I,run_setObj_map _ f];rfl
    · rw[hset,List.map_set,<-o];apply List.ext_getElem?;intro i;simp only[List.getElem?_map,Array.getElem?_toList,Array.getElem?_modify,List.getElem?_set,List.length_map,Array.length_toList];by_cases hi:j=i
      · subst hi;simp[C]
      · simp[hi]
theorem wl_insert{z:Value}{x y u:Operand}{b:Nat}{k:Int}{j3:List (Int×Value)}(hT:MapOf P T z)(N:ev n env x=.map (some b))(R:ev n env y=.int .i64 k)(O:ev n env u=v)(f:I9 w b j3)
    (h:∀w',bJ (fun x=>x=b) w w'->I9 w' b (WT j3 k v)->WL P ops Q rest n (gy env d undef) w'):
    WL P ops Q (⟨d,.insert T x y u,ty,pos,af,none⟩::rest) n env w:=by
  obtain⟨K,E,M,J,h3⟩:=hT.desc;obtain⟨c,a,f,o,g⟩:=f;have A:=Gg (k:=k) (i:=0) o;have S:(getObj b).run P w=.ok (.map c a) w:=by simp[getObj,Sem.run,f]
  have m:=iK f;have X:=fun e=>ckInt (P:=P) (w:=w) (e:=e) (K:=K) (k:=k) J;have r:c.toList.length=j3.length:=by have:=congrArg List.length o;simpa using this
  cases ha:P6 j3 k 0 with
  |none=>
    refine AL (w':=wz w b<|.map (c.push {key:=.int .i64 k,val:=v,born:=a})<|a+1) ?_<|h _ (bJ.wz _ _ _) ⟨_,_,vw m,?_,g.push _ _⟩
    · rw[ha]at A;simp only[execOp,Instr.mapUpdate,underlying,N,R,O];simp only[Sem.run_bind,run_program,Result.andThen_ok,M,Sem.run_pure,S,X,Instr.findKey,underlying,J,A,run_setObj_map _ f];rfl
    · rw[Tw ha];simp[o]
  |some p=>
    obtain⟨j,u0⟩:=p;obtain⟨_,q,B,G,hset⟩:=Tx (v:=v) ha;simp only[Nat.sub_zero]at B hset;have C:j<c.size:=by
      have t:j<j3.length:=by
        rcases Nat.lt_or_ge j j3.length with t|t
        · exact t
        · rw[List.getElem?_eq_none t]at B;cases B
      simpa[<-r]using t
    have s:c[j].key=.int .i64 k:=by
      have L:=congrArg (fun l=>l[j]?) o;simp[B,C]at L;rw[L.1,G]
    refine AL (w':=wz w b<|.map (c.modify j fun e=>{e with key:=.int .i64 k,val:=v}) a) ?_<|h _ (bJ.wz _ _ _) ⟨_,_,vw m,?_,g.modify _ _ _⟩
    · rw[ha]at A;have I:(Instr.keyThatStays (.int .i64 k)<|.int .i64 k).run P w=.ok (.int .i64 k) w:=by simp[Instr.keyThatStays,Instr.sameBits]
      simp only[execOp,Instr.mapUpdate,underlying,N,R,O];simp only[Sem.run_bind,run_program,Result.andThen_ok,M,Sem.run_pure,S,X,Instr.findKey,underlying,J,A,Array.getElem?_eq_getElem C,Option.map_some,Option.getD_some,s,I,run_setObj_map _ f];rfl
    · rw[hset,List.map_set,<-o];apply List.ext_getElem?;intro i;simp only[List.getElem?_map,Array.getElem?_toList,Array.getElem?_modify,List.getElem?_set,List.length_map,Array.length_toList];by_cases hi:j=i
      · subst hi;simp[C]
      · simp[hi]
theorem aidx_has{k:Int}:∀{j3:List (Int×Value)} {i:Nat},ahas j3 k=(P6 j3 k i).isSome
  |[],i=>rfl
  |p::r,i=>by
    unfold ahas P6;by_cases a:k=p.1
    · simp[a]
    · simp only[a,if_false];exact aidx_has
theorem r_lookup2{z:Value}{x y:Operand}{b:Nat}{k:Int}{j3:List (Int×Value)}(o:MapOf P T z)(q:ρ x=.map (some b))(t:ρ y=.int .i64 k)(h:I9 w b j3):
  (execOp ρ ⟨d,.lookup T x y true,ty,pos,af,g⟩).run P w=.ok (.value (.tuple #[aget z j3 k,.bool (ahas j3 k)])) w:=by
 obtain⟨K,E,l,j,f⟩:=o.desc;obtain⟨r,a,h,u,n⟩:=h;obtain⟨i,c,s⟩:∃i,P.info? E=some i/\i.zero=some z:=by
  cases c:P.info? E with
  |none=>simp[c]at f
  |some i=>simp[c]at f;exact⟨i,Z,f⟩
 have m:=Gg (k:=k) (i:=0) u;have v:(getObj b).run P w=.ok (.map r a) w:=by simp[getObj,Sem.run,h]
 rw[WU (z:=z) (k:=k) (j3:=j3) (i:=0),aidx_has (i:=0)];simp only[execOp,Instr.lookup,underlying,q,t];have A:=fun e=>ckInt (P:=P) (w:=w) (e:=e) (K:=K) (k:=k) j;simp only[Sem.run_bind,run_program,Result.andThen_ok,l,Sem.run_pure,v,A,Instr.findKey,underlying,j,m];cases ha:P6 j3 k 0 with
 |none=>simp[zeroValue,typeInfo,c,s]
 |some p=>simp
def lk{α:Type}(k:Int):List (Int×α)->Option α
 |[]=>none
 |p::r=>if k=p.1 then some p.2 else lk k r
theorem Wu{α:Type}{f:α->Value}{z:α}{k:Int}:∀(l:List (Int×α)),aget (f z) (l.map fun p=>(p.1,f p.2)) k=f ((lk k l).getD z)
  |[]=>rfl
  |p::r=>by
    show(if k=p.1 then f p.2 else aget _ _ k)=f ((if k=p.1 then some p.2 else lk k r).getD z);by_cases h:k=p.1
    · simp[h]
    · simp only[h,if_false];exact Wu r
theorem ahas_lk{α:Type}{f:α->Value}{k:Int}:∀(l:List (Int×α)),ahas (l.map fun p=>(p.1,f p.2)) k=(lk k l).isSome
  |[]=>rfl
  |p::r=>by
    show(if k=p.1 then true else ahas _ k)=(if k=p.1 then some p.2 else lk k r).isSome;by_cases h:k=p.1
    · simp[h]
    · simp only[h,if_false];exact ahas_lk r
theorem r_lk2{α:Type}{f:α->Value}{zz:α}{z:Value}{x y:Operand}{b:Nat}{k:Int}{j3:List (Int×Value)}(l:List (Int×α))(h:SH w0 M K w hp)(i:Nat)(n:hp i=.mp b j3)(a:MapOf P T z)(c:ρ x=.map (some b))(j:ρ y=.int .i64 k)(e:z=f zz)(m:j3=l.map fun p=>(p.1,f p.2)):
  (execOp ρ ⟨d,.lookup T x y true,ty,pos,af,g⟩).run P w=.ok (.value (.tuple #[f ((lk k l).getD zz),.bool (lk k l).isSome])) w:=by
 have:=r_lookup2 (d:=d) (ty:=ty) (pos:=pos) (af:=af) (g:=g) a c j<|h.mpAt i n;rw[e,m,Wu,ahas_lk]at this;exact this
theorem r_lk1{α:Type}{f:α->Value}{zz:α}{z:Value}{x y:Operand}{b:Nat}{k:Int}{j3:List (Int×Value)}(l:List (Int×α))(h:SH w0 M K w hp)(i:Nat)(n:hp i=.mp b j3)(a:MapOf P T z)(c:ρ x=.map (some b))(j:ρ y=.int .i64 k)(e:z=f zz)(m:j3=l.map fun p=>(p.1,f p.2)):
  (execOp ρ ⟨d,.lookup T x y false,ty,pos,af,g⟩).run P w=.ok (.value (f ((lk k l).getD zz))) w:=by
 have:=r_lookup (d:=d) (ty:=ty) (pos:=pos) (af:=af) (g:=g) a c j<|h.mpAt i n;rw[e,m,Wu]at this;exact this
theorem Oy(h:SH w0 M K w hp)(i:Nat)(k:∀w' b,SH w0 M K w' (bX hp i (.mp b []))->WL P ops Q rest n (gy env d (.map (some b))) w'):WL P ops Q (⟨d,.makeMap T none,ty,pos,af,none⟩::rest) n env w:=
 F r_makeMap (k _ _ (h.learn i (Grow.alloc _ _) (fun b a=>Nat.le_of_eq a.symm) ⟨#[],0,Ow _ _,rfl,by simp[Ll]⟩))
theorem SH.mpSet{b:Nat}{j3 yh:List (Int×Value)}(h:SH w0 M K w hp)(i:Nat)(c:hp i=.mp b j3)(d:bJ (fun x=>x=b) w w')(e:I9 w' b yh):SH w0 M K w' (bX hp i (.mp b yh)):=
 h.step i d (fun x a _=>by rw[c];exact a) (fun x a _=>by rw[c];exact a) e
theorem vC{z:Value}{x y u:Operand}{b:Nat}{k:Int}{j3 yh:List (Int×Value)}(h:SH w0 M K w hp)(i:Nat)(a:hp i=.mp b j3)(e:MapOf P T z)(f:ev n env x=.map (some b))(j:ev n env y=.int .i64 k)(g:ev n env u=v)(l:WT j3 k v=yh)
  (m:∀w',SH w0 M K w' (bX hp i (.mp b yh))->WL P ops Q rest n (gy env d undef) w'):WL P ops Q (⟨d,.insert T x y u,ty,pos,af,none⟩::rest) n env w:=
 wl_insert e f j g (h.mpAt i a) fun w' o c=>m w' (h.mpSet i a o (l▸c))
theorem M6{z:Value}{x y u:Operand}{b:Nat}{k:Int}{j3 yh:List (Int×Value)}(h:SH w0 M K w hp)(i:Nat)(a:hp i=.mp b j3)(e:MapOf P T z)(f:ev n env x=.map (some b))(j:ev n env y=.int .i64 k)(g:ev n env u=v)(l:WT j3 k v=yh)
  (m:∀w',SH w0 M K w' (bX hp i (.mp b yh))->WL P ops Q rest n (gy env d undef) w'):WL P ops Q (⟨d,.mapUpdate T x y u,ty,pos,af,none⟩::rest) n env w:=
 wl_mapUpdate e f j g (h.mpAt i a) fun w' o c=>m w' (h.mpSet i a o (l▸c))
end
theorem SH.aaa{w:World}{M K:BS}{hp:Nat->Chunk}{w0:World}{b:Nat}{cs:List Value}(h:SH w0 M K w hp)(i:Nat)(ho:∃E,w.heap[b]? =some (.cells cs.toArray E (0,0)))(hn:∀b,¬iL hp b):SH w0 M K w (bX hp i (.pt b 0 cs)):=by
 obtain⟨E,ho⟩:=ho;exact h.know i (fun _ h=>h) ⟨hn b,_,_,_,ho,by simp⟩
open Go.RowKit
def hasB(s:Str)(c:UInt8):Bool:=decide (0<=Go.Lib.indexByte s c)
section
variable{P:Program}{ops:Array Oper}{Q:Exit->Act->World->Prop}{n:Nat}{env:Nat->Value}{w:World}{rest:List Oper}
 {d:Option Nat} {ty:TypeId} {pos:String} {af:Array Edge} {v:Value} {x:Operand}
theorem Oz{f:FuncId}(c:List Value){xs:Array Operand}{s:Array TypeId}{args:List Value}{j dj:Nat}{b a:Bool}(i:Bool)(o:(ops[j]?).bind (·.dst)=some dj)(m:ev n env (.tmp dj)=gv i (.bool b))(q:Rs P f)(t:(i&&(b==a))=true->ev n env x=.func (.func f) #[] c.toArray)
    (u:(i&&(b==a))=true->xs.toList.map (ev n env)++c=args) (r:Calls P f args.toArray w (fun e w'=>Grow w w'/\e=.returned v))
    (k:∀w',Grow w w'->WL P ops Q rest n (gy env d (gv (i&&(b==a)) v)) w'):
    WL P ops Q (⟨d,.call {callee:=.value x,args:=xs,argTypes:=s},ty,pos,af,some (j,a)⟩::rest) n env w:=by
  by_cases g:(i&&(b==a))=true
  · have z:=gl g;have p:=gr g;rw[eH z]at m;have A:b=a:=by simpa using p
    subst A;refine J7 o m<|bW q (t g) (by simpa using u g) r ?_;rintro e w'⟨y,rfl⟩;refine⟨_,Z,?_⟩;have:=k w' y;rw[eH g]at this;exact this
  · have l:(i&&(b==a))=false:=by simpa using g
    have h:=k w<|bJ.refl _ _;rw[l]at h;cases i with
    |true=>exact bQ o m (by simpa using l) h
    |false=>exact Ru o m h
theorem WV{f:FuncId}(a:List Value){xs:Array Operand}{p:Array TypeId}{args:List Value}{j dj:Nat}{b c:Bool}(g:(ops[j]?).bind (·.dst)=some dj)(q:ev n env (.tmp dj)=.bool b)(i:Rs P f)(l:(b==c)=true->ev n env x=.func (.func f) #[] a.toArray)
    (m:(b==c)=true->xs.toList.map (ev n env)++a=args) (o:Calls P f args.toArray w (fun e w'=>Grow w w'/\e=.returned v))
    (k:∀w',Grow w w'->WL P ops Q rest n (gy env d (gv (b==c) v)) w'):
    WL P ops Q (⟨d,.call {callee:=.value x,args:=xs,argTypes:=p},ty,pos,af,some (j,c)⟩::rest) n env w:=
  Oz a true g q i (fun h=>l (by simpa using h)) (fun h=>m (by simpa using h)) o (by simpa using k)
end
open Go.RowKit
section
variable{P:Program}{ops:Array Oper}{Q:Exit->Act->World->Prop}{n:Nat}{env:Nat->Value}{w w' w0:World}{M K:BS}{hp:Nat->Chunk}{rest:List Oper}
 {d:Option Nat} {op:Op} {ty:TypeId} {pos:String} {af:Array Edge} {v:Value} {g:Option (Nat×Bool)} {T:TypeId} {ρ:Operand->Value}
theorem WW{x:Operand}{T E:TypeId}{e:Nat}{a:Option Addr}{l c:Nat}(f:SliceOf P T E e)(b:ρ x=.slice a l c):
  (execOp ρ ⟨d,.call {callee:=.builtin .cap,args:= #[x],argTypes:= #[T]},ty,pos,af,g⟩).run P w=.ok (.value (.int .i64 c)) w:=by
 simp[execOp,resolve,invoke,builtin,Builtin.cap_,b,underlying,f.desc,goInt]
theorem MJ(w:World)(t s ty e:TypeId)(i:TypeInfo)(z:Value)(x:P.underlying t=some (.slice e))(p:P.underlying s=some (.int .i64))(C:P.info? e=some i)(y:i.zero=some z)(E:0<i.size)
  (b:Addr) (a c:Nat) (d:List Value) (o:d.length=a*i.size) (holds:∀j v,d[j]? =some v->w.cell? (b.add j)=some v)
  (n:Nat) (G:0<n) (I:c<a+n) (B:((a+n:Nat):Int)<=9223372036854775807) (r:Builtin.nextslicecap (a+n) c*i.bytes<=281474976710656) (A:n*i.bytes<=281474976710656):
  (Builtin.append_ #[t,s] ty #[.slice (some b) a c,.int .i64 n]).run P w=
   .ok (.slice (some ⟨w.heap.size,0,none⟩) (a+n) (grownCap w (a+n) c e))
    (w.drew.alloc (.cells (d.toArray++Builtin.zeroCells z.cells n++Builtin.zeroCells z.cells (grownCap w (a+n) c e-(a+n))) e)):=by
 have hn:¬(a+n<=c):=by omega
 have g:n≠0:=by omega
 have f:¬(9223372036854775807<((a:Int)+(n:Int))):=by omega
 have k:¬(281474976710656<Builtin.nextslicecap (a+n) c*i.bytes):=by omega
 have u:IntKind.i64.wrap (n:Int)=n:=by rw[IntKind.wrap_i64];omega
 have l:¬(281474976710656<(n:Int)*(i.bytes:Int)):=by
  rw[<-Int.natCast_mul];omega
 have h:¬((n:Int)<0):=by omega
 have q:¬(n*i.size=0):=Nat.mul_ne_zero g V;have m:=run_firstCells_some (P:=P) w.drew i.size a b a c d o (by simpa using holds);simp[Builtin.append_,run_underlying x,run_underlying p,sizeOf,typeInfo,zeroValue,C,y,asInt,asIntOf,u,hn,g,h,q,f,k,l,Question.forced,m,newRow,grownCap]
theorem wl_growRaw{x y:Operand}{E s:TypeId}{e c gg cap a k:Nat}{b:List Value}(L:ko P T E e c)(O:P.underlying s=some (.int .i64))(N:Raw w gg cap e E b)(X:ev n env x=.slice (some ⟨gg,0,none⟩) a cap)(hy:ev n env y=.int .i64 (k:Nat))(hs:0<e)(I:a<=cap)(hk:0<k)(R:cap<a+k)
    (hb:(a+k)*c<=140737488355328) (J:a+k<=maxLen)
    (h:∀w' g2 f g,Grow w w'->w.heap.size<=g2->a+k<=f->Raw w' g2 f e E g->g.take (a*e)=b.take (a*e)->WL P ops Q rest n (gy env d (.slice (some ⟨g2,0,none⟩) (a+k) f)) w'):
    WL P ops Q (⟨d,.call {callee:=.builtin .append,args:= #[x,y],argTypes:= #[T,s]},ty,pos,af,none⟩::rest) n env w:=by
  obtain⟨i,z,S,hz,v,m,C⟩:=L.info;have K:a*e<=cap*e:=Nat.mul_le_mul_right _ I;have M:=N.len;have q:(b.take<|a*e).length=a*e:=by rw[List.length_take];omega
  have holds:∀j u,(b.take<|a*e)[j]? =some u->w.cell? ((⟨gg,0,none⟩:Addr).add j)=some u:=by
    intro j u r;rw[addr_add,Nat.zero_add];rw[List.getElem?_take]at r;split at r
    · simp[World.cell?,N.blk,r]
    · cases r
  have B:((a+k:Nat):Int)<=9223372036854775807:=by simp only[maxLen]at J;omega
  have t:Builtin.nextslicecap (a+k) cap<=2*(a+k):=by
    exact nextslicecap_le V
  have p:Builtin.nextslicecap (a+k) cap*i.bytes<=281474976710656:=by
    have:=Nat.mul_le_mul_right i.bytes t;rw[Nat.mul_assoc,m]at this;rw[m];omega
  have G:k*i.bytes<=281474976710656:=by
    rw[m];have:k*c<=(a+k)*c:=Nat.mul_le_mul_right _ V;omega
  have l:=MJ (P:=P) w T s ty E i z L.desc O S hz V ⟨gg,0,none⟩ a cap (b.take (a*e)) (by rw[v];exact q) holds k hk R B p G;have o:(execOp (ev n env) ⟨d,.call {callee:=.builtin .append,args:= #[x,y],argTypes:= #[T,s]},ty,pos,af,none⟩).run P w=.ok (.value<|.slice (some ⟨w.heap.size,0,none⟩) (a+k)<|grownCap w (a+k) cap E) (w.drew.alloc<|.cells ((b.take<|a*e).toArray++Builtin.zeroCells z.cells k++Builtin.zeroCells z.cells (grownCap w (a+k) cap E-(a+k))) E):=by
    simp only[execOp,resolve,invoke,builtin,Sem.run_bind,Sem.run_pure,Result.andThen_ok,List.map_toArray,List.map_cons,List.map_nil,X,hy,l]
  have hge:=grownCap_ge w (a+k) cap E;have A:grownCap w (a+k) cap E<=maxLen:=grownCap_le_maxLen w (a+k) cap E J;refine F o<|h _ _ _ ((b.take<|a*e)++(Builtin.zeroCells z.cells k).toList++(Builtin.zeroCells z.cells<|grownCap w (a+k) cap E-(a+k)).toList) ?_ (Nat.le_refl _) hge ⟨?_,?_,A⟩ ?_
  · exact(Grow.drew w).trans<|Grow.alloc _ _
  · have:=heap_alloc_new w.drew<|.cells ((b.take<|a*e).toArray++Builtin.zeroCells z.cells k++Builtin.zeroCells z.cells (grownCap w (a+k) cap E-(a+k))) E;rw[show((b.take (a*e))++(Builtin.zeroCells z.cells k).toList++(Builtin.zeroCells z.cells (grownCap w (a+k) cap E-(a+k))).toList).toArray=((b.take (a*e)).toArray++Builtin.zeroCells z.cells k++Builtin.zeroCells z.cells (grownCap w (a+k) cap E-(a+k))) by apply Array.ext';simp];exact this
  · rw[List.length_append,List.length_append,q,Array.length_toList,Array.length_toList,size_zeroCells,size_zeroCells,C,<-Nat.add_mul,<-Nat.add_mul];congr 1;omega
  · rw[List.append_assoc,List.take_append_of_le_length V,List.take_of_length_le V]
theorem run_copyN(w:World)(dT n ty e:TypeId)(i:TypeInfo)(g o d f:Nat)(a:Addr)(c h:Nat)(b:Array Value)(t:TypeId)(cs:List Value)
  (u:P.underlying dT=some (.slice e)) (s:P.info? e=some i)
  (p:w.heap[g]? =some (.cells b t (0,0))) (hn:cs.length=Nat.min c d*i.size)
  (l:∀j v,cs[j]? =some v->w.cell? (a.add j)=some v) (k:o+cs.length<=b.size) (r:∀v∈cs,v.oneCell'=true):
  (Builtin.copy_ #[dT,n] ty #[.slice (some ⟨g,o,none⟩) d f,.slice (some a) c h]).run P w=
   .ok (goInt (Nat.min c d)) (w.setRow g (b.toList.take o++cs++b.toList.drop (o+cs.length)).toArray):=by
 have q:=run_loadCells_list (P:=P) w a cs l;have m:=run_storeCells_at P g o t cs 0 b w p (by simpa using k) r;simp[Builtin.copy_,run_underlying u,Builtin.lenOf,Builtin.firstCells,sizeOf,typeInfo,s,<-hn,q,m]
theorem Lp{x y:Operand}{E t:TypeId}{b k gg cap o dl dc m c:Nat}{a news:List Value}{ad:Addr}(A:ko P T E b k)(q:Raw w gg cap b E a)(I:ev n env x=.slice (some ⟨gg,o*b,none⟩) dl dc)(J:ev n env y=.slice (some ad) m c)
  (v:news.length=Nat.min m dl*b) (g:∀j u,news[j]? =some u->w.cell? (ad.add j)=some u) (B:∀u∈news,u.oneCell'=true) (p:o+Nat.min m dl<=cap)
  (h:∀w',bJ (fun x=>x=gg) w w'->Raw w' gg cap b E (a.take (o*b)++news++a.drop (o*b+news.length))->WL P ops Q rest n (gy env d (.int .i64 (Nat.min m dl:Nat))) w'):
  WL P ops Q (⟨d,.call {callee:=.builtin .copy,args:= #[x,y],argTypes:= #[T,t]},ty,pos,af,none⟩::rest) n env w:=by
 obtain⟨i,z,C,L,s,K,G⟩:=A.info;have f:=q.len;have r:o*b+news.length<=cap*b:=by rw[v,<-Nat.add_mul];exact Nat.mul_le_mul_right _ p
 have e:=run_copyN (P:=P) w T t ty E i gg (o*b) dl dc ad m c a.toArray E news A.desc C q.blk (by rw[s];exact v) g (by simpa[f]using r) B;rw[Ja q.blk]at e;have l:(execOp (ev n env) ⟨d,.call {callee:=.builtin .copy,args:= #[x,y],argTypes:= #[T,t]},ty,pos,af,none⟩).run P w=.ok (.value<|.int .i64 (Nat.min m dl:Nat)) (wz w gg<|.cells (a.take (o*b)++news++a.drop (o*b+news.length)).toArray E (0,0)):=by
  simp only[execOp,resolve,invoke,builtin,Sem.run_bind,Sem.run_pure,Result.andThen_ok,List.map_toArray,List.map_cons,List.map_nil,I,J,e];rfl
 refine F l<|h _ (bJ.wz _ _ _) ⟨vw<|iK q.blk,?_,q.le⟩;rw[List.length_append,List.length_append,List.length_take,List.length_drop,f];omega
structure OverFn(P:Program)(f:FuncId)(T B:TypeId):Prop where
 out:∀(args:Array Value) (w:World),(callFunc f args).run P w=((Extern.SlicesOverlaps.overlaps #[T,T] #[B] args).run P w).andThen fun v w'=>.ok (.value v) w'
theorem wl_overlaps{x:Operand}{xs:Array Operand}{u:Array TypeId}{f:FuncId}{E B:TypeId}{j e g1 g2 c2 o1 o2 m1 m2 k1 k2:Nat}{b c:List Value}{s:TypeId}(t:OverFn P f T B)(r:ko P T E j e)(k:w.heap[g1]? =some (.cells b.toArray s (0,0)))(p:Raw w g2 c2 j E c)(o:g1≠g2)(q:0<c2*j)
  (A:ev n env x=.func (.func f) #[] #[]) (l:xs.toList.map (ev n env)=[.slice (some ⟨g1,o1,none⟩) m1 k1,.slice (some ⟨g2,o2,none⟩) m2 k2])
  (h:WL P ops Q rest n (gy env d (.bool false)) w):
  WL P ops Q (⟨d,.call {callee:=.value x,args:=xs,argTypes:=u},ty,pos,af,none⟩::rest) n env w:=by
 obtain⟨i,z,v,G,m,C,y⟩:=r.info;have ho:=Lib.run_overlaps_apart (P:=P) w T B E r.desc j (fun w=>by simp[sizeOf,typeInfo,v,m]) ⟨g1,o1,none⟩ ⟨g2,o2,none⟩ m1 k1 m2 k2 o s E b.length c.length (by simp[World.shape?,k]) (by simp[World.shape?,p.blk]) (by rw[p.len];omega) (by simp[World.frozen?,k]) (by simp[World.frozen?,k]);have g:xs.map (ev n env)= #[.slice (some ⟨g1,o1,none⟩) m1 k1,.slice (some ⟨g2,o2,none⟩) m2 k2]:=by
  apply Array.ext';simpa using l
 have a:=t.out #[.slice (some ⟨g1,o1,none⟩) m1 k1,.slice (some ⟨g2,o2,none⟩) m2 k2] w;rw[ho]at a;refine F ?_ h;simp only[execOp,resolve,A,Deferred.ofValue,invoke];simp[g,a]
end
open Go.RowKit
section
variable{β:Type}
theorem ins_l1{C X:List β}{p s:Nat}(a:X.length=s)(hp:p<=C.length):(C.take p++X++C.drop (p+s)).take (p+s)=C.take p++X:=by
 have h:(C.take p++X).length=p+s:=by simp[a];omega
 rw[<-h,List.take_left]
theorem ins_l2{B a R:List β}{p q:Nat}(c:p<=B.length)(b:a.length=q):(B.take p++a++R).take (p+q)=B.take p++a:=by
 have h:(B.take p++a).length=p+q:=by simp[b];omega
 rw[<-h,List.take_left]
theorem ins_l3{C X a R:List β}{p s q:Nat}(e:X.length=s)(hp:p+s<=C.length)(d:a.length=q):
  ((C.take (p+s)++a++R).take p++X++(C.take (p+s)++a++R).drop (p+s)).take (p+s+q)=C.take p++X++a:=by
 have c:(C.take<|p+s).length=p+s:=by simp;omega
 have b:(C.take (p+s)++a++R).take p=C.take p:=by
  rw[List.append_assoc,List.take_append_of_le_length V,List.take_take,Nat.min_eq_left V]
 have g:(C.take (p+s)++a++R).drop (p+s)=a++R:=by
  rw[List.append_assoc];exact List.drop_left' c
 rw[b,g,<-List.append_assoc];have f:(C.take p++X++a).length=p+s+q:=by simp[e,d];omega
 rw[<-f,List.take_left]
end
theorem raw_ins{α:Type}{R:kW α}{E:TypeId}{w w':World}{A N:BS}{l:List α}{x:α}{gg g2 d i:Nat}{c g m:List Value}(J:Raw w' g2 d R.sz E g)(O:bJ (fun y=>y=gg) w w')(s:g2<w.heap.size->g2=gg)(hi:i<=l.length)(hc:l.length+1<=d)(S:l.length*R.sz<=c.length)
    (t:∀k (h:k<l.length),R.rd w (fun b=>A b\/b=gg) ((c.drop (k*R.sz)).take R.sz) l[k]) (M:R.rd w N m x) (hN:∀b,(A b\/b=gg)->b<w.heap.size->N b) (X:gg<w.heap.size)
    (Q:g.take (i*R.sz+R.sz+(l.length-i)*R.sz)=c.take (i*R.sz)++m++(c.drop (i*R.sz)).take ((l.length-i)*R.sz)):
    bZ R E w' A (.slice (some ⟨g2,0,none⟩) (l.length+1) d) (l.take i++[x]++l.drop i):=by
  have e:(l.take i++[x]++l.drop i).length=l.length+1:=by simp;omega
  have p:=R.len M;have T:i*R.sz<=l.length*R.sz:=Nat.mul_le_mul_right _ hi;have n:(l.length-i)*R.sz=l.length*R.sz-i*R.sz:=Nat.sub_mul _ _ _;have q:(c.take<|i*R.sz).length=i*R.sz:=by rw[List.length_take];omega
  have L:(l.length+1)*R.sz=i*R.sz+R.sz+(l.length-i)*R.sz:=by rw[Nat.add_mul,n];omega
  have u:∀cs a,R.rd w (fun b=>A b\/b=gg) cs a->R.rd w' (fun b=>A b\/ob (.slice (some ⟨g2,0,none⟩) (l.length+1) d) b) cs a:=fun cs a h=>
    R.go h O (fun b f _=>.inr f) (fun b f r=>f.elim .inl (fun f=>.inr (by have:b=g2:=f;subst this;exact s r)))
  have z:R.rd w' (fun b=>A b\/ob (.slice (some ⟨g2,0,none⟩) (l.length+1) d) b) m x:=
    R.go M O (fun b f r=>hN b (.inr f) r) (fun b f r=>hN b (f.elim .inl (fun f=>.inr (by have:b=g2:=f;subst this;exact s r))) r)
  refine⟨c.take (i*R.sz)++m++(c.drop<|i*R.sz).take ((l.length-i)*R.sz),⟨?_,.inr ⟨g2,d,g.toArray,?_,Nat.zero_le _,J.blk,?_,J.le,?_,?_⟩⟩,?_⟩
  · rw[e,L,List.length_append,List.length_append,q,p,List.length_take,List.length_drop,n];omega
  · rw[e]
  · rw[e];omega
  · simpa using J.len
  · rw[e,L];exact Q
  · intro k C;rw[e]at C;by_cases I:k<i
    · have o:(k+1)*R.sz<=i*R.sz:=Nat.mul_le_mul_right _ I;rw[Nat.add_mul]at o;have K:=u _ _<|t k V;have v:(l.take i++[x]++l.drop i)[k]'(by rw[e];omega)=l[k]'V:=by
        rw[List.getElem_append_left (by simp;omega),List.getElem_append_left (by simp;omega),List.getElem_take]
      rw[v,List.append_assoc,List.drop_append_of_le_length V,List.take_append_of_le_length (by rw[List.length_drop];omega),List.drop_take,List.take_take,Nat.min_eq_left V];exact K
    · by_cases B:k=i
      · subst B;have v:(l.take k++[x]++l.drop k)[k]'(by rw[e];omega)=x:=by
          rw[List.getElem_append_left (by simp;omega),List.getElem_append_right (by simp;omega)];simp
        rw[v,List.append_assoc];have G:(c.take (k*R.sz)++(m++(c.drop<|k*R.sz).take ((l.length-k)*R.sz))).drop (k*R.sz)=m++(c.drop<|k*R.sz).take ((l.length-k)*R.sz):=by
          exact List.drop_left' q
        rw[G,<-p,List.take_left];exact z
      · obtain⟨j,rfl⟩:∃j,k=i+1+j:=⟨k-i-1,by omega⟩;have K:=u _ _<|t (i+j) V;have v:(l.take i++[x]++l.drop i)[i+1+j]'(by rw[e];omega)=l[i+j]'V:=by
          rw[List.getElem_append_right (by simp;omega),List.getElem_drop];congr 1;simp;omega
        have P:(c.take (i*R.sz)++m).length=i*R.sz+R.sz:=by rw[List.length_append,q,p]
        have G:(c.take (i*R.sz)++m++(c.drop<|i*R.sz).take ((l.length-i)*R.sz)).drop ((i+1+j)*R.sz)=((c.drop<|i*R.sz).take ((l.length-i)*R.sz)).drop (j*R.sz):=by
          rw[show(i+1+j)*R.sz=(c.take (i*R.sz)++m).length+j*R.sz by rw[P,Nat.add_mul,Nat.add_mul,Nat.one_mul]];rw[List.drop_append];have:(c.take (i*R.sz)++m).drop ((c.take (i*R.sz)++m).length+j*R.sz)=[]:=List.drop_eq_nil_of_le V;rw[this,List.nil_append];congr 1;omega
        have o:(j+1)*R.sz<=(l.length-i)*R.sz:=Nat.mul_le_mul_right _ V;rw[Nat.add_mul]at o;rw[v,G,List.drop_take,List.take_take,Nat.min_eq_left V,List.drop_drop,<-Nat.add_mul];exact K
def ins1{α:Type}(l:List α)(i:Int)(m:List α):Option (List α):=if 0<=i/\i<=l.length then some (l.take i.toNat++m++l.drop i.toNat)else none
theorem o_ins{α:Type}{l r m:List α}{i:Int}(h:ins1 l i m=some r):∃a:Nat,i=a/\a<=l.length/\r=l.take a++m++l.drop a:=by
  unfold ins1 at h;by_cases hp:0<=i/\i<=l.length
  · rw[if_pos hp]at h;cases h;exact⟨i.toNat,by omega,by omega,Z⟩
  · rw[if_neg hp]at h;cases h
theorem OA{w:World}{gg cap c:Nat}{E:TypeId}{b:List Value}(d:Raw w gg cap c E b)(o k:Nat):∀j u,((b.drop o).take k)[j]? =some u->w.cell? ((⟨gg,o,none⟩:Addr).add j)=some u:=by
  intro j u a;rw[addr_add];rw[List.getElem?_take]at a;split at a
  · rw[List.getElem?_drop]at a;simp[World.cell?,d.blk,a]
  · cases a
theorem bZ.srcO{α:Type}{R:kW α}{E:TypeId}{w:World}{A:BS}{v:Value}{l:List α}(h:bZ R E w A v l):ed R w BE (fun b=>A b\/ob v b) v l:=by
  obtain⟨xs,d,c⟩:=h;rcases d.2 with⟨rfl,hn⟩|⟨g,cap,cur,rfl,e1,e2,e3,e4,e5,e6⟩
  · have:l=[]:=List.eq_nil_of_length_eq_zero hn;subst this;exact ed.nil
  · refine⟨some ⟨g,0,none⟩,cap,Z,e3,e4,(fun h=>by cases h),fun i a=>⟨g,0,cur,E,(0,0),Z,fun h=>h,e2,?_⟩⟩;have:=c i a;rw[<-e6,List.drop_take,List.take_take,Nat.min_eq_left ?_]at this
    · rw[Nat.zero_add];exact this
    · have:(i+1)*R.sz<=l.length*R.sz:=Nat.mul_le_mul_right _ a;rw[Nat.add_mul]at this;omega
section
variable{P:Program}{ops:Array Oper}{Q:Exit->Act->World->Prop}{n:Nat}{env:Nat->Value}{w:World}{rest:List Oper}
 {d:Option Nat} {ty:TypeId} {pos:String} {af:Array Edge} {v:Value} {T:TypeId} {x y:Operand}
theorem wl_appO{α:Type}{R:kW α}{E:TypeId}{e a:Nat}{A:BS}{u:Value}{l m:List α}(r:ko P T E e a)(h:R.sz=e)(z:bZ R E w A v l)(B:ed R w BE A u m)(s:ev n env x=v)(f:ev n env y=u)
  (t:∀b,ob v b->A b) (C:(l.length+m.length)*a<=140737488355328) (i:l.length+m.length<=9223372036854775807)
  (k:∀w' c,bZ R E w' A c (l++m)->bJ (ob v) w w'->(∀b,ob c b->b<w.heap.size->ob v b)->WL P ops Q rest n (gy env d c) w'):
  WL P ops Q (⟨d,.call {callee:=.builtin .append,args:= #[x,y],argTypes:= #[T,T]},ty,pos,af,none⟩::rest) n env w:=by
 obtain⟨c,w',o,q,j,p⟩:=run_app (d:=d) (ty:=ty) (pos:=pos) (af:=af) (g:=none) r h s z f B t C i;exact F o<|k w' c q j p
end
theorem ins_av{α β:Type}{R:kW α}{R':kW β}{E d:TypeId}{w0 w:World}{M K:BS}{hp:Nat->Chunk}{i j:Nat}{v u:Value}{l:List α}{m:List β}(h:SH w0 M K w hp)(c:i≠j)(f:hp i=.own R E v l)(g:hp j=.own R' d u m):∀b,((M b\/rest hp i b)\/ob v b)->b<w.heap.size->(M b\/rest hp j b)\/ob u b:=by
  rintro b((a|⟨k,n,a⟩)|a)_
  · exact .inl<|.inl a
  · by_cases e:k=j
    · subst e;rw[g]at a;exact .inr a
    · exact .inl<|.inr ⟨k,e,a⟩
  · exact .inl (.inr ⟨i,c,by rw[f];exact a⟩)
open Go.RowKit
section
variable{P:Program}{ops:Array Oper}
variable{Q:Exit->Act->World->Prop}{n:Nat}{env:Nat->Value}{w w0:World}{M K:BS}{hp:Nat->Chunk}
structure Wv(P:Program)(ops:Array Oper)(L:BS)(ws:World)(Q:Exit->Act->World->Prop)(fuel:Nat)(listed:Array Bool)(n:Nat)(env:Nat->Value)(w:World):Prop where
 out:wpAnyH P .any ops (NoPanic Q) (bJ L ws) fuel listed (act n env) w
theorem jC{L:BS}{id:Nat}{l:List Oper}(a:P.follows .mixedOrders=true)(b:SH w0 M K w hp)
  (h:∀w,SH w0 M K w hp->Wv P l.toArray L w Q l.length (Array.replicate l.length false) n env w):WC P (Code.region id l.toArray true) Q n env w:=
 ⟨wp_region_noPanic (wp_region_held (S:=bJ L w.drew) a (h _ (b.grow (Grow.drew w))).out)⟩
variable{d:Option Nat}{op:Op}{ty:TypeId}{pos:String}{af:Array Edge}{v:Value}{g:Option (Nat×Bool)}{i fuel:Nat}{listed:Array Bool}
theorem whk_first{L:BS}{ws:World}{o:Oper}(a:bJ L ws w)(d:ops[i]? =some o)(c:Region.noSelect ops=true)(f:Region.free .any ops listed i=true)(e:(Region.ready .any ops listed).contains i=true)
  (b:YieldsIf P ops (bJ L ws) o v (act n env)) (h:Wv P ops L ws Q fuel (listed.setIfInBounds i true) n (gy env o.dst v) w):Wv P ops L ws Q (fuel+1) listed n env w:=by
 refine⟨wpAnyH_take d c f e (fun _ _ _ h=>h) b a ?_⟩;rw[ED];exact h.out
theorem whk_ok{L:BS}{ws:World}(i:Nat)(b:bJ L ws w)(j:ops[i]? =some ⟨d,op,ty,pos,af,g⟩)(c:Region.wanted ⟨d,op,ty,pos,af,g⟩ (yielded ops (act n env).tmps)=true)(f:Region.noSelect ops=true)(m:Region.free .any ops listed i=true)(k:(Region.ready .any ops listed).contains i=true)
  (e:∀a,bJ L ws a->(execOp (ev n env) ⟨d,op,ty,pos,af,g⟩).run P a=.ok (.value v) a) (h:Wv P ops L ws Q fuel (listed.setIfInBounds i true) n (gy env d v) w):Wv P ops L ws Q (fuel+1) listed n env w:=
 whk_first (o:=⟨d,op,ty,pos,af,g⟩) b j f m k (.inl ⟨c,fun a l=>by rw[gN];exact e a l⟩) h
theorem whk_done{L:BS}{ws:World}(a:Region.ready .any ops listed=[])(h:Q .normal (act n env) w):Wv P ops L ws Q fuel listed n env w:=⟨wpAnyH_done a (NoPanic.normal h) fuel⟩
def Ty(P:Program)(ops:Array Oper)(L:BS)(ws:World)(Q:Exit->Act->World->Prop)(fuel:Nat)(listed:Array Bool):Exit->Act->World->Prop:=
 selK (fun a' w'=>bJ L ws w'/\wpAnyH P .any ops (NoPanic Q) (bJ L ws) fuel listed a' w') (NoPanic Q)
theorem au{L:BS}{ws:World}(a:bJ L ws w)(h:Wv P ops L ws Q fuel listed n env w):Ty P ops L ws Q fuel listed .normal (act n env) w:=⟨a,h.out⟩
theorem whk_eff{L:BS}{ws:World}(i:Nat)(b:Region.ready .any ops listed=[i])(e:ops[i]? =some ⟨d,op,ty,pos,af,g⟩)(a:Region.wanted ⟨d,op,ty,pos,af,g⟩ (yielded ops (act n env).tmps)=true)
  (h:WL P ops (Ty P ops L ws Q fuel (listed.setIfInBounds i true)) [⟨d,op,ty,pos,af,none⟩] n env w):Wv P ops L ws Q (fuel+1) listed n env w:=by
 refine⟨wpAnyH_all b zq3 fun k c=>?_⟩;obtain rfl:k=i:=by simpa using c
 exact Hd e a h
theorem jc{L:BS}{ws:World}{f:Option Nat}{b:Op}{c:TypeId}{a:String}{e:Array Edge}{o:Option (Nat×Bool)}(i j:Nat)(s:Region.ready .any ops listed=[i,j])(t:ops[i]? =some ⟨d,op,ty,pos,af,g⟩)(p:Region.wanted ⟨d,op,ty,pos,af,g⟩ (yielded ops (act n env).tmps)=true)
    (r:ops[j]? =some ⟨f,b,c,a,e,o⟩) (l:Region.wanted ⟨f,b,c,a,e,o⟩ (yielded ops (act n env).tmps)=true)
    (h:WL P ops (Ty P ops L ws Q fuel (listed.setIfInBounds i true)) [⟨d,op,ty,pos,af,none⟩] n env w) (q:WL P ops (Ty P ops L ws Q fuel (listed.setIfInBounds j true)) [⟨f,b,c,a,e,none⟩] n env w):Wv P ops L ws Q (fuel+1) listed n env w:=by
  refine⟨wpAnyH_all s zq3 fun k m=>?_⟩;rcases List.mem_cons.1 m with rfl|m
  · exact Hd t p h
  · obtain rfl:k=j:=by simpa using m
    exact Hd r l q
end
theorem bJ.FQ{a b c:World}{L N:BS}(h:bJ L a b)(k:bJ N b c)(hN:∀x,N x->a.heap.size<=x):bJ L a c:=h.step k (fun x d e=>by have:=hN x d;omega)
theorem bJ.same{a b c:World}{L:BS}(h:bJ L a b)(k:bJ L b c):bJ L a c:=h.step k (fun _ d _=>d)
section
variable{P:Program}{ops:Array Oper}{Q:Exit->Act->World->Prop}{n:Nat}{env:Nat->Value}{w w' w0:World}{M K:BS}{hp:Nat->Chunk}{rest:List Oper}
 {d:Option Nat} {op:Op} {ty:TypeId} {pos:String} {af:Array Edge} {v:Value} {g:Option (Nat×Bool)} {T:TypeId} {ρ:Operand->Value} {x y:Operand}
theorem w_stOG{α:Type}{R:kW α}{E:TypeId}{G:Nat}{l:List α}{k:Int}{a a':α}{b off:Nat}{z u:Value}(h:SH w0 M K w hp)(i:Nat)(r:hp i=.own R E u l)(N:ob u b)(hs:R.sz=G)(s:l[k.toNat]? =some a)(hT:One P T z)(c:ev n env x=.pointer (some ⟨b,k.toNat*G+off,none⟩))
    (hy:ev n env y=v) (h1:v.oneCell'=true) (p:Nat.blt off G=true) (hset:∀cs,R.rd w (SH.A M hp) cs a->R.rd w (SH.A M hp) (cs.set off v) a')
    (kk:∀w',SH w0 M K w' (bX hp i (.own R E u (l.set k.toNat a')))->bJ (ob u) w w'->WL P ops Q rest n (gy env d undef) w'):
    WL P ops Q (⟨d,.store T x y,ty,pos,af,none⟩::rest) n env w:=by
  subst hs;rw[Nat.blt_eq]at p;have g:k.toNat<l.length:=by
    rcases Nat.lt_or_ge k.toNat l.length with h|h
    · exact h
    · rw[List.getElem?_eq_none h]at s;cases s
  have J:l[k.toNat]=a:=by rw[List.getElem?_eq_getElem g]at s;exact Option.some.inj s
  generalize k.toNat=k at*;have e:∀b,ob u b->SH.A M hp b:=fun b N=>.inr ⟨i,by rw[r];exact N⟩;obtain⟨xs,O,X⟩:=h.bG i r;rcases O.2 with⟨rfl,hn⟩|⟨g',cap,cur,rfl,e1,e2,e3,e4,e5,e6⟩
  · omega
  have B:b=g':=N;subst B;have t:(k+1)*R.sz<=l.length*R.sz:=Nat.mul_le_mul_right _ g;have a0:l.length*R.sz<=cap*R.sz:=Nat.mul_le_mul_right _ e3;rw[Nat.add_mul]at t;have I:k*R.sz+off<cur.size:=by omega
  have f:=bJ.wz w b<|.cells (cur.setIfInBounds (k*R.sz+off) v) E (0,0);refine AL (Rp hT c e2 I hy h1) (kk _ (h.step i f (fun x c _=>by rw[r];exact c) (fun x c _=>by rw[r];exact c) ⟨xs.set (k*R.sz+off) v,⟨?_,.inr ⟨b,cap,cur.setIfInBounds (k*R.sz+off) v,?_,e1,?_,?_,e4,?_,?_⟩⟩,?_⟩) (f.weaken (fun x c _=>c)))
  · rw[List.length_set,List.length_set];exact O.1
  · rw[List.length_set]
  · rw[vw (iK e2)]
  · rw[List.length_set];exact e3
  · simpa using e5
  · rw[List.length_set,Array.toList_setIfInBounds,List.take_set,e6]
  · intro m C;have L:m<l.length:=by rwa[List.length_set]at C
    have q:=fun cs a(h:R.rd w (SH.A M hp) cs a)=>R.go (A':=fun x=>(M x\/(SH.av hp i (.own R E (.slice (some ⟨b,0,none⟩) l.length cap) (l.set k a'))) x)\/ob (.slice (some ⟨b,0,none⟩) l.length cap) x) h f (fun x c _=>e x c) (fun x c _=>by
      rcases c with(c|c|c)|c
      · exact .inl c
      · exact .inr<|lh c
      · exact e x c
      · exact e x c)
    have S:=fun j(hj:j<l.length)=>R.go (A':=SH.A M hp) (X j hj) (bJ.refl BE w) (fun _ h=>h.elim) fun x c _=>.inl c;by_cases o:m=k
    · subst o;rw[List.getElem_set_self,PL rfl];exact q _ _<|hset _<|J▸S m g
    · rw[List.getElem_set_ne (Ne.symm o),M4]
      · exact q _ _<|S m L
      · rcases Nat.lt_or_ge k m with h5|h5
        · left;have:(k+1)*R.sz<=m*R.sz:=Nat.mul_le_mul_right _ h5;rw[Nat.add_mul]at this;omega
        · right;have:(m+1)*R.sz<=k*R.sz:=Nat.mul_le_mul_right _ V;rw[Nat.add_mul]at this;omega
end
open Go.RowKit
section
variable{w0 w:World}{M K:BS}{hp:Nat->Chunk}{α:Type}{R:kW α}
theorem SH.gm(h:SH w0 M K w hp)(i:Nat):SH w0 M K w (bX hp i .no):=h.step i (bJ.refl BE w) (fun _ h=>h.elim) (fun _ h=>h.elim) U
variable{P:Program}{T T2 ty:TypeId}{ρ:Operand->Value}{d:Option Nat}{pos:String}{af:Array Edge}{g:Option (Nat×Bool)}{x y:Operand}{v:Value}{A:BS}{o:Option α}
def PtrTo(P:Program)(T:TypeId):Prop:=∃E,P.underlying T=some (.pointer E)
theorem PtrTo.p(a:PtrTo P T):P.underlying T=some (.pointer (P.pointee T)):=by
 obtain⟨E,a⟩:=a;simp[Program.pointee,a]
end
open Go.RowKit
def Chunk.Rx:Chunk->Prop
 | .sr .. =>False
 | .pt .. =>False
 | .two a b=>a.Rx/\b.Rx
 |_=>True
theorem Chunk.re{c:Chunk}{w:World}{M O i j:BS}(e:c.Rx)(h:c.holds w M O)(d:∀b,i b\/j b->b<w.heap.size->M b\/O b):c.holds w i j:=by
 induction c with
 |no=>trivial
 |rd R v l=>exact ed.sub h d d
 |sr R v l=>exact e.elim
 |pt b o cs=>exact e.elim
 |blk b cs=>exact h
 |own R E v l=>exact bZ.go h (bJ.refl BE w) (fun _ h=>h.elim) (fun _ h=>h.elim) (fun b f g=>.inl (d b f g))
 |rp R v x=>exact R.go h (bJ.refl BE w) (fun _ h=>h.elim) d
 |two a b iha ihb=>exact⟨iha e.1 h.1,ihb e.2 h.2.1,h.2.2⟩
 |eX S=>exact S.go h (bJ.refl BE w) (fun _ h=>h.elim) (fun _ h=>h.elim) (fun b f g=>.inl (d b f g))
 |mp b j3=>exact h
section
variable{w0 w w':World}{M K:BS}{hp:Nat->Chunk}
theorem SH.pair(h:SH w0 M K w hp)(i j:Nat)(l:i≠j):SH w0 M K w (bX (bX hp j .no) i (.two (hp i) (hp j))):=by
  have c:∀x b,(bX (bX hp j .no) i (.two (hp i)<|hp j) x).own' b->(x=i/\((hp i).own' b\/(hp j).own' b))\/(x≠i/\x≠j/\(hp x).own' b):=by
    intro x b a;by_cases e:x=i
    · subst e;rw[dn]at a;exact .inl ⟨Z,a⟩
    · rw[fA e]at a;by_cases f:x=j
      · subst f;rw[dn]at a;exact a.elim
      · rw[fA f]at a;exact .inr ⟨e,f,a⟩
  have d:∀b,iL (bX (bX hp j .no) i<|.two (hp i)<|hp j) b->iL hp b:=by
    rintro b⟨x,k⟩;rcases c x b k with⟨_,h1|h1⟩|⟨_,_,h1⟩
    · exact⟨i,h1⟩
    · exact⟨j,h1⟩
    · exact⟨x,h1⟩
  refine⟨h.keep,h.ltM,fun x b a=>?_,fun x=>?_,fun x y g b k m=>?_,fun x b a=>?_⟩
  · rcases c x b a with⟨_,h1|h1⟩|⟨_,_,h1⟩
    · exact h.apM i b h1
    · exact h.apM j b h1
    · exact h.apM x b h1
  · by_cases e:x=i
    · subst e;rw[dn];exact⟨Chunk.sub (h.ok x) fun b a _=>d b a,Chunk.sub (h.ok j) fun b a _=>d b a,fun b a=>h.apart x j l b a⟩
    · rw[fA e];by_cases f:x=j
      · subst f;rw[dn];trivial
      · rw[fA f];exact Chunk.sub (h.ok x) (fun b a _=>d b a)
  · rcases c x b k with⟨e1,h1⟩|⟨e1,e1',h1⟩<;>rcases c y b m with⟨f,h2⟩|⟨f,e2',h2⟩
    · exact g<|e1.trans f.symm
    · rcases h1 with h1|h1
      · exact h.apart i y (fun e=>f e.symm) b h1 h2
      · exact h.apart j y (fun e=>e2' e.symm) b h1 h2
    · rcases h2 with h2|h2
      · exact h.apart x i e1 b h1 h2
      · exact h.apart x j e1' b h1 h2
    · exact h.apart x y g b h1 h2
  · rcases c x b a with⟨_,h1|h1⟩|⟨_,_,h1⟩
    · exact h.old i b h1
    · exact h.old j b h1
    · exact h.old x b h1
theorem SH.unpair{a c:Chunk}(h:SH w0 M K w hp)(i j:Nat)(s:i≠j)(q:hp i=.two a c)(t:hp j=.no):SH w0 M K w (bX (bX hp i a) j c):=by
  have g:∀x b,(bX (bX hp i a) j c x).own' b->(x=i/\a.own' b)\/(x=j/\c.own' b)\/(x≠i/\x≠j/\(hp x).own' b):=by
    intro x b d;by_cases e:x=j
    · subst e;rw[dn]at d;exact .inr (.inl ⟨Z,d⟩)
    · rw[fA e]at d;by_cases f:x=i
      · subst f;rw[dn]at d;exact .inl ⟨Z,d⟩
      · rw[fA f]at d;exact .inr (.inr ⟨f,e,d⟩)
  have o:∀b,a.own' b->(hp i).own' b:=fun b d=>by rw[q];exact .inl d
  have n:∀b,c.own' b->(hp i).own' b:=fun b d=>by rw[q];exact .inr d
  have k:∀b,iL (bX (bX hp i a) j c) b->iL hp b:=by
    rintro b⟨x,p⟩;rcases g x b p with⟨_,h1⟩|⟨_,h1⟩|⟨_,_,h1⟩
    · exact⟨i,o b h1⟩
    · exact⟨i,n b h1⟩
    · exact⟨x,h1⟩
  have l:=h.ok i;rw[q]at l;refine⟨h.keep,h.ltM,fun x b d=>?_,fun x=>?_,fun x y m b p r=>?_,fun x b d=>?_⟩
  · rcases g x b d with⟨_,h1⟩|⟨_,h1⟩|⟨_,_,h1⟩
    · exact h.apM i b<|o b h1
    · exact h.apM i b<|n b h1
    · exact h.apM x b h1
  · by_cases e:x=j
    · subst e;rw[dn];exact Chunk.sub l.2.1 (fun b d _=>k b d)
    · rw[fA e];by_cases f:x=i
      · subst f;rw[dn];exact Chunk.sub l.1 (fun b d _=>k b d)
      · rw[fA f];exact Chunk.sub (h.ok x) (fun b d _=>k b d)
  · rcases g x b p with⟨e1,h1⟩|⟨e1,h1⟩|⟨e1,e1',h1⟩<;>rcases g y b r with⟨f,h2⟩|⟨f,h2⟩|⟨f,e2',h2⟩
    · exact m<|e1.trans f.symm
    · exact l.2.2 b h1 h2
    · exact h.apart i y (fun e=>f e.symm) b (o b h1) h2
    · exact l.2.2 b h2 h1
    · exact m<|e1.trans f.symm
    · exact h.apart i y (fun e=>f e.symm) b (n b h1) h2
    · exact h.apart x i e1 b h1<|o b h2
    · exact h.apart x i e1 b h1<|n b h2
    · exact h.apart x y m b h1 h2
  · rcases g x b d with⟨_,h1⟩|⟨_,h1⟩|⟨_,_,h1⟩
    · exact h.old i b<|o b h1
    · exact h.old i b<|n b h1
    · exact h.old x b h1
theorem SH.lendC(h:SH w0 M K w hp)(i:Nat)(d:(hp i).Rx):(hp i).holds w (fun b=>M b\/rest hp i b) (hp i).own'/\(∀b,(hp i).own' b->¬(M b\/rest hp i b))/\(∀b,(M b\/rest hp i b)->b<w.heap.size):=by
  refine⟨Chunk.re d (h.ok i) fun b a _=>?_,fun b a c=>?_,fun b a=>?_⟩
  · rcases a with(a|a)|a
    · exact .inl a
    · exact .inr<|lh a
    · exact .inr ⟨i,a⟩
  · rcases c with c|⟨j,hj,c⟩
    · exact h.apM i b a c
    · exact h.apart j i hj b c a
  · rcases a with a|⟨j,_,a⟩
    · exact Nat.lt_of_lt_of_le (h.ltM b a) h.keep.size
    · exact Chunk.lt (h.ok j) b a
theorem SH.givenC{C:Chunk}(h:SH w0 M K w hp)(i:Nat)(c:C.Rx)(d:C.holds w' (fun b=>M b\/rest hp i b) C.own')(e:bJ (hp i).own' w w')(hn:∀b,C.own' b->b<w.heap.size->(hp i).own' b):SH w0 M K w' (bX hp i C):=
  h.step i e (fun _ a _=>a) hn (Chunk.re c d (fun b a _=>by
    rcases a with a|a|a
    · exact .inl<|.inl a
    · exact .inl<|.inr a
    · exact .inr a))
theorem SH.yB{C:Chunk}(l:∀b,M b->b<w.heap.size)(n:C.holds w M C.own')(g:∀b,C.own' b->¬M b):SH w M C.own' w (bX hno 1 C):=by
  have a:∀b,iL (bX hno 1 C) b->C.own' b:=by
    rintro b⟨j,f⟩;by_cases e:j=1
    · subst e;rw[dn]at f;exact f
    · rw[fA e]at f;exact f.elim
  refine⟨bJ.refl _ _,l,fun i b c=>g b<|a b ⟨i,c⟩,fun i=>?_,fun i j k b c d=>?_,fun i b c _=>a b ⟨i,c⟩⟩
  · by_cases e:i=1
    · subst e;rw[dn];exact Chunk.sub n (fun b c _=>a b c)
    · rw[fA e];trivial
  · by_cases e:i=1
    · have m:j≠1:=fun h=>k<|e.trans h.symm;rw[fA m]at d;exact d.elim
    · rw[fA e]at c;exact c.elim
theorem SH.outC{C:Chunk}(h:SH w0 M K w hp)(i:Nat)(c:hp i=C)(d:C.Rx):C.holds w M C.own'/\bJ K w0 w/\(∀b,C.own' b->b<w0.heap.size->K b):=by
 subst c;exact⟨Chunk.re d (h.ok i) fun b a _=>a.imp id fun a=>⟨i,a⟩,h.keep,h.old i⟩
end
structure Val where
 kind:Int
 n:Int
deriving DecidableEq
def bF:kW Val where
 sz:=2
 rd w A cs x:=cs=[.int .i64 x.kind,.int .i64 x.n]
 len:=by rintro w A cs x rfl;rfl
 one:=by rintro w A cs x rfl u hu;simp only[List.mem_cons,List.not_mem_nil,or_false]at hu;rcases hu with rfl|rfl<;>first|rfl
 pos:=by decide
 go:=fun h _ _ _=>h
structure Tok where
 kind:Int
 n:Int
deriving DecidableEq
def qE:kW Tok where
 sz:=2
 rd w A cs x:=cs=[.int .i64 x.kind,.int .i64 x.n]
 len:=by rintro w A cs x rfl;rfl
 one:=by rintro w A cs x rfl u hu;simp only[List.mem_cons,List.not_mem_nil,or_false]at hu;rcases hu with rfl|rfl<;>first|rfl
 pos:=by decide
 go:=fun h _ _ _=>h
structure gM where
 from_:Int
 jy:Int
 co:Int
 aM:Int
 taken:Bool
 image:List Int
deriving DecidableEq
def eO:kW gM where
 sz:=6
 rd w A cs x:=∃pF,cs=[.int .i64 x.from_,.int .i64 x.jy,.int .i64 x.co,.int .i64 x.aM,.bool x.taken,pF]/\df bY w A pF x.image
 len:=by rintro w A cs x ⟨pF,rfl,h0⟩;rfl
 one:=by rintro w A cs x ⟨pF,rfl,h0⟩ u hu;simp only[List.mem_cons,List.not_mem_nil,or_false]at hu;rcases hu with rfl|rfl|rfl|rfl|rfl|rfl<;>first|rfl|exact h0.one
 pos:=by decide
 go:=by rintro w A cs x w2 A2 K ⟨pF,rfl,h0⟩ hk hK hA;exact⟨_,Z,h0.go hk hK hA⟩
theorem Ba{w:World}{A:BS}{cs:List Value}{x:gM}(h:eO.rd w A cs x):∃a,cs=[.int .i64 x.from_,.int .i64 x.jy,.int .i64 x.co,.int .i64 x.aM,.bool x.taken,a]/\df bY w A a x.image:=h
structure Co where
 lI:Int
 aM:Int
 image:List Int
 offered:Int
deriving DecidableEq
def Gh:kW Co where
 sz:=4
 rd w A cs x:=∃pF,cs=[.int .i64 x.lI,.int .i64 x.aM,pF,.int .i64 x.offered]/\df bY w A pF x.image
 len:=by rintro w A cs x ⟨pF,rfl,h0⟩;rfl
 one:=by rintro w A cs x ⟨pF,rfl,h0⟩ u hu;simp only[List.mem_cons,List.not_mem_nil,or_false]at hu;rcases hu with rfl|rfl|rfl|rfl<;>first|rfl|exact h0.one
 pos:=by decide
 go:=by rintro w A cs x w2 A2 K ⟨pF,rfl,h0⟩ hk hK hA;exact⟨_,Z,h0.go hk hK hA⟩
theorem lN{w:World}{A:BS}{cs:List Value}{x:Co}(h:Gh.rd w A cs x):∃a,cs=[.int .i64 x.lI,.int .i64 x.aM,a,.int .i64 x.offered]/\df bY w A a x.image:=h
structure Rec where
 kind:Int
 co:Int
 aM:Int
 place:Int
 says:List Int
 image:List Int
deriving DecidableEq
def We:kW Rec where
 sz:=6
 rd w A cs x:=∃VL,∃pF,cs=[.int .i64 x.kind,.int .i64 x.co,.int .i64 x.aM,.int .i64 x.place,VL,pF]/\df bY w A VL x.says/\df bY w A pF x.image
 len:=by rintro w A cs x ⟨VL,pF,rfl,h0,h1⟩;rfl
 one:=by rintro w A cs x ⟨VL,pF,rfl,h0,h1⟩ u hu;simp only[List.mem_cons,List.not_mem_nil,or_false]at hu;rcases hu with rfl|rfl|rfl|rfl|rfl|rfl<;>first|rfl|exact h0.one|exact h1.one
 pos:=by decide
 go:=by rintro w A cs x w2 A2 K ⟨VL,pF,rfl,h0,h1⟩ hk hK hA;exact⟨_,_,Z,h0.go hk hK hA,h1.go hk hK hA⟩
theorem Tz{w:World}{A:BS}{cs:List Value}{x:Rec}(h:We.rd w A cs x):∃b,∃a,cs=[.int .i64 x.kind,.int .i64 x.co,.int .i64 x.aM,.int .i64 x.place,b,a]/\df bY w A b x.says/\df bY w A a x.image:=h
theorem ed.mapR{α:Type}{R R':kW α}{w:World}{B A:BS}{v:Value}{l:List α}(d:R.sz=R'.sz)(h:∀cs x,x∈l->R.rd w A cs x->R'.rd w A cs x)(r:ed R w B A v l):ed R' w B A v l:=by
 obtain⟨a,cap,rfl,f,n,e,m⟩:=r;refine⟨a,cap,Z,f,n,e,fun i c=>?_⟩;obtain⟨b,o,cells,E,k,q,g,j,p⟩:=m i c;refine⟨b,o,cells,E,k,q,g,j,?_⟩;rw[<-d];exact h _ _ (List.getElem_mem c) p
structure di where
 kind:Int
 n:Int
 e:List Tok
 f:List Tok
 a:List di
 b:List di
def vD:Nat->{R:kW di // R.sz=6}
 |0=>⟨{sz:=6,rd:=fun _ _ _ _=>False,len:=fun h=>h.elim,one:=fun h=>h.elim,pos:=by decide,go:=fun h=>h.elim},rfl⟩
 |d+1=>⟨{
  sz:=6
  rd:=fun w A cs x=>∃c j i g,cs=[.int .i64 x.kind,.int .i64 x.n,c,j,i,g]/\df qE w A c x.e/\df qE w A j x.f/\df (vD d).1 w A i x.a/\df (vD d).1 w A g x.b
  len:=by rintro w A cs x ⟨c,j,i,g,rfl,_⟩;rfl
  one:=by rintro w A cs x ⟨c,j,i,g,rfl,p,r,o,q⟩ u s;simp only[List.mem_cons,List.not_mem_nil,or_false]at s;rcases s with rfl|rfl|rfl|rfl|rfl|rfl<;>first|rfl|exact p.one|exact r.one|exact o.one|exact q.one
  pos:=by decide
  go:=by rintro w A cs x t v K ⟨c,j,i,g,rfl,p,r,o,q⟩ m l k;exact⟨_,_,_,_,Z,p.go m l k,r.go m l k,o.go m l k,q.go m l k⟩},Z⟩
theorem M7:∀(d:Nat) {w:World} {A:BS} {cs:List Value} {x:di},(vD d).1.rd w A cs x->(vD (d+1)).1.rd w A cs x
 |0,_,_,_,_,h=>h.elim
 |d+1,_,_,_,_,h=>by
  obtain⟨a,i,b,j,rfl,e,g,c,f⟩:=h;exact⟨a,i,b,j,Z,e,g,c.mapR ((vD d).2.trans (vD<|d+1).2.symm) fun _ _ _ h=>M7 d h,f.mapR ((vD d).2.trans (vD<|d+1).2.symm) fun _ _ _ h=>M7 d h⟩
theorem aab{d a:Nat}(b:d<=a){w:World}{A:BS}{cs:List Value}{x:di}(h:(vD d).1.rd w A cs x):(vD a).1.rd w A cs x:=by
 induction b with
 |refl=>exact h
 |step _ ih=>exact M7 _ ih
def iQ:kW di where
 sz:=6
 rd w A cs x:=∃d,(vD d).1.rd w A cs x
 len:=by rintro w A cs x ⟨d,h⟩;exact((vD d).1.len h).trans (vD d).2
 one:=by rintro w A cs x ⟨d,h⟩;exact(vD d).1.one h
 pos:=by decide
 go:=by rintro w A cs x w2 A2 K ⟨d,h⟩ hk hK hA;exact⟨d,(vD d).1.go h hk hK hA⟩
theorem max_of{P:Nat->Nat->Prop}(b:∀d a i,d<=a->P d i->P a i):∀n,(∀i,i<n->∃d,P d i)->∃d,∀i,i<n->P d i
  |0,_=>⟨0,fun i c=>absurd c (Nat.not_lt_zero _)⟩
  |n+1,h=>by
    obtain⟨d,g⟩:=max_of b n fun i c=>h i V;obtain⟨a,f⟩:=h n V;refine⟨max d a,fun i c=>?_⟩;by_cases e:i=n
    · subst e;exact b _ _ _ (Nat.le_max_right _ _) f
    · exact b _ _ _ (Nat.le_max_left _ _)<|g i V
theorem WX{w:World}{A:BS}{v:Value}{l:List di}(h:df iQ w A v l):∃d,∀e,d<=e->df (vD e).1 w A v l:=by
 obtain⟨a,cap,rfl,s,t,q,r⟩:=h;have u:=max_of (P:=fun d i=>∀h:i<l.length,∃b o cells E c,a=some ⟨b,o,none⟩/\¬A b/\w.heap[b]? =some (.cells cells E c)/\(vD d).1.rd w A ((cells.toList.drop<|o+i*6).take 6) l[i])
  (fun d e i n hp h=>let ⟨b,o,cells,E,c,k,f,g,j⟩:=hp h;⟨b,o,cells,E,c,k,f,g,aab n j⟩) l.length
  (fun i m=>by obtain⟨b,o,cells,E,c,k,f,g,d,j⟩:=r i m;exact⟨d,fun _=>⟨b,o,cells,E,c,k,f,g,j⟩⟩)
 obtain⟨d,n⟩:=u;refine⟨d,fun e p=>⟨a,cap,Z,s,t,q,fun i m=>?_⟩⟩;obtain⟨b,o,cells,E,c,k,f,g,j⟩:=n i m m;exact⟨b,o,cells,E,c,k,f,g,by rw[(vD e).2];exact aab p j⟩
theorem Lr{w:World}{A:BS}{cs:List Value}{x:di}(h:iQ.rd w A cs x):∃c i g j,cs=[.int .i64 x.kind,.int .i64 x.n,c,i,g,j]/\df qE w A c x.e/\df qE w A i x.f/\df iQ w A g x.a/\df iQ w A j x.b:=by
 obtain⟨d,h⟩:=h;cases d with
 |zero=>exact h.elim
 |succ d=>
  obtain⟨c,i,g,j,rfl,l,o,k,m⟩:=h;exact⟨c,i,g,j,Z,l,o,k.mapR (vD d).2 fun _ _ _ h=>⟨d,h⟩,m.mapR (vD d).2 fun _ _ _ h=>⟨d,h⟩⟩
theorem rStmt_mk{w:World}{A:BS}{cs:List Value}{x:di}(h:∃c i g j,cs=[.int .i64 x.kind,.int .i64 x.n,c,i,g,j]/\df qE w A c x.e/\df qE w A i x.f/\df iQ w A g x.a/\df iQ w A j x.b):iQ.rd w A cs x:=by
 obtain⟨c,i,g,j,rfl,p,r,o,q⟩:=h;obtain⟨d,m⟩:=WX o;obtain⟨l,k⟩:=WX q;exact⟨max d l+1,c,i,g,j,Z,p,r,m _<|Nat.le_max_left _ _,k _<|Nat.le_max_right _ _⟩
structure iZ where
 params:Int
 locals:Int
 body:List di
def mr:kW iZ where
 sz:=3
 rd w A cs x:=∃VM,cs=[.int .i64 x.params,.int .i64 x.locals,VM]/\df iQ w A VM x.body
 len:=by rintro w A cs x ⟨VM,rfl,h0⟩;rfl
 one:=by rintro w A cs x ⟨VM,rfl,h0⟩ u hu;simp only[List.mem_cons,List.not_mem_nil,or_false]at hu;rcases hu with rfl|rfl|rfl<;>first|rfl|exact h0.one
 pos:=by decide
 go:=by rintro w A cs x w2 A2 K ⟨VM,rfl,h0⟩ hk hK hA;exact⟨_,Z,h0.go hk hK hA⟩
theorem Br{w:World}{A:BS}{cs:List Value}{x:iZ}(h:mr.rd w A cs x):∃a,cs=[.int .i64 x.params,.int .i64 x.locals,a]/\df iQ w A a x.body:=h
section
variable{α β σ ρ:Type}
theorem kD{l:List α}{i:Nat}:idx l (i:Int)=l[i]? :=by simp[idx]
theorem wI{l:List α}{i:Nat}(h:i<l.length):idx l (i:Int)=some l[i]:=by rw[kD,List.getElem?_eq_getElem h]
theorem j5{p:Prop} [Decidable p]{x:Option β}(h:p):iF p x=x:=if_pos h
theorem qF{b:Nat}{a:List α}(h:a.length*b<=140737488355328)(c:a.length<=9223372036854775807):clone b a=some a:=by
 unfold clone;exact j5<|Room.mk (by simpa using h) (by simpa using c)
theorem VN{l:List α}{a b:Nat}(h:a<=b)(c:b<=l.length):sub? l (a:Int) (b:Int)=some ((l.take b).drop a):=by
 unfold sub? cut;rw[if_pos ⟨by omega,by omega,by omega⟩];simp
theorem del_s{l:List α}{a b:Nat}(h:a<b)(c:b<=l.length):del1 l (a:Int) (b:Int)=some (l.take a++l.drop b):=by
 unfold del1;rw[if_pos ⟨by omega,by omega,by omega⟩];simp
theorem one_at{l:List α}{n:Nat}(h:n<l.length):(l.take (n+1)).drop n=[l[n]]:=by
 rw[List.drop_take,List.drop_eq_getElem_cons h,show n+1-n=1 by omega];rfl
def all2(p:α->β->Bool):List α->List β->Bool
 |[],[]=>true
 |x::xs,y::ys=>p x y&&all2 p xs ys
 |_,_=>false
theorem Cc [DecidableEq α]{p:α->α->Bool}(hp:∀x y,p x y=decide (x=y)):∀(a b:List α),all2 p a b=decide (a=b)
 |[],[]=>by simp[all2]
 |[],_::_=>by simp[all2]
 |_::_,[]=>by simp[all2]
 |x::xs,y::ys=>by simp[all2,hp,Cc hp xs ys]
theorem OB{body:Int->Unit->(Unit->Option Bool)->Option Bool}{c:Unit->Option Bool}(p:α->β->Bool)(a:List α)(b:List β)(k:a.length=b.length)(g:c ()=some true)
  (j:∀(i:Nat) x y nx,a[i]? =some x->b[i]? =some y->body (i:Int) () nx=bif p x y then nx ()else some false):upto body c 0 a.length ()=some (all2 p a b):=by
 have d:∀(m i:Nat),i+m=a.length->upto body c (i:Int) m ()=some (all2 p (a.drop i)<|b.drop i):=by
  intro m;induction m with
  |zero=>
   intro i h;rw[List.drop_eq_nil_of_le V,List.drop_eq_nil_of_le V];exact g
  |succ m ih=>
   intro i h;have e:i<a.length:=by omega
   have f:i<b.length:=by omega
   rw[List.drop_eq_getElem_cons e,List.drop_eq_getElem_cons f];show body (i:Int) () (upto body c ((i:Int)+1) m)=_;rw[j i a[i] b[i] _ (List.getElem?_eq_getElem e) (List.getElem?_eq_getElem f)];cases hp:p a[i] b[i]with
   |true=>simp only[cond_true,all2,hp,Bool.true_and];exact ih (i+1) V
   |false=>simp[all2,hp]
 simpa using d a.length 0 V
theorem Ls{body:Int->α->Unit->(Unit->Option Bool)->Option Bool}{c:Unit->Option Bool}(p:α->β->Bool)(a:List α)(b:List β)(j:a.length=b.length)(f:c ()=some true)
  (g:∀(i:Nat) x y nx,b[i]? =some y->body (i:Int) x () nx=bif p x y then nx ()else some false):fM body c 0 a ()=some (all2 p a b):=by
 have d:∀(l:List α) (i:Nat),i+l.length=b.length->fM body c (i:Int) l ()=some (all2 p l<|b.drop i):=by
  intro l;induction l with
  |nil=>
   intro i h;rw[List.drop_eq_nil_of_le (by simp at h;omega)];exact f
  |cons x l ih=>
   intro i h;simp only[List.length_cons]at h;have e:i<b.length:=by omega
   rw[List.drop_eq_getElem_cons e];show body (i:Int) x () (fM body c ((i:Int)+1) l)=_;rw[g i x b[i] _ (List.getElem?_eq_getElem e)];cases hp:p x b[i]with
   |true=>simp only[cond_true,all2,hp,Bool.true_and];exact ih (i+1) V
   |false=>simp[all2,hp]
 simpa using d a 0 V
theorem upto_eachI{body:Int->σ->(σ->ρ)->ρ}{g:Int->α->σ->(σ->ρ)->ρ}{k:σ->ρ}(l:List α)(c:∀(i:Nat) x s nx,l[i]? =some x->body (i:Int) s nx=g (i:Int) x s nx)(s:σ):upto body k 0 l.length s=fM g k 0 l s:=by
 have a:∀(m i:Nat),i+m=l.length->∀s,upto body k (i:Int) m s=fM g k (i:Int) (l.drop i) s:=by
  intro m;induction m with
  |zero=>intro i h s;rw[List.drop_eq_nil_of_le V];rfl
  |succ m ih=>
   intro i h s;have b:i<l.length:=by omega
   rw[List.drop_eq_getElem_cons b];show body (i:Int) s (upto body k ((i:Int)+1) m)=g (i:Int) l[i] s (fM g k ((i:Int)+1)<|l.drop<|i+1);rw[c i l[i] s _ (List.getElem?_eq_getElem b)];congr 1;funext s';exact ih (i+1) V s'
 simpa using a l.length 0 V s
theorem TA{body:Int->Unit->(Unit->ρ)->ρ}{b:Unit->ρ}(p:α->Bool)(a:Int->ρ)(l:List α)(e:∀(i:Nat) x nx,l[i]? =some x->body (i:Int) () nx=bif p x then a i else nx ()):
  upto body b 0 l.length ()=match l.findIdx? p with|some n=>a (n:Int)|none=>b ():=by
 have c:∀(m i:Nat),i+m=l.length->upto body b (i:Int) m ()=match (l.drop i).findIdx? p with|some n=>a ((i+n:Nat):Int)|none=>b ():=by
  intro m;induction m with
  |zero=>intro i h;rw[List.drop_eq_nil_of_le V];rfl
  |succ m ih=>
   intro i h;have d:i<l.length:=by omega
   rw[List.drop_eq_getElem_cons d,List.findIdx?_cons];show body (i:Int) () (upto body b ((i:Int)+1) m)=_;rw[e i l[i] _ (List.getElem?_eq_getElem d)];cases hp:p l[i]with
   |true=>rfl
   |false=>
    simp only[cond_false,Bool.false_eq_true,if_false];have:=ih (i+1) V;rw[show((i+1:Nat):Int)=(i:Int)+1 from rfl]at this;rw[this];cases (l.drop (i+1)).findIdx? p with
    |none=>rfl
    |some n=>simp only[Option.map_some];congr 1;omega
 have:=c l.length 0 V;simp only[List.drop_zero,Nat.zero_add]at this;exact this
theorem del_s1{l:List α}{a:Nat}(h:a<l.length):del1 l (a:Int) ((a:Int)+1)=some (l.take a++l.drop (a+1)):=by
 have:=del_s (l:=l) (a:=a) (b:=a+1) V V;exact this
theorem dT{p:Prop} [Decidable p](h:p):decide p=true:=decide_eq_true h
theorem dF{p:Prop} [Decidable p](h:¬p):decide p=false:=decide_eq_false h
theorem gI{x:Int}{y:Option β}(a: -9223372036854775808<=x:=by omega)(b:x<=9223372036854775807:=by omega):iF (ku x) y=y:=j5 (ku.mk a b)
end
open Go.RowKit
def fI:kW UInt8 where
 sz:=1
 rd _ _ cs x:=cs=[.int .u8 (x.toNat:Int)]
 len:=by rintro w A cs x rfl;rfl
 one:=by rintro w A cs x rfl u hu;simp at hu;subst hu;rfl
 pos:=by decide
 go:=fun h _ _ _=>h
def IsErr(v:Value)(b:Bool):Prop:=(b=false/\v=.nilIface)\/(b=true/\∃t p,v=.iface t p)
structure IfaceT(P:Program)(T:TypeId):Prop where
 desc:P.underlying T=some (.interface (P.methodsAt T))
def Kb{α:Type}(a:Nat)(k:Int):Option (List α):=iF (0<=k/\k*a<=140737488355328) (some [])
section
variable{P:Program}{ops:Array Oper}{Q:Exit->Act->World->Prop}{n:Nat}{env:Nat->Value}{w w' w0:World}{M K:BS}{hp:Nat->Chunk}{rest:List Oper}
 {d:Option Nat} {op:Op} {ty:TypeId} {pos:String} {af:Array Edge} {v:Value} {g:Option (Nat×Bool)} {T:TypeId} {ρ:Operand->Value} {x y:Operand}
theorem TB{a b:Str}{T2:TypeId}(c:ρ x=bC a)(e:ρ y=bC b):(execOp ρ ⟨d,.binOp .eql T x y T2,ty,pos,af,g⟩).run P w=.ok (.value (.bool (decide (a=b)))) w:=by
 simp[execOp,binOp,c,e,bC,Op.stringOp,eqGuard];rw[Bool.eq_iff_iff];simp
theorem P7{a b:Str}{T2:TypeId}(c:ρ x=bC a)(e:ρ y=bC b):(execOp ρ ⟨d,.binOp .neq T x y T2,ty,pos,af,g⟩).run P w=.ok (.value (.bool (decide (a≠b)))) w:=by
 simp[execOp,binOp,c,e,bC,Op.stringOp,eqGuard];rw[Bool.eq_iff_iff];simp
theorem tJ{a b:Str}{T2:TypeId}(e:ρ x=bC a)(f:ρ y=bC b)(h:a.length+b.length<=9223372036854775807):(execOp ρ ⟨d,.binOp .add T x y T2,ty,pos,af,g⟩).run P w=.ok (.value (bC (a++b))) w:=by
 have c:=run_string_add_sum (P:=P) (w:=w) ⟨a.toArray⟩ ⟨b.toArray⟩ (by simpa[ByteArray.size]using h);have i:(⟨a.toArray⟩++⟨b.toArray⟩:ByteArray)=⟨(a++b).toArray⟩:=by
  apply ByteArray.ext;simp
 rw[i]at c;simp[execOp,binOp,e,f,bC,eqGuard,c]
theorem r_neqnilI{b:Bool}{T2:TypeId}(e:IfaceT P T)(a:ρ x=v)(f:IsErr v b)(c:ρ (.const .nilIface)=.nilIface):(execOp ρ ⟨d,.binOp .neq T x (.const .nilIface) T2,ty,pos,af,g⟩).run P w=.ok (.value (.bool b)) w:=by
  rcases f with⟨rfl,rfl⟩|⟨rfl,t,p,rfl⟩
  · simp[execOp,binOp,a,c,eqGuard,run_equal_nil_nil w T e.desc]
  · simp[execOp,binOp,a,c,eqGuard,run_equal_held_nil w T t p e.desc]
theorem r_eqlnilI{b:Bool}{T2:TypeId}(e:IfaceT P T)(a:ρ x=v)(f:IsErr v b)(c:ρ (.const .nilIface)=.nilIface):(execOp ρ ⟨d,.binOp .eql T x (.const .nilIface) T2,ty,pos,af,g⟩).run P w=.ok (.value (.bool !b)) w:=by
  rcases f with⟨rfl,rfl⟩|⟨rfl,t,p,rfl⟩
  · simp[execOp,binOp,a,c,eqGuard,run_equal_nil_nil w T e.desc]
  · simp[execOp,binOp,a,c,eqGuard,run_equal_held_nil w T t p e.desc]
theorem w_makeSl{α:Type}{R:kW α}{E:TypeId}{c:Nat}{k:Int}{z:Value}{a:α}(h:SH w0 M K w hp)(i:Nat)(s:ko P T E 1 c)(B:One P E z)(r:R.sz=1)(l:0<c)(N:ev n env x=.int .i64 k)(X:ev n env y=.int .i64 k)
    (hk:0<=k/\k*c<=140737488355328) (O:∀w A,R.rd w A [z] a)
    (kk:∀w' u,SH w0 M K w' (bX hp i (.own R E u (List.replicate k.toNat a)))->WL P ops Q rest n (gy env d u) w'):
    WL P ops Q (⟨d,.makeSlice T x y,ty,pos,af,none⟩::rest) n env w:=by
  obtain⟨S,J⟩:=hk;obtain⟨m,rfl⟩:=Int.eq_ofNat_of_zero_le S;obtain⟨j,z',C,a1,p,o,L⟩:=s.info;have e:=B.info;rw[C]at e;simp only[Option.map_some,Option.some.injEq,Prod.mk.injEq]at e;have G:m<=m*c:=Nat.le_mul_of_pos_right _ l;have a0:m*c<=140737488355328:=by
    have:((m*c:Nat):Int)<=140737488355328:=by rw[Int.natCast_mul];exact J
    omega
  obtain⟨w',hr,ho,hg⟩:=run_make_full (P:=P) w 0 T E j z 1 s.desc C e.1 p .i64 .i64 m (by rw[o,Nat.mul_comm];omega) (by unfold maxLen;omega) (Nat.zero_le _);have g:Grow w w':=(AO (v:=.slice none 0 0) hg).weaken fun _ h _=>h.elim;have f:(execOp (ev n env) ⟨d,.makeSlice T x y,ty,pos,af,none⟩).run P w=.ok (.value<|.slice (some ⟨w.heap.size,0,none⟩) m m) w':=by
    simp only[execOp,Sem.run_bind,Sem.run_pure,Result.andThen_ok,N,X,hr]
  refine F f<|kk w' _<|h.tH i g ⟨(madeCells z.cells<|m*1).toList,?_,?_⟩ ?_
  · rw[r,List.length_replicate];exact ho
  · intro q t;simp only[List.length_replicate]at t;have I:q<m:=t;rw[r,B.cell,toList_madeCells_one];have:(List.drop (q*1)<|List.replicate (m*1) z).take 1=[z]:=by
      rw[List.drop_replicate,List.take_replicate,show min 1 (m*1-q*1)=1 by omega];rfl
    rw[this];simp only[List.getElem_replicate];exact O _ _
  · intro b l;have:b=w.heap.size:=l;omega
theorem run_appS{E u:TypeId}{A:BS}{l s:Str}(o:ko P T E 1 1)(R:One P E (.int .u8 0))(B:P.underlying u=some .string)(O:ρ x=v)(hv:bZ fI E w A v l)(S:ρ y=bC s)
    (r:(l.length+s.length)*1<=140737488355328) (hm:l.length+s.length<=9223372036854775807):
    ∃h w',(execOp ρ ⟨d,.call {callee:=.builtin .append,args:= #[x,y],argTypes:= #[T,u]},ty,pos,af,g⟩).run P w=.ok (.value h) w'/\bZ fI E w' A h (l++s)/\bJ (ob v) w w'/\(∀b,ob h b->b<w.heap.size->ob v b):=by
  obtain⟨xs,ho,hr⟩:=hv;obtain⟨i,z',t,a0,m,k,N⟩:=o.info;have c:=R.info;rw[t]at c;simp only[Option.map_some,Option.some.injEq,Prod.mk.injEq]at c;have e:(ByteArray.mk s.toArray).size=s.length:=by simp[ByteArray.size]
  obtain⟨h,w',f,h2,M,X⟩:=Lib.run_append_own_string (P:=P) w 0 T u ty E i o.desc B t c.1 m k v l.length xs ho ⟨s.toArray⟩ (by rw[e];unfold maxLen;omega) (by rw[e];omega) (Nat.zero_le _);have hk:=AO M;have p:xs.length=l.length:=by simpa[fI]using ho.1
  have n:(execOp ρ ⟨d,.call {callee:=.builtin .append,args:= #[x,y],argTypes:= #[T,u]},ty,pos,af,g⟩).run P w=.ok (.value h) w':=by
    simp only[execOp,resolve,invoke,builtin,Sem.run_bind,Sem.run_pure,Result.andThen_ok,List.map_toArray,List.map_cons,List.map_nil,O,S];rw[show(Builtin.append_ #[T,u] ty #[v,bC s]).run P w=_ from f];rfl
  have G:Lib.strCells ⟨s.toArray⟩=s.map fun b=>Value.int .u8 (b.toNat:Int):=by simp[Lib.strCells]
  refine⟨h,w',n,⟨xs++Lib.strCells ⟨s.toArray⟩,?_,?_⟩,hk,?_⟩
  · rw[List.length_append,<-e];exact h2
  · intro q Q;show List.take 1 (List.drop (q*1) _)=_;rw[Nat.mul_one,G];by_cases z:q<l.length
    · have:=hr q z;have L:List.take 1 (List.drop (q*1) xs)=[.int .u8 (l[q].toNat:Int)]:=this;rw[Nat.mul_one]at L;rw[List.drop_append_of_le_length V,List.take_append_of_le_length (by rw[List.length_drop];omega),L,List.getElem_append_left z]
    · rw[List.length_append]at Q;rw[List.getElem_append_right V,List.drop_append,List.drop_eq_nil_of_le V,List.nil_append,p,List.drop_eq_getElem_cons (by simp;omega)];simp
  · intro b r hl;rcases ho.2 with⟨rfl,hn⟩|⟨gg,cap,cur,rfl,_,hgg,hc,hcm,hcs',htake⟩
    · by_cases I:s.length=0
      · have J:s=[]:=List.eq_nil_of_length_eq_zero I;subst J;have:h=.slice none 0 0:=X.2 ⟨Z,e⟩;subst this;exact r
      · have a:=run_append_nil_string (P:=P) w T u ty E i (.int .u8 0) o.desc B t c.1 ⟨s.toArray⟩ V V (by rw[k];omega);rw[a]at f;cases f;simp[ob]at r;omega
    · by_cases C:l.length+s.length<=cap
      · have K:cur.size=cap:=by simpa[fI]using hcs'
        have a:=Lib.run_append_room_string (P:=P) w T u ty E i o.desc B t m gg l.length cap cur hgg ⟨s.toArray⟩ V V;rw[a]at f;cases f;exact r
      · have holds:∀j u,xs[j]? =some u->w.cell? ((⟨gg,0,none⟩:Addr).add j)=some u:=ho.cells (g:=gg) Z;have a:=Lib.run_append_grow_string (P:=P) w T u ty E i (.int .u8 0) o.desc B t c.1 ⟨gg,0,none⟩ l.length cap xs (by rw[m];simpa using p) holds ⟨s.toArray⟩ V V (by rw[k];exact growslice_fits V V);rw[a]at f;cases f;simp[ob]at r;omega
theorem r_b2s{E e:TypeId}{B A:BS}{l:Str}(i:P.underlying T=some (.slice E))(m:P.underlying E=some (.int .u8))(h:P.underlying e=some .string)(u:ρ x=v)(z:ed fI w B A v l):
    (execOp ρ ⟨d,.convert T e x,ty,pos,af,g⟩).run P w=.ok (.value (bC l)) w:=by
  obtain⟨a,cap,rfl,J,O,I,p⟩:=z;have n:(convert T e<|.slice a l.length cap).run P w=.ok (bC l) w:=by
    cases l with
    |nil=>
      cases a with
      |none=>
        rw[run_convert_bytes_string w T e E none _ _ i m h];simp[Conv.bytesToString,bC];rfl
      |some a=>
        exact run_convert_bytes_back w T e E a cap [] i m h fun j k=>absurd k<|Nat.not_lt_zero _
    |cons c r=>
      obtain⟨b,o,cells,L,M,rfl,_,_,_⟩:=p 0 zq3;refine run_convert_bytes_back w T e E ⟨b,o,none⟩ cap (c::r) i m h fun j k=>?_;obtain⟨b',K,f,N,C,y,_,s,t⟩:=p j k;cases y;have q:List.take 1 (List.drop (o+j*1) f.toList)=[.int .u8 ((c::r)[j].toNat:Int)]:=t;rw[Nat.mul_one]at q;have G:f.toList[o+j]? =some (.int .u8 ((c::r)[j].toNat:Int)):=by
        have:=congrArg (·[0]?) q;simpa[List.getElem?_take,List.getElem?_drop]using this
      rw[addr_add];simpa[World.cell?,s]using G
  simp only[execOp,Sem.run_bind,Sem.run_pure,u,n,Result.andThen_ok]
theorem str_ex(s:Str)(a b:Nat):(ByteArray.mk s.toArray).extract a b=⟨((s.take b).drop a).toArray⟩:=by
 apply ByteArray.ext;simp[ByteArray.data_extract,List.drop_take]
theorem vE(s:Str):(ByteArray.mk s.toArray).size=s.length:=by simp[ByteArray.size]
def subs?(s:Str)(a b:Int):Option Str:=iF (0<=a/\a<=b/\b<=s.length) (some (cut s a b))
theorem r_sls{s:Str}{m l:Option Operand}{a b:Int}(f:P.underlying T=some .string)(p:ρ x=bC s)(j:PI (m.map ρ) a 0)(h:PI (l.map ρ) b s.length)(n:0<=a)(i:a<=b)(t:b<=s.length):
    (execOp ρ ⟨d,.slice T x m l none,ty,pos,af,g⟩).run P w=.ok (.value (bC (cut s a b))) w:=by
  obtain⟨a,rfl⟩:=Int.eq_ofNat_of_zero_le n;obtain⟨b,rfl⟩:=Int.eq_ofNat_of_zero_le<|Int.le_trans n i;have o:a<=b:=by omega
  have r:b<=s.length:=by omega
  have q:cut s (a:Int) (b:Int)=(s.take b).drop a:=by simp[cut]
  have k:(Instr.slice T (bC s) (m.map ρ) (l.map ρ) none).run P w=.ok (bC ((s.take b).drop a)) w:=by
    unfold bC;rcases j with⟨e1,e2⟩|e1<;>rcases h with⟨e3,e4⟩|e3
    · have c:a=0:=by omega
      have e:b=s.length:=by omega
      subst c e;rw[e1,e3,run_slice_string_all w T _ f,str_ex,vE]
    · have c:a=0:=by omega
      subst c;rw[e1,e3,run_slice_string_to_if w T _ _ _ f,if_pos ⟨by omega,by rw[vE];omega⟩,str_ex];simp
    · have e:b=s.length:=by omega
      subst e;rw[e1,e3,run_slice_string_from_if w T _ _ _ f,if_pos ⟨by omega,by rw[vE];omega⟩,str_ex,vE];simp
    · rw[e1,e3,run_slice_string w T _ _ _ _ _ f V V (by rw[vE];omega),str_ex];simp
  rw[q];simp only[execOp,Sem.run_bind,Sem.run_pure,p,Option.map_none,run_sliceAt_string w T _ _ _ _ f,k,Result.andThen_ok]
theorem r_slsE{s r:Str}{i h:Option Operand}{a b:Int}(k:r=cut s a b)(n:P.underlying T=some .string)(j:ρ x=bC s)(f:PI (i.map ρ) a 0)(c:PI (h.map ρ) b s.length)(l:0<=a)(e:a<=b)(m:b<=s.length):
  (execOp ρ ⟨d,.slice T x i h none,ty,pos,af,g⟩).run P w=.ok (.value (bC r)) w:=by
 subst k;exact r_sls n j f c l e m
theorem o_subs{s r:Str}{a b:Int}(h:subs? s a b=some r):0<=a/\a<=b/\b<=s.length/\r=cut s a b:=by
 obtain⟨c,d⟩:=bB h;exact⟨c.1,c.2.1,c.2.2,(Option.some.inj d).symm⟩
theorem P8{α:Type}{R:kW α}{E c:TypeId}{m a:Nat}{A:BS}{k:Nat}(l:ko P T E m a)(p:R.sz=m)(o:P.underlying c=some (.int .i64))(s:ev n env x=.slice none 0 0)(v:ev n env y=.int .i64 (k:Nat))(C:0<k)(u:0<a)
    (r:k*a<=140737488355328)
    (h:∀w' gg cap,Grow w w'->w.heap.size<=gg->gg<w'.heap.size->k<=cap->bZ R E w' A (.slice (some ⟨gg,0,none⟩) 0 cap) ([]:List α)->WL P ops Q rest n (gy env d (.slice (some ⟨gg,0,none⟩) k cap)) w'):
    WL P ops Q (⟨d,.call {callee:=.builtin .append,args:= #[x,y],argTypes:= #[T,c]},ty,pos,af,none⟩::rest) n env w:=by
  obtain⟨i,z,G,t,I,g,f⟩:=l.info;have j:=R.pos;have q:k<=k*a:=Nat.le_mul_of_pos_right _ u;have B:=Lib.run_append_nil_zeros (P:=P) w T c ty E i z .i64 .i64 l.desc o G t k C V V (by rw[g];omega);have b:(execOp (ev n env) ⟨d,.call {callee:=.builtin .append,args:= #[x,y],argTypes:= #[T,c]},ty,pos,af,none⟩).run P w=.ok (.value<|.slice (some ⟨w.heap.size,0,none⟩) k<|grownCap w k 0 E) (w.drew.alloc<|.cells (Builtin.zeroCells z.cells k++Builtin.zeroCells z.cells (grownCap w k 0 E-k)) E):=by
    simp only[execOp,resolve,invoke,builtin,Sem.run_bind,Sem.run_pure,Result.andThen_ok,List.map_toArray,List.map_cons,List.map_nil,s,v,B]
  have hge:=grownCap_ge w k 0 E;have e:grownCap w k 0 E<=maxLen:=grownCap_le_maxLen w k 0 E (by unfold maxLen;omega);refine F b<|h _ _ _ ((Grow.drew w).trans<|Grow.alloc _ _) (Nat.le_refl _) ?_ hge ⟨[],⟨by simp,.inr ⟨w.heap.size,_,_,Z,Nat.zero_le _,heap_alloc_new w.drew _,Nat.zero_le _,e,?_,by simp⟩⟩,fun i h=>absurd h<|Nat.not_lt_zero _⟩
  · show w.heap.size<(w.drew.alloc _).heap.size;rw[alloc_size];exact Nat.lt_succ_self _
  · rw[Array.size_append,size_zeroCells,size_zeroCells,f,p,<-Nat.add_mul];congr 1;omega
end
open Go.RowKit
structure rf(P:Program)(g:Nat)(w:World):Prop where
 pow:Lib.TabIs P w "internal/strconv.uint64pow10" .u64 Lib.pow10Tab
 syn:∃t p,w.var? P "strconv.ErrSyntax" =some #[.iface t p]
 ran:∃t p,w.var? P "strconv.ErrRange" =some #[.iface t p]
 max:∃m,w.cell? ⟨g,0,none⟩=some (.int .i64 m)
 many:P.globals.size<=w.heap.size
 gmax:g<P.globals.size
 asc:∀q,P.globalNamed "strings.asciiSpace" =some q->Lib.TabIs P w "strings.asciiSpace" .u8 Lib.asciiSpaceTab
theorem WY{P:Program}{s:String}{i:Nat}(h:P.globalNamed s=some i):i<P.globals.size:=by
  unfold Program.globalNamed at h;split at h
  · rename_i g a;cases h;have:i∈(List.range P.globals.size).filter fun g=>(P.globals[g]?).any (·.name==s):=by rw[a];simp
    exact List.mem_range.1 (List.mem_filter.1 this).1
  · cases h
theorem bJ.var{P:Program}{K:BS}{w w':World}{s:String}{cs:Array Value}(c:bJ K w w')(a:∀b,K b->P.globals.size<=b)(h:w.var? P s=some cs):w'.var? P s=some cs:=by
 unfold World.var? at h⊢;cases hg:P.globalNamed s with
 |none=>simp[hg]at h
 |some g=>
  have e:=WY hg;simp only[hg,Option.bind_some]at h⊢;cases hb:w.heap[g]? with
  |none=>simp[hb]at h
  |some o=>rw[c.blk hb (fun d=>absurd (a _ d) V)];rw[hb]at h;exact h
theorem rf.Ry{P:Program}{g:Nat}{K:BS}{w w':World}(h:rf P g w)(a:bJ K w w')(c:∀b,K b->P.globals.size<=b):rf P g w':=by
 obtain⟨j,⟨p,n,k⟩,⟨r,l,i⟩,⟨m,d⟩,t,f,s⟩:=h;refine⟨a.var c j,⟨p,n,a.var c k⟩,⟨r,l,a.var c i⟩,⟨m,?_⟩,Nat.le_trans t a.size,f,fun q e=>a.var c<|s q e⟩;unfold World.cell? at d⊢;cases hb:w.heap[g]? with
 |none=>simp[hb]at d
 |some o=>rw[a.blk hb (fun e=>absurd (c _ e) V)];rw[hb]at d;exact d
theorem rf.go{P:Program}{g:Nat}{w w':World}(h:rf P g w)(a:Grow w w'):rf P g w':=h.Ry a (fun _ h=>h.elim)
theorem SH.Bb{P:Program}{g:Nat}{w0 w:World}{M K:BS}{hp:Nat->Chunk}{C:Chunk}(h:SH w0 M K w hp)(e:rf P g w0)(a:∀b,K b->P.globals.size<=b)(i:Nat)(c:hp i=C):∀b,C.own' b->P.globals.size<=b:=by
  subst c;intro b d;rcases Nat.lt_or_ge b w0.heap.size with hl|hl
  · exact a b<|h.old i b d hl
  · exact Nat.le_trans e.many hl
theorem Grow.drewN(w:World)(k:Nat):Grow w (w.drewN k):=⟨rfl,rfl,rfl,Nat.le_refl _,fun _ _ _=>rfl⟩
theorem Grow.Kb{w:World}{os:Array Obj}:Grow w (Sort.grow w os):=⟨rfl,rfl,rfl,by simp[Sort.grow],fun b _ a=>by simp[Sort.grow,Array.getElem?_append_left a]⟩
def M8(n:Int):Option Str:=iF (ku n) (some (Lib.itoa n))
def Jc(s:Str):Option (Int×Bool):=iF (s.length<=281474976710656) (some (match Lib.atoiAll s with| .ok v=>(v,false)| .range=>(Lib.atoiSat s,true)|_=>(0,true)))
def parseS(s:Str):Option (Int×Bool):=iF (s.length<=281474976710656) (some (match Lib.parseIntB 64 s with| .ok v=>(v,false)| .range=>(Lib.intSat 64 s,true)|_=>(0,true)))
def WZ(l:List Str)(a:Str):Option Str:=iF (l.length<=140737488355328/\(Lib.join l a).length<=140737488355328) (some (Lib.join l a))
def P9(s a:Str):Option (List Str):=iF (s.length<4294967281/\1<=a.length) (some (Lib.split s a))
def cutS(s a:Str):Option (Str×Str×Bool):=iF (s.length<4294967281) (some (Lib.cut s a))
section
variable{P:Program}{g:Nat}{w0:World}{f:FuncId}{M:BS}
theorem itoa_w(c:∀n,-9223372036854775808<=n->n<=9223372036854775807->∀w,Lib.TabIs P w "internal/strconv.uint64pow10" .u64 Lib.pow10Tab->Calls P f #[.int .i64 n] w fun e w'=>e=.returned (.string ⟨(Lib.itoa n).toArray⟩)/\∃k os,w'=Sort.grow (w.drewN k) os)
  (d:rf P g w0) {a:Int} {r:Str} (b:M8 a=some r):Calls P f #[.int .i64 a] w0 (fun e w'=>Grow w0 w'/\e=.returned (bC r)):=by
 obtain⟨h,b⟩:=bB b;cases b;refine(c a h.1 h.2 w0 d.pow).mono ?_;rintro e w'⟨rfl,k,os,rfl⟩;exact⟨(Grow.drewN w0 k).trans Grow.Kb,Z⟩
theorem bw_grow(w:World)(t:TypeId)(s:ByteArray):Grow w (Lib.bytesWorld w t s):=⟨rfl,rfl,rfl,by rw[Lib.bytesWorld_size];omega,fun b _ a=>Lib.bytesWorld_at_old w t _ b a⟩
theorem atoi_w{q a b:TypeId}{nm:ByteArray}(n:∀s:ByteArray,s.size<=9223372036854775806->∀v,Lib.atoiAll s.data.toList=.ok v->∀w,Calls P f #[.string s] w fun e w'=>e=.returned (.tuple #[.int .i64 v,.nilIface])/\(w'=w\/∃t,w'=Lib.bytesWorld w q t))
    (o:∀s:ByteArray,s.size<=281474976710656->∀e,Lib.atoiAll s.data.toList=e->(∀v,e≠ .ok v)->e≠ .range->∀d p w,w.var? P "strconv.ErrSyntax" =some #[.iface d p]->Calls P f #[.string s] w fun e w'=>∃N,e=.returned (.tuple #[.int .i64 0,.iface a (.pointer (some ⟨N,0,none⟩))])/\w.heap.size<=N/\w'.heap[N]? =some (.cells #[.string nm,.string s,.iface d p] b (0,0))/\Below w.heap.size w w')
    (m:∀s:ByteArray,s.size<=281474976710656->Lib.atoiAll s.data.toList=.range->∀d p w,w.var? P "strconv.ErrRange" =some #[.iface d p]->Calls P f #[.string s] w fun e w'=>∃N,e=.returned (.tuple #[.int .i64 (Lib.atoiSat s.data.toList),.iface a (.pointer (some ⟨N,0,none⟩))])/\w.heap.size<=N/\w'.heap[N]? =some (.cells #[.string nm,.string s,.iface d p] b (0,0))/\Below w.heap.size w w')
    (k:rf P g w0) {s:Str} {r:Int×Bool} (c:Jc s=some r):Calls P f #[bC s] w0 (fun e w'=>Grow w0 w'/\∃u,e=.returned (.tuple #[.int .i64 r.1,u])/\IsErr u r.2):=by
  obtain⟨h,c⟩:=bB c;have x:=vE s;cases hq:Lib.atoiAll s with
  |ok v=>
    rw[hq]at c;cases c;refine(n ⟨s.toArray⟩ V v (by simpa using hq) w0).mono ?_;rintro e w'⟨rfl,l⟩;refine⟨?_,_,Z,.inl ⟨Z,Z⟩⟩;rcases l with rfl|⟨t,rfl⟩
    · exact bJ.refl _ _
    · exact bw_grow _ _ _
  |range=>
    rw[hq]at c;cases c;obtain⟨t,p,j⟩:=k.ran;refine(m ⟨s.toArray⟩ V (by simpa using hq) t p w0 j).mono ?_;rintro e w'⟨N,rfl,_,_,i⟩;refine⟨Grow.of_below i,.iface a<|.pointer<|some ⟨N,0,none⟩,by simp,.inr ⟨Z,_,_,Z⟩⟩
  |_=>
    rw[hq]at c;cases c;obtain⟨t,p,j⟩:=k.syn;refine(o ⟨s.toArray⟩ V _ (by simpa using hq) (fun v=>by simp) zq3 t p w0 j).mono ?_;rintro e w'⟨N,rfl,_,_,i⟩;exact⟨Grow.of_below i,_,Z,.inr ⟨Z,_,_,Z⟩⟩
theorem rdStr_at{A B:BS}{a:Option Addr}{n c:Nat}{l:List Str}(r:ed um w0 B A (.slice a n c) l)(m:0<l.length):∃g o,a=some ⟨g,o,none⟩/\g<w0.heap.size/\∀j x,l[j]? =some x->w0.cell? ⟨g,o+j,none⟩=some (bC x):=by
  obtain⟨a',cap,f,y,C,w,i⟩:=r;cases f;obtain⟨b,o,cells,E,I,rfl,_,v,_⟩:=i 0 m;refine⟨b,o,Z,iK v,fun j x s=>?_⟩;obtain⟨h,e⟩:=List.getElem?_eq_some_iff.1 s;obtain⟨b',z,d,G,t,f,_,p,q⟩:=i j h;cases f;have k:List.take 1 (List.drop (o+j*1) d.toList)=[bC l[j]]:=q;rw[Nat.mul_one]at k;have u:d.toList[o+j]? =some (bC l[j]):=by
    have:=congrArg (·[0]?) k;simpa[List.getElem?_take,List.getElem?_drop]using this
  rw[<-e];simpa[World.cell?,p]using u
theorem join_w(z:∀(a:Option Addr) (c:Nat) (b:ByteArray) (w:World),Calls P f #[.slice a 0 c,.string b] w fun e w'=>e=.returned (.string ⟨#[]⟩)/\w'=w)
    (t:∀(d o c:Nat) (xs:List ByteArray) (b:ByteArray) (w:World),(∀(j:Nat) x,xs[j]? =some x->w.cell? ⟨d,o+j,none⟩=some (.string x))->d<w.heap.size->xs.length<=140737488355328->xs.length<=c->(Lib.join (xs.map (·.data.toList)) b.data.toList).length<=140737488355328->
      Calls P f #[.slice (some ⟨d,o,none⟩) xs.length c,.string b] w fun e w'=>e=.returned (.string ⟨(Lib.join (xs.map (·.data.toList)) b.data.toList).toArray⟩)/\Below w.heap.size w w')
    {v:Value} {A B:BS} {l:List Str} {b r:Str} (n:ed um w0 B A v l) (i:WZ l b=some r):Calls P f #[v,bC b] w0 (fun e w'=>Grow w0 w'/\e=.returned (bC r)):=by
  obtain⟨h,i⟩:=bB i;cases i;have k:=n;obtain⟨a,cap,rfl,k1,k2,C,E⟩:=n;cases l with
  |nil=>
    refine(z a cap _ w0).mono ?_;rintro e w'⟨rfl,rfl⟩;exact⟨bJ.refl _ _,Z⟩
  |cons x l=>
    obtain⟨d,o,rfl,q,u⟩:=rdStr_at k zq3;have m:((x::l).map fun s=>(⟨s.toArray⟩:ByteArray)).map (·.data.toList)=x::l:=by simp[Function.comp_def]
    have:=t d o cap ((x::l).map fun s=>⟨s.toArray⟩) ⟨b.toArray⟩ w0 (fun j y g=>by
      rw[List.getElem?_map]at g;cases hq:(x::l)[j]? with
      |none=>rw[hq]at g;cases g
      |some s=>rw[hq]at g;cases g;exact u j s hq) q (by simpa using h.1) (by simpa using k1) (by rw[m];simpa using h.2)
    rw[m,List.length_map]at this;refine this.mono ?_;rintro e w'⟨rfl,p⟩;exact⟨Grow.of_below p,by simp[bC]⟩
theorem strs_rd{E:TypeId}{l:List ByteArray}{A:BS}{cells:Array Value}{cap:Nat}(w:World)(g:∀b,A b->b<w.heap.size)(d:l.length<=cap)(i:cap<=maxLen)(a:∀j (h:j<l.length),cells[j]? =some (.string l[j])):df um (w.alloc (.cells cells E)) A (.slice (some ⟨w.heap.size,0,none⟩) l.length cap) (l.map (·.data.toList)):=by
  refine⟨some ⟨w.heap.size,0,none⟩,cap,by simp,by simpa using d,i,(fun h=>by cases h),fun j k=>⟨w.heap.size,0,cells,E,(0,0),Z,?_,Ow w _,?_⟩⟩
  · intro m;exact Nat.lt_irrefl _ (g _ m)
  · have e:j<l.length:=by simpa using k
    show List.take 1 (List.drop (0+j*1) cells.toList)=_;have f:=a j e;have c:j<cells.toList.length:=by
      rw[Array.length_toList];rcases Nat.lt_or_ge j cells.size with q|q
      · exact q
      · rw[Array.getElem?_eq_none q]at f;cases f
    rw[Nat.zero_add,Nat.mul_one,List.drop_eq_getElem_cons c];have:cells.toList[j]=.string l[j]:=by
      have:=f;rw[<-Array.getElem?_toList,List.getElem?_eq_getElem c]at this;exact Option.some.inj this
    rw[this];simp[bC]
theorem split_w{E:TypeId}(v:∀(s a:ByteArray) (m:Int) (w:World),s.size<4294967281->w.cell? ⟨g,0,none⟩=some (.int .i64 m)->1<=a.size->
  Calls P f #[.string s,.string a] w fun e w'=>e=.returned (.slice (some ⟨w.heap.size,0,none⟩) (Lib.countB s a+1) (Lib.countB s a+1))/\w'=w.alloc (.cells ((Lib.splitB a 0 (Lib.countB s a) s).map Value.string).toArray E))
  (p:∀b,M b->b<w0.heap.size) (n:rf P g w0) {s a:Str} {r:List Str} (c:P9 s a=some r):Calls P f #[bC s,bC a] w0 (fun e w'=>Grow w0 w'/\∃u,e=.returned u/\df um w' M u r):=by
 obtain⟨h,c⟩:=bB c;cases c;obtain⟨m,i⟩:=n.max;refine(v ⟨s.toArray⟩ ⟨a.toArray⟩ m w0 (by rw[vE];exact h.1) i (by rw[vE];exact h.2)).mono ?_;rintro e w'⟨rfl,rfl⟩;refine⟨Grow.alloc _ _,_,Z,?_⟩;have d:=Lib.splitB_all ⟨a.toArray⟩ (by rw[vE];exact h.2) 0 _ ⟨s.toArray⟩ Z;have t:=Lib.splitB_data ⟨a.toArray⟩ 0 (Lib.countB ⟨s.toArray⟩ ⟨a.toArray⟩) ⟨s.toArray⟩;have k:Lib.countB ⟨s.toArray⟩ ⟨a.toArray⟩=Lib.count s a:=by simp[Lib.countB]
 have q:=Lib.countB_le ⟨a.toArray⟩ (by rw[vE];exact h.2) _ ⟨s.toArray⟩ (Nat.le_refl _);rw[vE]at q;have:=strs_rd (E:=E) (l:=Lib.splitB ⟨a.toArray⟩ 0 (Lib.countB ⟨s.toArray⟩ ⟨a.toArray⟩) ⟨s.toArray⟩) (cap:=Lib.countB ⟨s.toArray⟩ ⟨a.toArray⟩+1) (cells:=((Lib.splitB ⟨a.toArray⟩ 0 (Lib.countB ⟨s.toArray⟩ ⟨a.toArray⟩) ⟨s.toArray⟩).map Value.string).toArray) w0 p (by rw[d];exact Nat.le_refl _) (by unfold maxLen;omega) (fun j o=>by simp[o]);rw[d,t]at this;simpa[Lib.split,k]using this
theorem cut_w(c:∀(s a:ByteArray) (m:Int) (w:World),s.size<4294967281->w.cell? ⟨g,0,none⟩=some (.int .i64 m)->Calls P f #[.string s,.string a] w fun e w'=>e=.returned (.tuple #[.string ⟨(Lib.cut s.data.toList a.data.toList).1.toArray⟩,.string ⟨(Lib.cut s.data.toList a.data.toList).2.1.toArray⟩,.bool (Lib.cut s.data.toList a.data.toList).2.2])/\∃n,w'=w.drewN n)
  (i:rf P g w0) {s a:Str} {r:Str×Str×Bool} (b:cutS s a=some r):Calls P f #[bC s,bC a] w0 (fun e w'=>Grow w0 w'/\e=.returned (.tuple #[bC r.1,bC r.2.1,.bool r.2.2])):=by
 obtain⟨h,b⟩:=bB b;cases b;obtain⟨m,d⟩:=i.max;refine(c ⟨s.toArray⟩ ⟨a.toArray⟩ m w0 (by rw[vE];exact h) d).mono ?_;rintro e w'⟨rfl,n,rfl⟩;exact⟨Grow.drewN _ _,by simp[bC]⟩
end
open Go.RowKit
section
variable{P:Program}{ops:Array Oper}{Q:Exit->Act->World->Prop}{n:Nat}{env:Nat->Value}{w w' w0:World}{M K:BS}{hp:Nat->Chunk}{rest:List Oper}
 {d:Option Nat} {op:Op} {ty:TypeId} {pos:String} {af:Array Edge} {v:Value} {g:Option (Nat×Bool)} {T:TypeId} {ρ:Operand->Value} {x y:Operand} {i fuel:Nat} {listed:Array Bool}
theorem SH.l8{c:Chunk}(h:SH w0 M K w hp)(i:Nat)(d:hp i=c)(e:bJ c.own' w w'):SH w0 M K w' (bX hp i .no):=
 h.step i e (fun b a _=>by rw[d];exact a) (fun b a=>a.elim) U
theorem SH.He{c e:Chunk}(h:SH w0 M K w hp)(i j:Nat)(a:i≠j)(f:hp i=c)(g:hp j=e)(d:bJ (fun b=>c.own' b\/e.own' b) w w'):SH w0 M K w' (bX (bX (bX hp j .no) i (.two (hp i) (hp j))) i .no):=by
 refine(h.pair i j a).l8 i (c:=.two (hp i)<|hp j) (dn _ _ _) ?_;rw[f,g];exact d
theorem jM{zs:List Value}(h:SH w0 M K w hp)(i:Nat)(a:wF P T zs)(k:∀w' b,SH w0 M K w' (bX hp i (.blk b zs))->Grow w w'->w.heap.size<=b->WL P ops Q rest n (gy env d (.pointer (some ⟨b,0,none⟩))) w'):WL P ops Q (⟨d,.alloc T,ty,pos,af,none⟩::rest) n env w:=
 F (r_allocN a) (k _ _ (h.newB i zs T) (Grow.alloc _ _) (Nat.le_refl _))
theorem fq{z:Value}{b o:Nat}{cs:List Value}(h:SH w0 M K w hp)(i:Nat)(a:List Value)(e:hp i=.blk b cs)(f:One P T z)(j:ev n env x=.pointer (some ⟨b,o,none⟩))(m:ev n env y=v)(ho:cs.set o v=a)(c:Nat.blt o cs.length=true)(q:v.oneCell'=true)
  (k:∀w',SH w0 M K w' (bX hp i (.blk b a))->bJ (fun x=>x=b) w w'->WL P ops Q rest n (gy env d undef) w'):
  WL P ops Q (⟨d,.store T x y,ty,pos,af,none⟩::rest) n env w:=by
 obtain⟨E,l⟩:=h.zV i e;have:=h.putB i e a E;subst ho;have p:=Rp (d:=d) (ty:=ty) (pos:=pos) (af:=af) (g:=none) f j l (by rw[Nat.blt_eq]at c;simpa using c) m q;refine AL p<|k _ ?_<|bJ.wz _ _ _;simpa using this
theorem ky{zs vs:List Value}{b o:Nat}{cs:List Value}(h:SH w0 M K w hp)(i:Nat)(a:List Value)(e:hp i=.blk b cs)(g:wF P T zs)(j:ev n env x=.pointer (some ⟨b,o,none⟩))(m:ev n env y=.agg vs.toArray)(f:vs.length=zs.length)(ho:Lh cs o vs=a)(l:Nat.ble (o+vs.length) cs.length=true)(p:∀v∈vs,v.oneCell'=true)
  (k:∀w',SH w0 M K w' (bX hp i (.blk b a))->bJ (fun x=>x=b) w w'->WL P ops Q rest n (gy env d undef) w'):
  WL P ops Q (⟨d,.store T x y,ty,pos,af,none⟩::rest) n env w:=by
 obtain⟨E,c⟩:=h.zV i e;subst ho;exact AL (Rq g j c m f (Nat.le_of_ble_eq_true l) p)<|k _ (h.putB i e _ E)<|bJ.wz _ _ _
theorem mX{α:Type}{R:kW α}{E:TypeId}{p c:Nat}{u:Value}{l m:List α}(h:SH w0 M K w hp)(i:Nat)(f:hp i=.own R E v l)(I:ed R w BE (SH.A M hp) u m)(C:ko P T E p c)(r:R.sz=p)(G:ev n env x=v)(q:ev n env y=u)
    (a:(l.length+m.length)*c<=140737488355328) (t:l.length+m.length<=9223372036854775807)
    (k:∀w' e,SH w0 M K w' (bX hp i (.own R E e (l++m)))->bJ (ob v) w w'->(∀b,ob e b->b<w.heap.size->ob v b)->WL P ops Q rest n (gy env d e) w'):
    WL P ops Q (⟨d,.call {callee:=.builtin .append,args:= #[x,y],argTypes:= #[T,T]},ty,pos,af,none⟩::rest) n env w:=by
  obtain⟨e,w',z,B,j,o⟩:=run_app (d:=d) (ty:=ty) (pos:=pos) (af:=af) (g:=none) C r G (h.bG i f) q I (fun b a=>.inr ⟨i,by rw[f];exact a⟩) a t;refine F z (k w' e (h.step i j (fun b a _=>by rw[f];exact a) (fun b a s=>by rw[f];exact o b a s) ?_) j o);refine bZ.go B (bJ.refl BE w') (fun _ h=>h.elim) (fun _ h=>h.elim) fun b a _=>?_;rcases a with a|a|a
  · exact .inl<|.inl a
  · exact .inl<|.inr<|lh a
  · exact .inr a
theorem Ww{E u:TypeId}{l s:Str}(h:SH w0 M K w hp)(i:Nat)(f:hp i=.own fI E v l)(o:ko P T E 1 1)(q:One P E (.int .u8 0))(t:P.underlying u=some .string)(p:ev n env x=v)(z:ev n env y=bC s)
  (r:(l.length+s.length)*1<=140737488355328) (j:l.length+s.length<=9223372036854775807)
  (k:∀w' a,SH w0 M K w' (bX hp i (.own fI E a (l++s)))->bJ (ob v) w w'->(∀b,ob a b->b<w.heap.size->ob v b)->WL P ops Q rest n (gy env d a) w'):
  WL P ops Q (⟨d,.call {callee:=.builtin .append,args:= #[x,y],argTypes:= #[T,u]},ty,pos,af,none⟩::rest) n env w:=by
 obtain⟨a,w',m,A,c,e⟩:=run_appS (d:=d) (ty:=ty) (pos:=pos) (af:=af) (g:=none) o q t p (h.giveO i f) z r j;exact F m<|k w' a (h.given i f A c e) c e
theorem gp{f:Func}{R:Ending->World->Prop}{u a:Tmp}{T:TypeId}{v2:Value}{zs vs:List Value}{b:Nat}(m:f.results= #[.cell a T,.tmp u])(k:ev n env (.tmp a)=.pointer (some ⟨b,0,none⟩))(o:ev n env (.tmp u)=v2)
  (l:SH w0 M K w hp) (i:Nat) (p:hp i=.blk b vs) (j:wF P T zs) (g:vs.length=zs.length) (h:R (.returned (.tuple #[.agg vs.toArray,v2])) w):bodyPost P f R .ret (act n env) w:=by
 refine⟨Z,_,?_,h⟩;have c:=congrFun (gN n env)<|.tmp u;have d:=congrFun (gN n env)<|.tmp a;rw[o]at c;rw[k]at d;simp only[Act.eval]at c d;rw[Array.getD_eq_getD_getElem?]at c d;have e:=Cb (P:=P) l p j g Z;unfold results;rw[m];simp[c,d,asAddr,e]
theorem Rz{g:Func}{R:Ending->World->Prop}{t u a:Tmp}{T:TypeId}{v2 v3:Value}{zs vs:List Value}{b:Nat}(l:g.results= #[.cell a T,.tmp t,.tmp u])(p:ev n env (.tmp a)=.pointer (some ⟨b,0,none⟩))(k:ev n env (.tmp t)=v2)(m:ev n env (.tmp u)=v3)
  (q:SH w0 M K w hp) (i:Nat) (r:hp i=.blk b vs) (o:wF P T zs) (j:vs.length=zs.length) (h:R (.returned (.tuple #[.agg vs.toArray,v2,v3])) w):bodyPost P g R .ret (act n env) w:=by
 refine⟨Z,_,?_,h⟩;have e:=congrFun (gN n env)<|.tmp t;have c:=congrFun (gN n env)<|.tmp u;have d:=congrFun (gN n env)<|.tmp a;rw[k]at e;rw[m]at c;rw[p]at d;simp only[Act.eval]at e c d;rw[Array.getD_eq_getD_getElem?]at e c d;have f:=Cb (P:=P) q r o j Z;unfold results;rw[l];simp[e,c,d,asAddr,f]
theorem fin3{e:Func}{R:Ending->World->Prop}{t u a:Tmp}{v1 v2 v3:Value}(i:e.results= #[.tmp t,.tmp u,.tmp a])(g:ev n env (.tmp t)=v1)(j:ev n env (.tmp u)=v2)(f:ev n env (.tmp a)=v3)(h:R (.returned (.tuple #[v1,v2,v3])) w):bodyPost P e R .ret (act n env) w:=by
 refine⟨Z,_,?_,h⟩;have b:=congrFun (gN n env)<|.tmp t;have c:=congrFun (gN n env)<|.tmp u;have d:=congrFun (gN n env)<|.tmp a;rw[g]at b;rw[j]at c;rw[f]at d;simp only[Act.eval]at b c d;rw[Array.getD_eq_getD_getElem?]at b c d;unfold results;rw[i];simp[b,c,d]
theorem At.grow{b o:Nat}{cs:List Value}(h:At w b o cs)(d:Grow w w'):At w' b o cs:=by
 obtain⟨cells,E,e,a,c⟩:=h;exact⟨cells,E,e,d.blk a,c⟩
theorem xE{ws w:World}{v u:Value}(e:ws.heap.size<=w.heap.size)(d:∀b,ob v b->ws.heap.size<=b)(hn:∀b,ob u b->b<w.heap.size->ob v b):∀b,ob u b->ws.heap.size<=b:=
 fun b c=>Nat.le_of_not_lt fun a=>Nat.not_lt_of_le (d b (hn b c (Nat.lt_of_lt_of_le a e))) a
def EffOk(P:Program)(ops:Array Oper)(Q1:Nat->Exit->Act->World->Prop)(n:Nat)(env:Nat->Value)(w:World)(i:Nat):Prop:=
 ∃d op ty pos af g,ops[i]? =some ⟨d,op,ty,pos,af,g⟩/\Region.wanted ⟨d,op,ty,pos,af,g⟩ (yielded ops (act n env).tmps)=true/\WL P ops (Q1 i) [⟨d,op,ty,pos,af,none⟩] n env w
theorem TC{Q1:Nat->Exit->Act->World->Prop}(i:Nat)(a:ops[i]? =some ⟨d,op,ty,pos,af,g⟩)(b:Region.wanted ⟨d,op,ty,pos,af,g⟩ (yielded ops (act n env).tmps)=true)(h:WL P ops (Q1 i) [⟨d,op,ty,pos,af,none⟩] n env w):EffOk P ops Q1 n env w i:=⟨_,_,_,_,_,_,a,b,h⟩
def EffAll(P:Program)(ops:Array Oper)(Q1:Nat->Exit->Act->World->Prop)(n:Nat)(env:Nat->Value)(w:World):List Nat->Prop
 |[]=>True
 |i::r=>EffOk P ops Q1 n env w i/\EffAll P ops Q1 n env w r
theorem W9{Q1:Nat->Exit->Act->World->Prop}:∀{l:List Nat},EffAll P ops Q1 n env w l->∀k∈l,EffOk P ops Q1 n env w k
  |i::r,⟨h1,h2⟩,k,hk=>by
    rcases List.mem_cons.1 hk with rfl|hk
    · exact h1
    · exact W9 h2 k hk
theorem whk_effs{L:BS}{ws:World}(l:List Nat)(c:Region.ready .any ops listed=l)(a:l≠[])
  (h:EffAll P ops (fun i=>Ty P ops L ws Q fuel (listed.setIfInBounds i true)) n env w l):Wv P ops L ws Q (fuel+1) listed n env w:=by
 refine⟨wpAnyH_all c a fun k j=>?_⟩;obtain⟨d,op,ty,pos,af,g,e,f,b⟩:=W9 h k j;exact Hd e f b
end
open Go.RowKit Go.ChangeShapes
theorem opens_byte{P:Program}{T:TypeId}(f:P.underlying T=some (.int .u8)):xg P T fI:=by
 intro a enc w b d fuel cs x h;obtain⟨n,rfl,_,c⟩:=DataW.trod_int f h;simp only[Lit.wf,Bool.and_eq_true,decide_eq_true_eq]at c;have g:0<=n:=c.1;have i:n<=255:=c.2;refine⟨UInt8.ofNat n.toNat,?_⟩;show [Value.int .u8 n]=[.int .u8 ((UInt8.ofNat n.toNat).toNat:Int)];have:(UInt8.ofNat n.toNat).toNat=n.toNat:=by
  have e:n.toNat%256=n.toNat:=Nat.mod_eq_of_lt V;simpa[UInt8.toNat_ofNat']using e
 rw[this,Int.toNat_of_nonneg g]
theorem returns_laid{b:Type}{enc:TypeId×Value->b}{a:Assume}{C:Checked}{os:Os}{f:FuncId}{o:Func}{s:ChangeSpec}{l:List PathCond}{d fresh k again:Bool}{X:World->Array Value->Prop}
  (L:∀(w w':World) (args:Array Value),w.heap=w'.heap->X w args->X w' args)
  (own:ownKnob C.prog.godebug=none) (p:os.Started) (q:C.prog.inits.idxOf? f=none) (G:C.prog.funcs[f]? =some o)
  (n:∃(w:World) (g:Tape) (i:Input),w.os=os/\(w.forCall g i).Shaped C.prog/\i.vars=[]/\Input.okWide C.prog (w.forCall g i) .any w.heap.size f i/\
   ((s.pre enc C.prog o l d (w.forCall g i).memory i.args/\X (w.forCall g i).memory i.args)/\sizedMet enc C.prog o (OpenSpec.ofChange s) d (w.forCall g i).memory i.args)/\a.holds C.prog (lone (Frame.enter C.prog f i.args .normal) [] (w.forCall g i)))
  (m:∀(c:World) (y:Nat) (args:Array Value) (A z:List (DataW b)) (h:List MemPlace),
   (∀(j:Nat) t v,o.params[j]? =some t->args[j]? =some v->Value.okWide C.prog c .any y t v)->
   DataW.Whole enc C.prog o.params.toList s.vars d c args.toList A z h->
   l.all (PathCond.test C.prog ⟨o.params.toList,A,s.plain.varTypes C.prog,z⟩)=true->X c args->c.ShapedOpen C.prog->
   Calls C.prog f args c fun e K=>∃v,e=.returned v/\s.post enc C.prog o d fresh k again c args v K):
  ReturnsInHanded a C os f .any (fun w args=>(s.pre enc C.prog o l d w args/\X w args)/\sizedMet enc C.prog o (OpenSpec.ofChange s) d w args) (s.post enc C.prog o d fresh k again):=by
 refine returnsInHanded_of_calls own p q n ?_;intro w g i _ B _ E u _;obtain⟨_,_,_,J,x,_,_,_,_,r⟩:=E;have e:J=o:=Option.some.inj<|x.symm.trans G;subst e;obtain⟨⟨⟨A,z,h,N,M⟩,O⟩,_⟩:=u;have I:=DataW.Whole.of_heap (w':=w.forCall g i) (by rfl) N;refine(m (w.forCall g i) w.heap.size i.args A z h r I M (L _ _ _ (by rfl) O) B).mono fun e K⟨v,P,hp⟩=>?_;subst P;exact ChangeSpec.post_blind hp
def laidIn(w:World)(g:Nat)(a:Array Value):World:=
 {w with heap:=w.heap.modify g fun| .cells _ t fz=>.cells a t fz|o=>o}
def tabCells:DataW Unit->Array Value
 | .agg l=>(l.map fun| .lit (.int k z)=>Value.int k z|_=>Value.nilIface).toArray
 |_=> #[]
structure gZ where
 safe:List UInt8
 wait:List UInt8
deriving DecidableEq
def rDisk:kW gZ where
 sz:=2
 rd w A cs x:=∃ER,∃ES,cs=[ER,ES]/\df fI w A ER x.safe/\df fI w A ES x.wait
 len:=by rintro w A cs x ⟨ER,ES,rfl,h0,h1⟩;rfl
 one:=by rintro w A cs x ⟨ER,ES,rfl,h0,h1⟩ u hu;simp only[List.mem_cons,List.not_mem_nil,or_false]at hu;rcases hu with rfl|rfl<;>first|rfl|exact h0.one|exact h1.one
 pos:=by decide
 go:=by rintro w A cs x w2 A2 K ⟨ER,ES,rfl,h0,h1⟩ hk hK hA;exact⟨_,_,Z,h0.go hk hK hA,h1.go hk hK hA⟩
theorem rDisk_open{w:World}{A:BS}{cs:List Value}{x:gZ}(h:rDisk.rd w A cs x):∃b,∃a,cs=[b,a]/\df fI w A b x.safe/\df fI w A a x.wait:=h
theorem puint_app(a:Nat)(c:UInt8):∀(l:Str),Lib.parseUint10 a (l++[c])=match Lib.parseUint10 a l with| .ok m=>Lib.parseUint10 m [c]|e=>e:=by
  intro l;induction l generalizing a with
  |nil=>simp[Lib.parseUint10]
  |cons b r ih=>
    simp only[List.cons_append,Lib.parseUint10];split
    · split
      · rfl
      · split
        · rfl
        · rw[ih];rfl
    · rfl
theorem OC{k:Nat}(h:k<10):(UInt8.ofNat (48+k)).toNat=48+k:=by
 have:(48+k)%256=48+k:=Nat.mod_eq_of_lt V;simpa[UInt8.toNat_ofNat']using this
theorem puint_dec:∀(u:Nat),u<18446744073709551616->Lib.parseUint10 0 (Lib.decDigits u)=.ok u:=by
  intro u;induction u using Nat.strongRecOn with
  |ind u ih=>
    intro b;rw[Lib.decDigits];split
    · rename_i h;simp only[Lib.parseUint10];rw[OC h,if_pos V,if_neg V,if_neg V];congr 1;omega
    · rename_i h;have a:u%10<10:=Nat.mod_lt _ zq1;rw[puint_app,ih (u / 10) V V];simp only[Lib.parseUint10];rw[OC a,if_pos V,if_neg V,if_neg V];congr 1;omega
theorem dec_head:∀(u:Nat),∃c r,Lib.decDigits u=c::r/\48<=c.toNat/\c.toNat<=57:=by
  intro u;induction u using Nat.strongRecOn with
  |ind u ih=>
    rw[Lib.decDigits];split
    · rename_i h;exact⟨_,[],Z,by rw[OC h];omega,by rw[OC h];omega⟩
    · rename_i h;obtain⟨c,r,b,d,a⟩:=ih (u / 10) V;exact⟨c,r++[UInt8.ofNat (48+u%10)],by rw[b];rfl,d,a⟩
theorem aac:∀(u:Nat),∀c∈Lib.decDigits u,48<=c.toNat/\c.toNat<=57:=by
  intro u;induction u using Nat.strongRecOn with
  |ind u ih=>
    rw[Lib.decDigits];split
    · rename_i h;intro c a;simp only[List.mem_singleton]at a;subst a;rw[OC h];omega
    · rename_i h;have b:u%10<10:=Nat.mod_lt _ zq1;intro c a;rcases List.mem_append.1 a with a|a
      · exact ih (u / 10) V c a
      · simp only[List.mem_singleton]at a;subst a;rw[OC b];omega
theorem itoa_chars(n:Int):∀c∈Lib.itoa n,45<=c.toNat/\c.toNat<=57:=by
  intro c a;unfold Lib.itoa at a;split at a
  · rcases List.mem_cons.1 a with rfl|a
    · decide
    · have:=aac _ c a;omega
  · have:=aac _ c a;omega
theorem aad{n:Int}{c:UInt8}(h:c.toNat<45):c∉Lib.itoa n:=fun a=>by have:=itoa_chars n c a;omega
theorem mag_dec{u:Nat}(h:u<18446744073709551616):Lib.parseMag (Lib.decDigits u)=.ok u:=by
 obtain⟨c,r,a,_,_⟩:=dec_head u;unfold Lib.parseMag;rw[if_neg (by rw[a];simp),puint_dec u h]
theorem atoi_itoa{n:Int}(h:ku n):Lib.atoiAll (Lib.itoa n)=.ok n:=by
  obtain⟨b,f⟩:=h;unfold Lib.itoa;split
  · rename_i hn;unfold Lib.atoiAll;simp only;rw[if_pos (.inr zq1),mag_dec V];simp only;rw[if_neg zq3,if_neg V];simp;omega
  · rename_i hn;obtain⟨c,r,e,a,d⟩:=dec_head n.toNat;rw[e];unfold Lib.atoiAll;simp only;rw[if_neg V,<-e,mag_dec V];simp only;rw[if_neg V,if_neg V,if_neg V];congr 1;omega
def numOf(w:Str):Option Int:=match Lib.atoiAll w with| .ok v=>if Lib.itoa v=w then some v else none|_=>none
theorem numOf_itoa{n:Int}(h:ku n):numOf (Lib.itoa n)=some n:=by simp[numOf,atoi_itoa h]
theorem numOf_some{w:Str}{n:Int}(h:numOf w=some n):w=Lib.itoa n/\ku n:=by
  unfold numOf at h;cases e:Lib.atoiAll w with
  |ok v=>
    rw[e]at h;simp only at h;split at h
    · rename_i a;cases h;have:=Lib.atoiAll_bounds e;exact⟨a.symm,this⟩
    · cases h
  |_=>rw[e]at h;cases h
theorem itoa_len{n:Int}(h:ku n):(Lib.itoa n).length<=21:=Lib.itoa_length_le n h.1 h.2
def jF(c:UInt8):Str->List Str
 |[]=>[[]]
 |b::r=>if b=c then []::jF c r else match jF c r with|x::xs=>(b::x)::xs|[]=>[[b]]
theorem GN(c:UInt8):∀(s:Str),jF c s≠[]
  |[]=>by simp[jF]
  |b::r=>by
    unfold jF;split
    · simp
    · split<;>simp
theorem Jd{c:UInt8}:∀{x:Str},c∉x->jF c x=[x]
 |[],_=>rfl
 |b::r,h=>by
  have a:¬b=c:=fun e=>h (by rw[e];exact List.mem_cons_self);rw[jF,if_neg a,Jd (x:=r) (fun e=>h (List.mem_cons_of_mem _ e))]
theorem Bc{c:UInt8}{r:Str}:∀{x:Str},c∉x->jF c (x++c::r)=x::jF c r
 |[],_=>by simp[jF]
 |b::x,h=>by
  have a:¬b=c:=fun e=>h (by rw[e];exact List.mem_cons_self);rw[List.cons_append,jF,if_neg a,Bc (x:=x) (fun e=>h (List.mem_cons_of_mem _ e))]
theorem idx1(c:UInt8):∀(s:Str),(Lib.index s [c]= -1/\c∉s)\/∃x r,s=x++c::r/\c∉x/\Lib.index s [c]=x.length
  |[]=>by left;exact⟨by simp[Lib.index],by simp⟩
  |b::l=>by
    by_cases h:b=c
    · subst h;right;exact⟨[],l,Z,by simp,by simp[Lib.index,List.isPrefixOf]⟩
    · have a:¬c=b:=fun e=>h e.symm;have hp:List.isPrefixOf [c] (b::l)=false:=by simp[List.isPrefixOf,a]
      rcases idx1 c l with⟨h1,h2⟩|⟨x,r,h1,h2,h3⟩
      · left;refine⟨by rw[Lib.index,hp,h1];simp,?_⟩;simp[h2,a]
      · right;refine⟨b::x,r,by rw[h1];rfl,by simp[h2,a],?_⟩;have:¬(Lib.index l [c]== -1)=true:=by rw[h3];simp
        rw[Lib.index,hp,if_neg zq3,if_neg this,h3];simp
theorem splitK_C(c:UInt8):∀(k:Nat) (s:Str),Lib.count s [c]=k->Lib.splitK [c] 0 k s=jF c s:=by
  intro k;induction k with
  |zero=>
    intro s a;rcases idx1 c s with⟨h1,h2⟩|⟨x,r,h1,h2,h3⟩
    · rw[Jd h2];rfl
    · rw[Lib.count_hit zq3 h3]at a;omega
  |succ k ih=>
    intro s a;rcases idx1 c s with⟨h1,h2⟩|⟨x,r,h1,h2,h3⟩
    · rw[Lib.count_miss h1]at a;omega
    · have d:¬(Lib.index s [c]== -1)=true:=by rw[h3];simp
      rw[Lib.count_hit zq3 h3]at a;have b:s.drop (x.length+[c].length)=r:=by rw[h1];simp
      rw[Lib.splitK,if_neg d,h3];simp only[Int.toNat_natCast,Nat.add_zero];rw[b]at a⊢;rw[ih r V,h1,Bc h2,List.take_left]
theorem split_C(c:UInt8)(s:Str):Lib.split s [c]=jF c s:=splitK_C c _ s Z
def vG(c:UInt8)(l:List Str):Str:=Lib.join l [c]
theorem Bt(c:UInt8)(x:Str):vG c [x]=x:=Lib.join_one x [c]
theorem yC(c:UInt8)(x y:Str)(l:List Str):vG c (x::y::l)=x++c::vG c (y::l):=by
 unfold vG;rw[Lib.join_cons,Lib.join_cons];simp[Lib.joinTail]
theorem Bu(c:UInt8):∀(s:Str),vG c (jF c s)=s
  |[]=>Bt c []
  |b::r=>by
    have a:=Bu c r;unfold jF;split
    · rename_i h;subst h;cases e:jF b r with
      |nil=>exact absurd e (GN b r)
      |cons y l=>rw[yC,<-e,a];rfl
    · split
      · rename_i x xs e;rw[e]at a;cases xs with
        |nil=>rw[Bt]at a⊢;rw[a]
        |cons y l=>rw[yC]at a⊢;rw[List.cons_append,a]
      · rename_i e;exact absurd e<|GN c r
theorem VO(c:UInt8):∀(l:List Str),l≠[]->(∀x∈l,c∉x)->jF c (vG c l)=l
 |[],h,_=>absurd Z h
 |[x],_,h=>by rw[Bt];exact Jd (h x zq3)
 |x::y::l,_,h=>by
  rw[yC,Bc (h x zq3),VO c (y::l) zq3 (fun z a=>h z (List.mem_cons_of_mem _ a))]
theorem Lt(c:UInt8):∀(s:Str),(jF c s).length<=s.length+1
  |[]=>by simp[jF]
  |b::r=>by
    have a:=Lt c r;unfold jF;split
    · simp;omega
    · split
      · rename_i x xs e;rw[e]at a;simp at a⊢;omega
      · simp
theorem DY(c:UInt8):∀(s x:Str),x∈jF c s->x.length<=s.length/\c∉x
  |[],x,h=>by simp[jF]at h;subst h;simp
  |b::r,x,h=>by
    unfold jF at h;split at h
    · rcases List.mem_cons.1 h with rfl|h
      · simp
      · have:=DY c r x h;exact⟨by simp;omega,this.2⟩
    · rename_i d;split at h
      · rename_i y f e;rcases List.mem_cons.1 h with rfl|h
        · have:=DY c r y (by rw[e];exact List.mem_cons_self);refine⟨by simp;exact this.1,?_⟩;intro a;rcases List.mem_cons.1 a with a|a
          · exact d a.symm
          · exact this.2 a
        · have:=DY c r x (by rw[e];exact List.mem_cons_of_mem _ h);exact⟨by simp;omega,this.2⟩
      · rename_i e;exact absurd e<|GN c r
theorem TD(c:UInt8)(m:Nat):∀(l:List Str),(∀x∈l,x.length<=m)->(vG c l).length<=l.length*(m+1)
 |[],_=>by simp[vG,Lib.join_nil]
 |[x],h=>by rw[Bt];have:=h x zq3;simp;omega
 |x::y::l,h=>by
  have b:=h x zq3;have d:=TD c m (y::l) fun z a=>h z<|List.mem_cons_of_mem _ a;rw[yC,List.length_append,List.length_cons,List.length_cons,Nat.succ_mul];omega
def VP(c:UInt8)(s:Str):Option (List Int):=(jF c s).mapM numOf
theorem mapM_num_of{l:List Int}(h:∀x∈l,ku x):(l.map Lib.itoa).mapM numOf=some l:=by
 induction l with
 |nil=>rfl
 |cons x l ih=>
  rw[List.map_cons,List.mapM_cons,numOf_itoa (h x zq3),ih (fun y a=>h y (List.mem_cons_of_mem _ a))];rfl
theorem JD:∀{w:List Str} {l:List Int},w.mapM numOf=some l->w=l.map Lib.itoa/\∀x∈l,ku x
  |[],l,h=>by cases h;exact⟨Z,by simp⟩
  |x::w,l,h=>by
    rw[List.mapM_cons]at h;cases e:numOf x with
    |none=>rw[e]at h;cases h
    |some v=>
      rw[e]at h;cases e2:w.mapM numOf with
      |none=>rw[e2]at h;cases h
      |some m=>
        rw[e2]at h;cases h;obtain⟨c,f⟩:=JD e2;obtain⟨b,d⟩:=numOf_some e;refine⟨by rw[List.map_cons,<-c,<-b],?_⟩;intro y a;rcases List.mem_cons.1 a with rfl|a
        · exact d
        · exact f y a
theorem nums_join{c:UInt8}(b:c.toNat<45){l:List Int}(d:l≠[])(h:∀x∈l,ku x):VP c (vG c (l.map Lib.itoa))=some l:=by
 unfold VP;rw[VO c _ (by simpa using d) (by intro x a;obtain⟨y,_,rfl⟩:=List.mem_map.1 a;exact aad b)];exact mapM_num_of h
theorem join_nums{c:UInt8}{s:Str}{l:List Int}(h:VP c s=some l):s=vG c (l.map Lib.itoa)/\(∀x∈l,ku x)/\l≠[]:=by
 obtain⟨a,b⟩:=JD h;refine⟨by rw[<-a,Bu],b,?_⟩;rintro rfl;exact GN c s a
theorem Xa{n:Int}(h:ku n):M8 n=some (Lib.itoa n):=by unfold M8;rw[j5 h]
theorem atoiS_eq{w:Str}(h:w.length<=281474976710656):Jc w=some (match Lib.atoiAll w with| .ok v=>(v,false)| .range=>(Lib.atoiSat w,true)|_=>(0,true)):=by unfold Jc;rw[j5 h];all_goals (cases Lib.atoiAll w<;>rfl)
theorem parseS_eq{w:Str}(h:w.length<=281474976710656):parseS w=some (match Lib.atoiAll w with| .ok v=>(v,false)| .range=>(Lib.intSat 64 w,true)|_=>(0,true)):=by unfold parseS;rw[j5 h,Lib.parseIntB_64];all_goals (cases Lib.atoiAll w<;>rfl)
theorem splitS_eq{s:Str}(c:UInt8)(h:s.length<4294967281):P9 s [c]=some (jF c s):=by unfold P9;rw[j5 ⟨h,Nat.le_refl _⟩,split_C]
theorem joinS_eq{l:List Str}(c:UInt8)(h:l.length<=140737488355328)(a:(vG c l).length<=140737488355328):WZ l [c]=some (vG c l):=by unfold WZ;rw[j5 ⟨h,a⟩];rfl
end Go.LX