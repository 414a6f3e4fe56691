/-
  What the law WorldStands needs of our own library and of the walks, no more.
-/
import Derived.WalkKit
import Derived.Laws.StructEq
import Derived.ChangeKeysEq
import Derived.StillTail
import Derived.LoopN
import Derived.Deep.Quiet
import Derived.OrdersHeld
import Derived.Deep.RegionHeld3
import Derived.Deep.Slices
import Derived.MapKept
import Derived.Lib.Bytealg
import Derived.ChangeArms
import Derived.Lib.AppendZeros
import Derived.Lib.Overlaps
import Derived.Laws.CopyRow
import Derived.Shelf.SlSortCmp.SmallK
import Derived.Laws.Pointers
import Derived.Laws.OwnMore
import Derived.Laws.Concat
import Derived.Laws.Strings2
import Derived.Laws.Strings3
import Derived.Laws.IdiomStrings
import Derived.Lib.AppendStr
import Derived.Lib.ConvBytes
import Derived.Lib.LaidTab
import Derived.Lib.ItoaNum
import Derived.WideLaws
import Derived.Lib.SplitLaws
import Derived.Lib.JoinLaws
import Derived.Lib.AtoiAll
import Derived.Lib.ParseIntB
import Derived.Laws.NewFold
import Derived.Lib.Join
import Derived.Lib.Strings
import Derived.Sort.Grow
import Derived.Lib.Space
import Derived.Handed
import Derived.LaidMore
import Derived.LaidHandle
import Derived.Stop.LaidErr
import Derived.Shelf.Vars
import Derived.WideShapes
import Derived.Lib.ParseIntBTie
import Derived.Lib.ItoaLen
import Derived.Lib.AtoiAllCases
namespace Go
theorem Z.{u} {α : Sort u} {a : α} : a = a := rfl
theorem U : True := trivial
theorem V {p : Prop} (h : p := by omega) : p := h
theorem zq1 {p : Prop} (h : p := by decide) : p := h
theorem zq2 {p : Prop} (h : p := by kernel_rfl) : p := h
theorem zq3 {p : Prop} (h : p := by simp) : p := h
end Go
set_option linter.unusedSimpArgs false
set_option linter.unusedVariables false
set_option maxRecDepth 10000
namespace Go.LX
open Go.RowKit
def act(n:Nat)(env:Nat->Value):Act:={tmps:=Array.ofFn (n:=n) fun i=>env i.val,defers:=[]}
def upd(env:Nat->Value)(d:Nat)(v:Value):Nat->Value:=fun i=>bif Nat.beq i d then v else env i
def ev(n:Nat)(env:Nat->Value):Operand->Value
 | .tmp t=>bif Nat.blt t n then env t else undef
 | .const v=>v
 | .global g=>.pointer (some ⟨g,0,none⟩)
 | .func f=>.func (.func f) #[] #[]
def gm(env:Nat->Value):Option Nat->Value->(Nat->Value)
 |some d,v=>upd env d v
 |none,_=>env
theorem gJ(n:Nat)(env:Nat->Value):(act n env).eval=ev n env:=by
  funext x;cases x with
  |tmp t=>
    by_cases h:t<n
    · have a:Nat.blt t n=true:=by rw[Nat.blt_eq];exact h
      simp[Act.eval,act,ev,h,a]
    · have a:Nat.blt t n=false:=by rw[Bool.eq_false_iff,ne_eq,Nat.blt_eq];exact h
      simp[Act.eval,act,ev,h,a]
  |_=>rfl
theorem CO(n:Nat)(env:Nat->Value)(d:Option Nat)(v:Value):(act n env).put d v=act n (gm env d v):=by
  cases d with
  |none=>rfl
  |some d=>
    simp only[Act.put,act,gm,Act.mk.injEq,and_true];apply Array.ext
    · simp
    · intro i b f;simp at b;have c:i<(Array.ofFn (n:=n) fun i=>env i.val).size:=by simp;exact b
      rw[Array.getElem_setIfInBounds c];by_cases a:d=i
      · subst a;simp[upd,Nat.beq_refl]
      · have e:Nat.beq i d=false:=by rw[Bool.eq_false_iff];intro h;exact a (Nat.eq_of_beq_eq_true h).symm
        simp[a,upd,e]
def QB(args:List Value):Nat->Value:=fun i=>args.getD i undef
theorem act_init(n:Nat)(args:List Value)(h:args.length<=n):({tmps:=args.toArray++Array.replicate (n-args.toArray.size) undef,defers:=[]}:Act)=act n (QB args):=by
  simp only[act,Act.mk.injEq,and_true];apply Array.ext
  · simp;omega
  · intro i b c;simp[Array.getElem_append,QB,List.getD];by_cases a:i<args.length
    · simp[a]
    · simp[a]
structure WL(P:Program)(ops:Array Oper)(Q:Exit->Act->World->Prop)(l:List Oper)(n:Nat)(env:Nat->Value)(w:World):Prop where
 out:wpList P ops Q l (act n env) w
structure WC(P:Program)(c:Code)(Q:Exit->Act->World->Prop)(n:Nat)(env:Nat->Value)(w:World):Prop where
 out:c.wp P Q (act n env) w
section
variable{P:Program}{ops:Array Oper}{Q:Exit->Act->World->Prop}{n:Nat}{env:Nat->Value}{w w':World}{rest:List Oper}
 {d:Option Nat} {op:Op} {ty:TypeId} {pos:String} {af:Array Edge} {v:Value} {g:Option (Nat×Bool)}
theorem F(b:(execOp (ev n env) ⟨d,op,ty,pos,af,none⟩).run P w=.ok (.value v) w')(h:WL P ops Q rest n (gm env d v) w'):
  WL P ops Q (⟨d,op,ty,pos,af,none⟩::rest) n env w:=by
 refine⟨wpList_plain Z fun K a=>?_⟩;unfold Oper.wp;rw[gJ,b];show K _ _;rw[CO];exact a _ _ h.out
theorem yS(b:(execOp (ev n env) ⟨d,op,ty,pos,af,none⟩).run P w=.ok .skip w')(h:WL P ops Q rest n (gm env d undef) w'):
  WL P ops Q (⟨d,op,ty,pos,af,none⟩::rest) n env w:=by
 refine⟨wpList_plain Z fun K a=>?_⟩;unfold Oper.wp;rw[gJ,b];show K _ _;rw[CO];exact a _ _ h.out
theorem wl_enter{f:FuncId}{args:Array Value}{R:Ending->World->Prop}(b:(execOp (ev n env) ⟨d,op,ty,pos,af,none⟩).run P w=.ok (.enter f args) w)(c:Calls P f args w R)
  (h:∀e w',R e w'->∃v,e=.returned v/\WL P ops Q rest n (gm env d v) w'):
  WL P ops Q (⟨d,op,ty,pos,af,none⟩::rest) n env w:=by
 refine⟨wpList_plain Z fun K a=>?_⟩;unfold Oper.wp;rw[gJ,b];show Calls P f args w _;refine c.mono fun e w' i=>?_;obtain⟨v,rfl,g⟩:=h e w' i;show K _ _;rw[CO];exact a _ _ g.out
theorem Jb{j dj:Nat}{b:Bool}(c:(ops[j]?).bind (·.dst)=some dj)(d:ev n env (.tmp dj)=.bool b):yielded ops (act n env).tmps j=some b:=by
  unfold yielded;have a:(act n env).eval (.tmp dj)=.bool b:=by rw[gJ];exact d
  simp only[c,Option.bind_some];simp only[Act.eval]at a;cases h2:(act n env).tmps[dj]? with
  |none=>simp[Array.getD_eq_getD_getElem?,h2,undef]at a
  |some x=>simp[Array.getD_eq_getD_getElem?,h2]at a;subst a;rfl
theorem Ho{j dj:Nat}{b:Bool}(c:(ops[j]?).bind (·.dst)=some dj)(f:ev n env (.tmp dj)=.bool b)
    (h:WL P ops Q (⟨d,op,ty,pos,af,none⟩::rest) n env w):WL P ops Q (⟨d,op,ty,pos,af,some (j,b)⟩::rest) n env w:=by
  have g:=Jb (ops:=ops) c f;have e:Region.wanted ⟨d,op,ty,pos,af,some (j,b)⟩ (yielded ops (act n env).tmps)=true:=by simp[Region.wanted,g]
  have a:Region.wanted ⟨d,op,ty,pos,af,none⟩ (yielded ops (act n env).tmps)=true:=rfl;obtain⟨h⟩:=h;refine⟨?_⟩;unfold wpList at h⊢;rw[if_pos a]at h;rw[if_pos e];exact h
theorem bN{j dj:Nat}{b b':Bool}(a:(ops[j]?).bind (·.dst)=some dj)(e:ev n env (.tmp dj)=.bool b')(f:(b'==b)=false)
    (h:WL P ops Q rest n (gm env d undef) w):WL P ops Q (⟨d,op,ty,pos,af,some (j,b)⟩::rest) n env w:=by
  have g:=Jb (ops:=ops) a e;have c:Region.wanted ⟨d,op,ty,pos,af,some (j,b)⟩ (yielded ops (act n env).tmps)=false:=by simpa[Region.wanted,g]using f
  refine⟨?_⟩;unfold wpList;rw[if_neg (by rw[c];decide),CO];exact h.out
theorem ag(h:Q .normal (act n env) w):WL P ops Q [] n env w:=⟨h⟩
end
section
variable{P:Program}{Q:Exit->Act->World->Prop}{n:Nat}{env:Nat->Value}{w:World}{x y:Code}
theorem ay{id:Nat}{l:List Oper}(h:WL P l.toArray Q l n env w):WC P (Code.region id l.toArray false) Q n env w:=⟨wp_region_lit h.out⟩
theorem aC(h:WC P x (Exit.then (y.wp P Q) Q) n env w):WC P (Code.seq x y) Q n env w:=⟨wp_seq h.out⟩
theorem aH{id:Nat}(h:WC P x (Exit.inBlock id Q) n env w):WC P (Code.block id x) Q n env w:=⟨wp_block h.out⟩
theorem ax(h:Q .normal (act n env) w):WC P .skip Q n env w:=⟨wp_skip h⟩
theorem zk(h:Q .ret (act n env) w):WC P .ret Q n env w:=⟨wp_ret h⟩
theorem jR{id:Nat}(h:Q (.exit id) (act n env) w):WC P (.exit id) Q n env w:=⟨wp_exit h⟩
theorem eD{c:Operand}{t:Bool}(b:ev n env c=.bool t)(a:t=true->WC P x Q n env w)(d:t=false->WC P y Q n env w):
 WC P (Code.cond c x y) Q n env w:=⟨wp_cond_split (by rw[gJ];exact b) (fun h=>(a h).out) (fun h=>(d h).out)⟩
theorem YJ{c:Operand}(b:ev n env c=.bool true)(a:WC P x Q n env w):WC P (Code.cond c x y) Q n env w:=⟨wp_cond_true (by rw[gJ];exact b) a.out⟩
theorem wc_iff{c:Operand}(b:ev n env c=.bool false)(a:WC P y Q n env w):WC P (Code.cond c x y) Q n env w:=⟨wp_cond_false (by rw[gJ];exact b) a.out⟩
theorem ae{Q':Exit->Act->World->Prop}(h:WC P y Q n env w):Exit.then (y.wp P Q) Q' .normal (act n env) w:=h.out
def hav(mod:Nat->Bool)(b a:Nat->Value):Nat->Value:=fun i=>bif mod i then b i else a i
def WI(e:Nat->Value):List (Nat×Value)->Nat->Value
 |[]=>e
 |(i,v)::r=>upd (WI e r) i v
def Holds(e:Nat->Value):List (Nat×Value)->Prop
 |[]=>True
 |(i,v)::r=>e i=v/\Holds e r
def F6(mod:Nat->Bool)(e a:Nat->Value):Prop:=∀i,mod i=false->e i=a i
theorem F6.refl(mod:Nat->Bool)(e:Nat->Value):F6 mod e e:=fun _ _=>rfl
theorem F6.hav(mod:Nat->Bool)(j e:Nat->Value):F6 mod (hav mod j e) e:=fun i h=>by simp[LX.hav,h]
theorem F6.upd{mod:Nat->Bool}{e a:Nat->Value}{d:Nat}{v:Value}(c:mod d=true)(h:F6 mod e a):F6 mod (upd e d v) a:=fun i b=>by
 have:i≠d:=fun e=>by rw[e,c]at b;exact Bool.noConfusion b
 have f:Nat.beq i d=false:=by rw[Bool.eq_false_iff];intro h;exact this (Nat.eq_of_beq_eq_true h)
 simp[LX.upd,f,h i b]
theorem upd_self(e:Nat->Value){i:Nat}{v:Value}(h:e i=v):upd e i v=e:=by
  funext k;by_cases a:Nat.beq k i=true
  · have:=Nat.eq_of_beq_eq_true a;subst this;simp[upd,h]
  · simp[upd,a]
theorem hav_self{mod:Nat->Bool}{e a:Nat->Value}(h:F6 mod e a):hav mod e a=e:=by
 funext i;cases hm:mod i with
 |true=>simp[hav,hm]
 |false=>simp[hav,hm,h i hm]
theorem QC{e:Nat->Value}:∀(l:List (Nat×Value)),Holds e l->WI e l=e
 |[],_=>rfl
 |(i,v)::r,h=>by
  show upd (WI e r) i v=e;rw[QC r h.2];exact upd_self e h.1
theorem wc_loop{σ:Type}{c:Code}(mod:Nat->Bool)(live:σ->List (Nat×Value))(J:σ->World->Prop)(v:σ->Nat)(y:σ)
  (R:Holds env (live y)) (O:J y w)
  (j:∀s I M,J s I->WC P c (Exit.then (fun a' w'=>∃o r,a'=act n r/\F6 mod r env/\Holds r (live o)/\J o w'/\v o<v s) Q) n (WI (hav mod M env) (live s)) I):
  WC P (Code.loop c) Q n env w:=by
 refine⟨?_⟩;intro b k cs;have B:∀m s e w,v s=m->F6 mod e env->Holds e (live s)->J s w->
   ∃p a' w',Q p a' w'/\Arrives P (lone (b.at (act n e) (.code c:: .inLoop c::k)) cs w) b k cs p a' w':=by
  intro m;induction m using Nat.strongRecOn with
  |_ m ih=>
   intro s e w S T N L;have K:=(j s w e L).out;have E:WI (hav mod e env) (live s)=e:=by rw[hav_self T];exact QC _ N
   rw[E]at K;obtain⟨p,f,d,h,a⟩:=K b (.inLoop c::k) cs;cases p with
   |normal=>
    obtain⟨o,r,rfl,z,C,A,G⟩:=h;obtain⟨q,u,t,i,g⟩:=ih (v o) (S▸G) o r d Z z C A;exact⟨q,u,t,i,.of_steps (Steps.trans a<|.one step_inLoop) g⟩
   |exit id=>exact⟨_,f,d,h,.pass (x:=.inLoop c) Z (fun _ _=>.inl zq3) a⟩
   |goto l=>exact⟨_,f,d,h,.pass (x:=.inLoop c) Z (fun _ _=>.inl zq3) a⟩
   |ret=>exact⟨_,f,d,h,.pass (x:=.inLoop c) Z (fun _ _=>.inl zq3) a⟩
   |panic ch=>exact⟨_,f,d,h,.pass (x:=.inLoop c) Z (fun _ _=>.inl zq3) a⟩
   |outgrown=>exact⟨_,f,d,h,.pass (x:=.inLoop c) Z (fun _ _=>.inl zq3) a⟩
 obtain⟨p,a',w',h,a⟩:=B _ y env w Z (F6.refl _ _) R O;exact⟨p,a',w',h,.of_steps (.one step_loop) a⟩
end
open Go.RowKit
structure One(P:Program)(T:TypeId)(z:Value):Prop where
 desc:∃d,P.underlying T=some d/\(match d with| .struct _| .array _ _=>False|_=>True)
 info:(P.info? T).map (fun i=>(i.zero,i.size))=some (some z,1)
 cell:z.cells= #[z]
structure uN(P:Program)(T:TypeId)(zs:List Value):Prop where
 desc:∃d,P.underlying T=some d/\(match d with| .struct _| .array _ _=>True|_=>False)
 info:(P.info? T).map (fun i=>(i.zero,i.size))=some (some (.agg zs.toArray),zs.length)
structure SliceOf(P:Program)(T E:TypeId)(sz:Nat):Prop where
  desc:P.underlying T=some (.slice E)
  info:(P.info? E).map (·.size)=some sz
structure dM(P:Program)(T:TypeId)(k off:Nat):Prop where
  desc:∃fs f s,P.underlying T=some (.struct fs)/\fs[k]? =some f/\f.offset=off/\(P.info? f.type).map (·.size)=some (s+1)
section
variable{P:Program}{w:World}{ρ:Operand->Value}{d:Option Nat}{ty:TypeId}{pos:String}{af:Array Edge}{g:Option (Nat×Bool)}
theorem bK{x:Operand}{v:Value}(a:ρ x=v):(execOp ρ ⟨d,.move x,ty,pos,af,g⟩).run P w=.ok (.value v) w:=by subst a;rfl
theorem eO{x:Operand}{v:Value}(a:ρ x=v):(execOp ρ ⟨d,.assign x,ty,pos,af,g⟩).run P w=.ok (.value v) w:=by subst a;rfl
theorem jr{c x y:Operand}{b:Bool}{v:Value}(e:ρ c=.bool b)(a:(if b then ρ x else ρ y)=v):(execOp ρ ⟨d,.pick c x y,ty,pos,af,g⟩).run P w=.ok (.value v) w:=by
 subst a;simp[execOp,e,asBool]
theorem r_not{x:Operand}{T:TypeId}{b:Bool}(a:ρ x=.bool b):(execOp ρ ⟨d,.unOp .not T x,ty,pos,af,g⟩).run P w=.ok (.value (.bool !b)) w:=by
 simp[execOp,a,Op.unary]
theorem YK{x:Int}(b: -9223372036854775808<=x)(a:x<=9223372036854775807):IntKind.i64.wrap x=x:=IntWalk.i64_in x ⟨b,a⟩
theorem tT{x y:Operand}{T T2:TypeId}{p q:Int}(a:ρ x=.int .i64 p)(b:ρ y=.int .i64 q):(execOp ρ ⟨d,.binOp .lss T x y T2,ty,pos,af,g⟩).run P w=.ok (.value (.bool (decide (p<q)))) w:=by
 simp[execOp,a,b,eqGuard,binOp,Op.intCmp]
theorem OV{x y:Operand}{T T2:TypeId}{p q:Int}(a:ρ x=.int .i64 p)(b:ρ y=.int .i64 q):(execOp ρ ⟨d,.binOp .leq T x y T2,ty,pos,af,g⟩).run P w=.ok (.value (.bool (decide (p<=q)))) w:=by
 simp[execOp,a,b,eqGuard,binOp,Op.intCmp]
theorem iF{x y:Operand}{T T2:TypeId}{p q:Int}(a:ρ x=.int .i64 p)(b:ρ y=.int .i64 q):(execOp ρ ⟨d,.binOp .gtr T x y T2,ty,pos,af,g⟩).run P w=.ok (.value (.bool (decide (q<p)))) w:=by
 simp[execOp,a,b,eqGuard,binOp,Op.intCmp]
theorem lJ{x y:Operand}{T T2:TypeId}{p q:Int}(a:ρ x=.int .i64 p)(b:ρ y=.int .i64 q):(execOp ρ ⟨d,.binOp .geq T x y T2,ty,pos,af,g⟩).run P w=.ok (.value (.bool (decide (q<=p)))) w:=by
 simp[execOp,a,b,eqGuard,binOp,Op.intCmp]
theorem lX{x y:Operand}{T T2:TypeId}{p q:Int}{k:IntKind}(a:ρ x=.int k p)(b:ρ y=.int k q):(execOp ρ ⟨d,.binOp .eql T x y T2,ty,pos,af,g⟩).run P w=.ok (.value (.bool (decide (p=q)))) w:=by
 simp[execOp,a,b,eqGuard,binOp,Op.intCmp];rfl
theorem yC{x y:Operand}{T T2:TypeId}{p q:Int}{k:IntKind}(a:ρ x=.int k p)(b:ρ y=.int k q):(execOp ρ ⟨d,.binOp .neq T x y T2,ty,pos,af,g⟩).run P w=.ok (.value (.bool (decide (p≠q)))) w:=by
 simp[execOp,a,b,eqGuard,binOp,Op.intCmp];rfl
theorem Hq{x y:Operand}{T T2:TypeId}{p q:Int}(a:ρ x=.int .i64 p)(b:ρ y=.int .i64 q)(h: -9223372036854775808<=p+q/\p+q<=9223372036854775807):
  (execOp ρ ⟨d,.binOp .add T x y T2,ty,pos,af,g⟩).run P w=.ok (.value (.int .i64 (p+q))) w:=by
 simp[execOp,a,b,eqGuard,binOp,Op.intArith,YK h.1 h.2]
theorem l9{x y:Operand}{T T2:TypeId}{p q:Int}(a:ρ x=.int .i64 p)(b:ρ y=.int .i64 q)(h: -9223372036854775808<=p-q/\p-q<=9223372036854775807):
  (execOp ρ ⟨d,.binOp .sub T x y T2,ty,pos,af,g⟩).run P w=.ok (.value (.int .i64 (p-q))) w:=by
 simp[execOp,a,b,eqGuard,binOp,Op.intArith,YK h.1 h.2]
theorem oH{x:Operand}{T E:TypeId}{b:Nat}{a:Option Addr}{l c:Nat}(f:SliceOf P T E b)(e:ρ x=.slice a l c):
  (execOp ρ ⟨d,.call {callee:=.builtin .len,args:= #[x],argTypes:= #[T]},ty,pos,af,g⟩).run P w=.ok (.value (.int .i64 l)) w:=by
 simp[execOp,resolve,invoke,builtin,Builtin.len_,e,underlying,f.desc,goInt]
theorem r_load1{x:Operand}{T:TypeId}{z v:Value}{b o:Nat}{cs:Array Value}{E:TypeId}{f:Nat×Nat}(c:One P T z)(i:ρ x=.pointer (some ⟨b,o,none⟩))(h:w.heap[b]? =some (.cells cs E f))(a:cs[o]? =some v):
  (execOp ρ ⟨d,.load T x,ty,pos,af,g⟩).run P w=.ok (.value v) w:=by
 obtain⟨e,j,k⟩:=c.desc;have l:w.cell? ⟨b,o,none⟩=some v:=by simp[World.cell?,h,a]
 cases e<;>simp_all[execOp,Instr.loadAt,Instr.sureAddr,loadVar,isAgg,underlying]
end
open Go.RowKit
abbrev BS:=Nat->Prop
abbrev BE:BS:=fun _=>False
structure bI(K:BS)(w w':World):Prop where
 os:w'.os=w.os
 tape:w'.tape=w.tape
 output:w'.output=w.output
 size:w.heap.size<=w'.heap.size
 block:∀b,¬K b->b<w.heap.size->w'.heap[b]? =w.heap[b]?
abbrev Grow(w w':World):Prop:=bI BE w w'
theorem bI.refl(K:BS)(w:World):bI K w w:=⟨rfl,rfl,rfl,Nat.le_refl _,fun _ _ _=>rfl⟩
theorem bI.step{K N:BS}{a b c:World}(h:bI K a b)(k:bI N b c)(hN:∀x,N x->x<a.heap.size->K x):bI K a c:=
 ⟨k.os.trans h.os,k.tape.trans h.tape,k.output.trans h.output,Nat.le_trans h.size k.size,fun i e d=>(k.block i (fun hn=>e (hN i hn d)) (Nat.lt_of_lt_of_le d h.size)).trans (h.block i e d)⟩
theorem bI.grow{K:BS}{a b c:World}(h:bI K a b)(k:Grow b c):bI K a c:=h.step k (fun _ h=>h.elim)
theorem bI.weaken{K N:BS}{a b:World}(h:bI K a b)(d:∀x,K x->x<a.heap.size->N x):bI N a b:=⟨h.os,h.tape,h.output,h.size,fun i e c=>h.block i (fun hn=>e (d i hn c)) c⟩
theorem Grow.keep{K:BS}{a b:World}(h:Grow a b):bI K a b:=h.weaken (fun _ h=>h.elim)
theorem iD{w:World}{b:Nat}{o:Obj}(a:w.heap[b]? =some o):b<w.heap.size:=by
  rcases Nat.lt_or_ge b w.heap.size with h1|h1
  · exact h1
  · rw[Array.getElem?_eq_none h1]at a;cases a
theorem bI.blk{K:BS}{w w':World}(h:bI K w w'){b:Nat}{o:Obj}(a:w.heap[b]? =some o)(c:¬K b):w'.heap[b]? =some o:=by
 rw[h.block b c (iD a),a]
theorem Grow.blk{w w':World}(h:Grow w w'){b:Nat}{o:Obj}(a:w.heap[b]? =some o):w'.heap[b]? =some o:=bI.blk h a (fun h=>h)
theorem Grow.below{w w':World}(h:Grow w w'):Below w.heap.size w w':=⟨h.os,h.tape,h.output,h.size,fun k a=>h.block k (fun h=>h) a⟩
theorem Grow.of_below{w w':World}(h:Below w.heap.size w w'):Grow w w':=⟨h.os,h.tape,h.output,h.size,fun k _ a=>h.block k a⟩
theorem Grow.alloc(w:World)(o:Obj):Grow w (w.alloc o):=Grow.of_below ((Below.refl _ _).alloc (Nat.le_refl _) o)
theorem LV(w:World)(o:Obj):(w.alloc o).heap[w.heap.size]? =some o:=by show(w.heap.push o)[w.heap.size]? =some o;simp
theorem alloc_size(w:World)(o:Obj):(w.alloc o).heap.size=w.heap.size+1:=by show(w.heap.push o).size=_;simp
theorem Grow.drew(w:World):Grow w w.drew:=⟨rfl,rfl,rfl,Nat.le_refl _,fun _ _ _=>rfl⟩
theorem Grow.trans{a b c:World}(h:Grow a b)(k:Grow b c):Grow a c:=h.grow k
structure kD(α:Type)where
 sz:Nat
 rd:World->BS->List Value->α->Prop
 len:∀{w A cs x},rd w A cs x->cs.length=sz
 one:∀{w A cs x},rd w A cs x->∀u∈cs,u.oneCell'=true
 pos:0<sz
 go:∀{w A cs x w' A' K},rd w A cs x->bI K w w'->(∀b,K b->b<w.heap.size->A b)->(∀b,A' b->b<w.heap.size->A b)->rd w' A' cs x
def dR{α:Type}(R:kD α)(w:World)(B A:BS)(v:Value)(l:List α):Prop:=
 ∃a cap,v=.slice a l.length cap/\l.length<=cap/\cap<=maxLen/\(a=none->cap=0)/\
  ∀i (h:i<l.length),∃b o cells E c,a=some ⟨b,o,none⟩/\¬B b/\w.heap[b]? =some (.cells cells E c)/\R.rd w A ((cells.toList.drop (o+i*R.sz)).take R.sz) l[i]
abbrev bZ{α:Type}(R:kD α)(w:World)(A:BS)(v:Value)(l:List α):Prop:=dR R w A A v l
theorem dR.go{α:Type}{R:kD α}{w w':World}{B f A A' K:BS}{v:Value}{l:List α}(h:dR R w B A v l)(e:bI K w w')(c:∀b,K b->b<w.heap.size->B b)(j:∀b,K b->b<w.heap.size->A b)(u:∀b,f b->b<w.heap.size->B b)(s:∀b,A' b->b<w.heap.size->A b):dR R w' f A' v l:=by
 obtain⟨a,cap,rfl,k,n,p,t⟩:=h;refine⟨a,cap,Z,k,n,p,fun i m=>?_⟩;obtain⟨b,o,cells,E,x,r,g,d,q⟩:=t i m;exact⟨b,o,cells,E,x,r,fun h=>g<|u b h<|iD d,e.blk d fun h=>g<|c b h<|iD d,R.go q e j s⟩
theorem dR.sub{α:Type}{R:kD α}{w:World}{B a A A':BS}{v:Value}{l:List α}(h:dR R w B A v l)(d:∀b,a b->b<w.heap.size->B b)(c:∀b,A' b->b<w.heap.size->A b):dR R w a A' v l:=
 h.go (bI.refl BE w) (fun _ h=>h.elim) (fun _ h=>h.elim) d c
theorem dR.src{α:Type}{R:kD α}{w:World}{B A:BS}{v:Value}{l:List α}(h:dR R w B A v l):dR R w BE A v l:=h.sub (fun _ h=>h.elim) (fun _ h _=>h)
theorem bZ.go{α:Type}{R:kD α}{w w':World}{A A' K:BS}{v:Value}{l:List α}(h:bZ R w A v l)(d:bI K w w')(a:∀b,K b->b<w.heap.size->A b)(c:∀b,A' b->b<w.heap.size->A b):bZ R w' A' v l:=
 dR.go h d a a c c
theorem dR.one{α:Type}{R:kD α}{w:World}{B A:BS}{v:Value}{l:List α}(h:dR R w B A v l):v.oneCell'=true:=by
 obtain⟨a,cap,rfl,_⟩:=h;rfl
theorem dR.nil{α:Type}{R:kD α}{w:World}{B A:BS}:dR R w B A (.slice none 0 0) ([]:List α):=⟨none,0,rfl,Nat.le_refl _,by unfold maxLen;omega,fun _=>rfl,fun i a=>absurd a (Nat.not_lt_zero _)⟩
theorem dR.bG{α:Type}{R:kD α}{w:World}{B A:BS}{v:Value}{l:List α}(h:dR R w B A v l):l.length<=9223372036854775807:=by
 obtain⟨a,cap,_,c,b,_⟩:=h;unfold maxLen at b;omega
def sU{α:Type}(R:kD α):kD (List α) where
 sz:=1
 rd w A cs l:=∃v,cs=[v]/\bZ R w A v l
 len:=by rintro w A cs x ⟨v,rfl,_⟩;rfl
 one:=by
  rintro w A cs x⟨v,rfl,h⟩u hu;simp at hu;subst hu;exact h.one
 pos:=by decide
 go:=by
  rintro w A cs x w' A' K⟨v,rfl,h⟩hk hK hA;exact⟨v,Z,h.go hk hK hA⟩
def dh:kD Int where
 sz:=1
 rd _ _ cs x:=cs=[.int .i64 x]
 len:=by rintro w A cs x rfl;rfl
 one:=by rintro w A cs x rfl u hu;simp at hu;subst hu;rfl
 pos:=by decide
 go:=fun h _ _ _=>h
def rBool:kD Bool where
 sz:=1
 rd _ _ cs x:=cs=[.bool x]
 len:=by rintro w A cs x rfl;rfl
 one:=by rintro w A cs x rfl u hu;simp at hu;subst hu;rfl
 pos:=by decide
 go:=fun h _ _ _=>h
abbrev Str:=List UInt8
def bB(s:Str):Value:=.string ⟨s.toArray⟩
def sD:kD Str where
 sz:=1
 rd _ _ cs x:=cs=[bB x]
 len:=by rintro w A cs x rfl;rfl
 one:=by rintro w A cs x rfl u hu;simp at hu;subst hu;rfl
 pos:=by decide
 go:=fun h _ _ _=>h
def ob:Value->Nat->Prop| .slice (some a) _ _=>fun b=>b=a.block|_=>fun _=>False
theorem ob_row{v:Value}{k:Nat}:ob v k↔v.ownBlock=some k:=by
 cases v with
 |slice a l c=>cases a with
  |none=>simp[ob,Value.ownBlock]
  |some a=>simp[ob,Value.ownBlock];exact eq_comm
 |_=>simp[ob,Value.ownBlock]
def cz{α:Type}(R:kD α)(E:TypeId)(w:World)(A:BS)(v:Value)(l:List α):Prop:=
 ∃xs,w.ownsRow 0 E R.sz v l.length xs/\∀i (h:i<l.length),R.rd w (fun b=>A b\/ob v b) ((xs.drop (i*R.sz)).take R.sz) l[i]
theorem cz.nil{α:Type}{R:kD α}{E:TypeId}{w:World}{A:BS}:cz R E w A (.slice none 0 0) ([]:List α):=
 ⟨[],World.ownsRow_nil _ _ _ _,fun i h=>absurd h (Nat.not_lt_zero _)⟩
theorem cz.lt{α:Type}{R:kD α}{E:TypeId}{w:World}{A:BS}{v:Value}{l:List α}(h:cz R E w A v l):∀k,ob v k->k<w.heap.size:=by
 obtain⟨xs,a,_⟩:=h;intro k b;exact(a.lt k<|ob_row.1 b).2
theorem cz.go{α:Type}{R:kD α}{E:TypeId}{w w':World}{A A' K:BS}{v:Value}{l:List α}(h:cz R E w A v l)(e:bI K w w')(f:∀b,K b->b<w.heap.size->A b)(d:∀b,K b->¬ob v b)(o:∀b,A' b->b<w.heap.size->A b\/ob v b):cz R E w' A' v l:=by
  obtain⟨xs,c,n⟩:=h;refine⟨xs,?_,fun i j=>R.go (n i j) e (fun b c k=>.inl<|f b c k) fun b a m=>?_⟩
  · refine⟨c.1,?_⟩;rcases c.2 with h|⟨g,cap,cur,rfl,e1,e2,e3⟩
    · exact .inl h
    · exact .inr ⟨g,cap,cur,Z,e1,e.blk e2 (fun h=>d g h (by simp[ob])),e3⟩
  · rcases a with a|a
    · exact o b a m
    · exact .inr a
theorem cz.one{α:Type}{R:kD α}{E:TypeId}{w:World}{A:BS}{v:Value}{l:List α}(h:cz R E w A v l):v.oneCell'=true:=by
 obtain⟨xs,a,_⟩:=h;rcases a.2 with⟨rfl,_⟩|⟨g,cap,cur,rfl,_⟩<;>rfl
theorem cz.rd{α:Type}{R:kD α}{E:TypeId}{w:World}{A A':BS}{v:Value}{l:List α}(h:cz R E w A v l)(e:∀b,ob v b->¬A' b)(d:∀b,A' b->b<w.heap.size->A b\/ob v b):bZ R w A' v l:=by
  obtain⟨xs,c,f⟩:=h;rcases c.2 with⟨rfl,hn⟩|⟨g,cap,cur,rfl,e1,e2,e3,e4,e5,e6⟩
  · have:l=[]:=List.eq_nil_of_length_eq_zero hn;subst this;exact dR.nil
  · refine⟨some ⟨g,0,none⟩,cap,Z,e3,e4,(fun h=>by cases h),fun i a=>⟨g,0,cur,E,(0,0),Z,e g (by simp[ob]),e2,?_⟩⟩;have:=R.go (A':=A') (f i a) (bI.refl BE w) (fun _ h=>h.elim) d;rw[<-e6,List.drop_take,List.take_take,Nat.min_eq_left ?_]at this
    · rw[Nat.zero_add];exact this
    · have:(i+1)*R.sz<=l.length*R.sz:=Nat.mul_le_mul_right _ a;rw[Nat.add_mul]at this;omega
def Jc(b:Array MapEntry)(a:Nat):Prop:=(∀e∈b.toList,e.born<a)/\(b.toList.map (·.born)).Nodup
def Gd(w:World)(b:Nat)(jP:List (Int×Value)):Prop:=
 ∃c a,w.heap[b]? =some (.map c a)/\c.toList.map (fun e=>(e.key,e.val))=jP.map (fun p=>(Value.int .i64 p.1,p.2))/\Jc c a
structure Pce where
 own:BS
 P:World->BS->Prop
 lt:∀{w A b},P w A->own b->b<w.heap.size
 go:∀{w w' A A' K},P w A->bI K w w'->(∀b,K b->b<w.heap.size->A b)->(∀b,K b->¬own b)->(∀b,A' b->b<w.heap.size->A b\/own b)->P w' A'
inductive Chunk:Type 1 where
 |no
 |rd {α:Type} (R:kD α) (v:Value) (l:List α)
 |sr {α:Type} (R:kD α) (v:Value) (l:List α)
 |pt (b o:Nat) (cs:List Value)
 |blk (b:Nat) (cs:List Value)
 |own {α:Type} (R:kD α) (E:TypeId) (v:Value) (l:List α)
 |mp (b:Nat) (jP:List (Int×Value))
 |rp {α:Type} (R:kD α) (v:Value) (x:α)
 |two (a b:Chunk)
 |eH (S:Pce)
def Chunk.own':Chunk->BS
 | .blk b _=>fun x=>x=b
 | .own _ _ v _=>ob v
 | .mp b _=>fun x=>x=b
 | .two a b=>fun x=>a.own' x\/b.own' x
 | .eH S=>S.own
 |_=>BE
def Chunk.holds(w:World)(M O:BS):Chunk->Prop
 | .no=>True
 | .rd R v l=>bZ R w (fun b=>M b\/O b) v l
 | .sr R v l=>dR R w O (fun b=>M b\/O b) v l
 | .pt b o cs=>¬O b/\∃cells E c,w.heap[b]? =some (.cells cells E c)/\(cells.toList.drop o).take cs.length=cs
 | .blk b cs=>∃E,w.heap[b]? =some (.cells cs.toArray E (0,0))
 | .own R E v l=>cz R E w (fun b=>M b\/O b) v l
 | .mp b jP=>Gd w b jP
 | .rp R v x=>R.rd w (fun b=>M b\/O b) [v] x
 | .two a b=>a.holds w M O/\b.holds w M O/\∀x,a.own' x->¬b.own' x
 | .eH S=>S.P w (fun b=>M b\/O b)
theorem Chunk.go{c:Chunk}{w w':World}{M O k N:BS}(h:c.holds w M O)(g:bI N w w')(hN:∀b,N b->b<w.heap.size->O b)(f:∀b,N b->¬c.own' b)(i:∀b,k b->b<w.heap.size->M b\/O b)(j:∀b,k b->b<w.heap.size->O b):c.holds w' M k:=by
 induction c with
 |no=>trivial
 |rd R v l=>exact bZ.go h g (fun b d e=>.inr (hN b d e)) (fun b d e=>d.elim .inl (fun d=>i b d e))
 |sr R v l=>exact dR.go h g hN (fun b d e=>.inr (hN b d e)) j (fun b d e=>d.elim .inl (fun d=>i b d e))
 |pt b o cs=>
  obtain⟨p,cells,E,u,m,s⟩:=h;exact⟨fun h=>p<|j b h<|iD m,cells,E,u,g.blk m fun h=>p<|hN b h<|iD m,s⟩
 |blk b cs=>
  obtain⟨E,h⟩:=h;exact⟨E,g.blk h fun d=>f b d Z⟩
 |own R E v l=>exact cz.go h g (fun b d e=>.inr (hN b d e)) f (fun b d e=>.inl (d.elim .inl (fun d=>i b d e)))
 |rp R v x=>exact R.go h g (fun b d e=>.inr (hN b d e)) (fun b d e=>d.elim .inl (fun d=>i b d e))
 |two a b iha ihb=>exact⟨iha h.1 (fun x n q=>f x n (.inl q)),ihb h.2.1 (fun x n d=>f x n (.inr d)),h.2.2⟩
 |eH S=>exact S.go h g (fun b d e=>.inr (hN b d e)) f (fun b d e=>.inl (d.elim .inl (fun d=>i b d e)))
 |mp b jP=>
  obtain⟨t,c,h,r⟩:=h;exact⟨t,c,g.blk h fun d=>f b d Z,r⟩
theorem Chunk.sub{c:Chunk}{w:World}{M O d:BS}(h:c.holds w M O)(a:∀b,d b->b<w.heap.size->O b):c.holds w M d:=
 Chunk.go h (bI.refl BE w) (fun _ h=>h.elim) (fun _ h=>h.elim) (fun b e f=>.inr (a b e f)) a
theorem Chunk.lt{c:Chunk}{w:World}{M O:BS}(h:c.holds w M O):∀b,c.own' b->b<w.heap.size:=by
 intro b d;induction c with
 |no=>exact d.elim
 |rd=>exact d.elim
 |sr=>exact d.elim
 |pt=>exact d.elim
 |blk b' cs=>
  cases d;exact iD h.choose_spec
 |own R E v l=>exact cz.lt h b d
 |rp=>exact d.elim
 |two a c iha ihc=>exact d.elim (fun d=>iha h.1 d) (fun d=>ihc h.2.1 d)
 |eH S=>exact S.lt h d
 |mp b' jP=>
  cases d;obtain⟨_,_,h,_⟩:=h;exact iD h
def bU(hp:Nat->Chunk)(i:Nat)(c:Chunk):Nat->Chunk:=fun j=>bif Nat.beq j i then c else hp j
theorem df(hp:Nat->Chunk)(i:Nat)(c:Chunk):bU hp i c i=c:=by simp[bU,Nat.beq_refl]
theorem fe{hp:Nat->Chunk}{i j:Nat}{c:Chunk}(h:j≠i):bU hp i c j=hp j:=by
 have:Nat.beq j i=false:=by rw[Bool.eq_false_iff];intro e;exact h (Nat.eq_of_beq_eq_true e)
 simp[bU,this]
def hno:Nat->Chunk:=fun _=>.no
def iE(hp:Nat->Chunk):BS:=fun b=>∃j,(hp j).own' b
structure SH(w0:World)(M K:BS)(w:World)(hp:Nat->Chunk):Prop where
 keep:bI K w0 w
 ltM:∀b,M b->b<w0.heap.size
 apM:∀i b,(hp i).own' b->¬M b
 ok:∀i,(hp i).holds w M (iE hp)
 apart:∀i j,i≠j->∀b,(hp i).own' b->¬(hp j).own' b
 old:∀i b,(hp i).own' b->b<w0.heap.size->K b
section
variable{w0 w w':World}{M K:BS}{hp:Nat->Chunk}{i:Nat}{c:Chunk}
def rest(hp:Nat->Chunk)(i:Nat):BS:=fun b=>∃j,j≠i/\(hp j).own' b
theorem kJ{hp:Nat->Chunk}{i b:Nat}(h:rest hp i b):iE hp b:=let ⟨j,_,h⟩:=h;⟨j,h⟩
abbrev SH.av(hp:Nat->Chunk)(i:Nat)(c:Chunk):BS:=fun b=>rest hp i b\/c.own' b
theorem SH.step{N:BS}(h:SH w0 M K w hp)(i:Nat)(s:bI N w w')(hN:∀b,N b->b<w.heap.size->(hp i).own' b)
    (ho:∀b,c.own' b->b<w.heap.size->(hp i).own' b) (u:c.holds w' M (SH.av hp i c)):SH w0 M K w' (bU hp i c):=by
  have t:∀b,M b->b<w.heap.size:=fun b a=>Nat.lt_of_lt_of_le (h.ltM b a) h.keep.size;have m:∀b,iE (bU hp i c) b->rest hp i b\/c.own' b:=by
    rintro b⟨j,o⟩;by_cases e:j=i
    · subst e;rw[df]at o;exact .inr o
    · rw[fe e]at o;exact .inl ⟨j,e,o⟩
  have g:∀b,iE (bU hp i c) b->b<w.heap.size->iE hp b:=fun b a f=>(m b a).elim kJ fun h=>⟨i,ho b h f⟩;refine⟨?_,h.ltM,?_,?_,?_,?_⟩
  · exact h.keep.step s (fun x q f=>by
      have n:=Nat.lt_of_lt_of_le f h.keep.size;exact h.old i x (hN x q n) f)
  · intro j b a;by_cases e:j=i
    · subst e;rw[df]at a;intro r;exact h.apM j b (ho b a<|t b r) r
    · rw[fe e]at a;exact h.apM j b a
  · intro j;by_cases e:j=i
    · subst e;rw[df];exact Chunk.sub u fun b a _=>m b a
    · rw[fe e];have f:=h.ok j;refine Chunk.go f (s.weaken (N:=fun b=>N b/\b<w.heap.size) fun b a f=>⟨a,f⟩) ?_ ?_ ?_ ?_
      · intro b a n;exact⟨i,hN b a.1 n⟩
      · intro b a o;exact h.apart j i e b o<|hN b a.1 a.2
      · exact fun b a f=>.inr<|g b a f
      · exact g
  · intro j k l b a d;have lt:∀x,x≠i->(hp x).own' b->b<w.heap.size:=fun x _ q=>Chunk.lt (h.ok x) b q;by_cases e:j=i
    · subst e;have p:k≠j:=fun e=>l e.symm;rw[df]at a;rw[fe p]at d;exact h.apart j k l b (ho b a<|lt k p d) d
    · rw[fe e]at a;by_cases p:k=i
      · subst p;rw[df]at d;exact h.apart j k l b a<|ho b d<|lt j e a
      · rw[fe p]at d;exact h.apart j k l b a d
  · intro j b a f;by_cases e:j=i
    · subst e;rw[df]at a;exact h.old j b (ho b a<|Nat.lt_of_lt_of_le f h.keep.size) f
    · rw[fe e]at a;exact h.old j b a f
abbrev SH.A(M:BS)(hp:Nat->Chunk):BS:=fun b=>M b\/iE hp b
theorem SH.lt(h:SH w0 M K w hp):∀b,SH.A M hp b->b<w.heap.size:=by
  rintro b(a|⟨j,a⟩)
  · exact Nat.lt_of_lt_of_le (h.ltM b a) h.keep.size
  · exact Chunk.lt (h.ok j) b a
theorem SH.learn(h:SH w0 M K w hp)(i:Nat)(d:Grow w w')(ho:∀b,c.own' b->w.heap.size<=b)(e:c.holds w' M (fun b=>iE hp b\/c.own' b)):SH w0 M K w' (bU hp i c):=
 h.step i d (fun _ h=>h.elim) (fun b a f=>absurd (ho b a) V) (Chunk.sub e (fun b a _=>a.imp kJ id))
theorem SH.grow(h:SH w0 M K w hp)(c:Grow w w'):SH w0 M K w' hp:=
 ⟨h.keep.grow c,h.ltM,h.apM,fun i=>Chunk.go (h.ok i) c (fun _ h=>h.elim) (fun _ h=>h.elim) (fun b a _=>.inr a) (fun b a _=>a),h.apart,h.old⟩
theorem SH.know(h:SH w0 M K w hp)(i:Nat)(ho:∀b,¬c.own' b)(d:c.holds w M (iE hp)):SH w0 M K w (bU hp i c):=
 h.learn i (bI.refl BE w) (fun b a=>absurd a (ho b)) (Chunk.sub d (fun b a _=>a.elim id (fun a=>absurd a (ho b))))
theorem SH.freeze{α:Type}{R:kD α}{E:TypeId}{v:Value}{l:List α}(h:SH w0 M K w hp)(i:Nat)(f:hp i=.own R E v l):SH w0 M K w (bU hp i (.rd R v l)):=by
  refine h.step i (bI.refl BE w) (fun _ h=>h.elim) (fun b a=>a.elim) ?_;have e:=h.ok i;rw[f]at e;refine cz.rd e (fun b a c=>?_) fun b a e=>?_
  · have d:(hp i).own' b:=by rw[f];exact a
    rcases c with c|⟨j,hj,c⟩|c
    · exact h.apM i b d c
    · exact h.apart j i hj b c d
    · exact c
  · rcases a with a|a|a
    · exact .inl<|.inl a
    · exact .inl<|.inr<|kJ a
    · exact a.elim
def hset:List (Nat×Chunk)->Nat->Chunk
 |[]=>hno
 |(i,c)::r=>bU (hset r) i c
def YL(hp:Nat->Chunk):List (Nat×Chunk)->Prop
 |[]=>True
 |(i,c)::r=>hp i=c/\YL hp r
theorem hset_is{hp:Nat->Chunk}:∀{l:List (Nat×Chunk)},YL hp l->∀j,hset l j=hp j\/hset l j=.no
  |[],_,_=>.inr Z
  |(i,c)::r,h,j=>by
    by_cases e:j=i
    · subst e;left;show bU _ _ _ _=_;rw[df];exact h.1.symm
    · show bU _ _ _ _=_\/bU _ _ _ _=_;rw[fe e];exact hset_is h.2 j
theorem SH.canon(h:SH w0 M K w hp)(l:List (Nat×Chunk))(k:YL hp l):SH w0 M K w (hset l):=by
  have c:=hset_is k;have own:∀j b,(hset l j).own' b->(hp j).own' b:=by
    intro j b a;rcases c j with e|e
    · rw[e]at a;exact a
    · rw[e]at a;exact a.elim
  refine⟨h.keep,h.ltM,fun i b a=>h.apM i b<|own i b a,fun i=>?_,fun i j f b a d=>h.apart i j f b (own i b a)<|own j b d,fun i b a=>h.old i b<|own i b a⟩;rcases c i with e|e
  · rw[e];exact Chunk.sub (h.ok i) fun b⟨j,g⟩_=>⟨j,own j b g⟩
  · rw[e];trivial
theorem SH.init{w:World}{M:BS}(a:∀b,M b->b<w.heap.size):SH w M BE w hno:=
 ⟨bI.refl _ _,a,fun _ _ h=>h.elim,fun _=>trivial,fun _ _ _ _ h=>h.elim,fun _ _ h=>h.elim⟩
theorem SH.vU{α:Type}{R:kD α}{E:TypeId}{v:Value}{l:List α}(h:SH w0 M K w hp)(i:Nat)(a:Grow w w')(ho:cz R E w' (SH.A M hp) v l)(c:∀b,ob v b->w.heap.size<=b):SH w0 M K w' (bU hp i (.own R E v l)):=
 h.learn i a c (cz.go ho (bI.refl BE w') (fun _ h=>h.elim) (fun _ h=>h.elim) (fun b d _=>d.elim (fun h=>.inl (.inl h)) (fun h=>h.elim (fun h=>.inl (.inr h)) .inr)))
theorem SH.yD{α:Type}{R:kD α}{v:Value}{l:List α}(h:SH w0 M K w hp)(i:Nat)(a:Grow w w')(ho:bZ R w' (SH.A M hp) v l):SH w0 M K w' (bU hp i (.rd R v l)):=
 h.learn i a (fun _ h=>h.elim) (bZ.go ho (bI.refl BE w') (fun _ h=>h.elim) (fun b c _=>c.elim .inl (fun h=>h.elim .inr (fun h=>h.elim))))
theorem SH.aJ{α:Type}{R:kD α}{v:Value}{l:List α}(h:SH w0 M K w hp)(i:Nat)(ho:bZ R w (SH.A M hp) v l):SH w0 M K w (bU hp i (.rd R v l)):=h.yD i (bI.refl BE w) ho
theorem SH.ER{α:Type}{R:kD α}{v:Value}{l:List α}(h:SH w0 M K w hp)(i:Nat)(ho:bZ R w M v l)(hn:∀b,¬iE hp b):SH w0 M K w (bU hp i (.rd R v l)):=
 h.aJ i (ho.go (bI.refl BE w) (fun _ h=>h.elim) (fun b a _=>a.elim id (fun h=>absurd h (hn b))))
theorem SH.dw{α:Type}{R:kD α}{v:Value}{l:List α}(h:SH w0 M K w hp)(i:Nat)(ho:dR R w BE M v l)(hn:∀b,¬iE hp b):SH w0 M K w (bU hp i (.sr R v l)):=
 h.know i (fun _ h=>h) (ho.sub (fun b a _=>absurd a (hn b)) (fun b a _=>a.elim id (fun h=>absurd h (hn b))))
theorem SH.bJ{α:Type}{R:kD α}{v:Value}{l:List α}(h:SH w0 M K w hp)(i:Nat)(a:hp i=.rd R v l):bZ R w (SH.A M hp) v l:=by
 have:=h.ok i;rw[a]at this;exact this
theorem SH.srAt{α:Type}{R:kD α}{v:Value}{l:List α}(h:SH w0 M K w hp)(i:Nat)(a:hp i=.sr R v l):dR R w (iE hp) (SH.A M hp) v l:=by
 have:=h.ok i;rw[a]at this;exact this
theorem SH.bE{α:Type}{R:kD α}{E:TypeId}{v:Value}{l:List α}(h:SH w0 M K w hp)(i:Nat)(a:hp i=.own R E v l):cz R E w (SH.A M hp) v l:=by
 have:=h.ok i;rw[a]at this;exact this
theorem SH.yh{b:Nat}{cs:List Value}(h:SH w0 M K w hp)(i:Nat)(a:hp i=.blk b cs):∃E,w.heap[b]? =some (.cells cs.toArray E (0,0)):=by
 have:=h.ok i;rw[a]at this;exact this
theorem SH.ptAt{b o:Nat}{cs:List Value}(h:SH w0 M K w hp)(i:Nat)(c:hp i=.pt b o cs):∃cells E a,w.heap[b]? =some (.cells cells E a)/\(cells.toList.drop o).take cs.length=cs:=by
 have:=h.ok i;rw[c]at this;exact this.2
theorem SH.mpAt{b:Nat}{a:List (Int×Value)}(h:SH w0 M K w hp)(i:Nat)(c:hp i=.mp b a):Gd w b a:=by
 have:=h.ok i;rw[c]at this;exact this
theorem SH.grown(h:SH w0 M BE w hp):Grow w0 w:=h.keep
theorem SH.fresh(h:SH w0 M BE w hp)(i:Nat):∀b,(hp i).own' b->w0.heap.size<=b:=fun b a=>Nat.le_of_not_lt (fun c=>h.old i b a c)
theorem SH.kK{α:Type}{R:kD α}{v:Value}{l:List α}(h:SH w0 M K w hp)(i:Nat)(a:hp i=.rd R v l):dR R w BE (SH.A M hp) v l:=(h.bJ i a).src
theorem SH.fH{α:Type}{R:kD α}{v:Value}{l:List α}(h:SH w0 M K w hp)(i:Nat)(a:hp i=.sr R v l):dR R w BE (SH.A M hp) v l:=(h.srAt i a).src
theorem cz.src{α:Type}{R:kD α}{E:TypeId}{w:World}{A:BS}{v:Value}{l:List α}(h:cz R E w A v l):dR R w BE A v l:=by
  obtain⟨xs,d,c⟩:=h;rcases d.2 with⟨rfl,hn⟩|⟨g,cap,cur,rfl,e1,e2,e3,e4,e5,e6⟩
  · have:l=[]:=List.eq_nil_of_length_eq_zero hn;subst this;exact dR.nil
  · refine⟨some ⟨g,0,none⟩,cap,Z,e3,e4,(fun h=>by cases h),fun i a=>⟨g,0,cur,E,(0,0),Z,fun h=>h,e2,?_⟩⟩;have:=R.go (A':=A) (c i a) (bI.refl BE w) (fun _ h=>h.elim) fun b e _=>.inl e;rw[<-e6,List.drop_take,List.take_take,Nat.min_eq_left ?_]at this
    · rw[Nat.zero_add];exact this
    · have:(i+1)*R.sz<=l.length*R.sz:=Nat.mul_le_mul_right _ a;rw[Nat.add_mul]at this;omega
theorem SH.dJ{α:Type}{R:kD α}{E:TypeId}{v:Value}{l:List α}(h:SH w0 M K w hp)(i:Nat)(a:hp i=.own R E v l):dR R w BE (SH.A M hp) v l:=(h.bE i a).src
theorem aM:∀b,¬iE hno b:=fun _⟨_,h⟩=>h
theorem uK{α:Type}{R:kD α}{v:Value}{l:List α}{i:Nat}(h:∀b,¬iE hp b):∀b,¬iE (bU hp i (.rd R v l)) b:=by
  rintro b⟨j,a⟩;by_cases e:j=i
  · subst e;rw[df]at a;exact a
  · rw[fe e]at a;exact h b ⟨j,a⟩
theorem aO{α:Type}{R:kD α}{v:Value}{l:List α}{i:Nat}(h:∀b,¬iE hp b):∀b,¬iE (bU hp i (.sr R v l)) b:=by
  rintro b⟨j,a⟩;by_cases e:j=i
  · subst e;rw[df]at a;exact a
  · rw[fe e]at a;exact h b ⟨j,a⟩
end
open Go.RowKit
def gv(c:Bool)(v:Value):Value:=(bif c then [v]else []).headD undef
theorem dZ{c:Bool}{v:Value}(h:c=true):gv c v=v:=by rw[h];rfl
theorem gl{a b:Bool}(h:(a&&b)=true):a=true:=by cases a<;>simp_all
theorem gr{a b:Bool}(h:(a&&b)=true):b=true:=by cases a<;>simp_all
structure jX(P:Program)(T E:TypeId)(sz bytes:Nat):Prop where
 desc:P.underlying T=some (.slice E)
 info:∃i z,P.info? E=some i/\i.zero=some z/\i.size=sz/\i.bytes=bytes/\z.cells.size=sz
theorem OW{P:Program}{T:TypeId}{z:Option Value}{s:Nat}(h:(P.info? T).map (fun i=>(i.zero,i.size))=some (z,s)):∃i,P.info? T=some i/\i.zero=z/\i.size=s:=by
 cases hi:P.info? T with
 |none=>simp[hi]at h
 |some i=>simp[hi]at h;exact⟨i,Z,h.1,h.2⟩
def uH(w:World)(b:Nat)(o:Obj):World:={w with heap:=w.heap.setIfInBounds b o}
theorem tV{w:World}{b:Nat}{o:Obj}(h:b<w.heap.size):(uH w b o).heap[b]? =some o:=by simp[uH,h]
theorem bI.uH(w:World)(b:Nat)(o:Obj):bI (fun x=>x=b) w (uH w b o):=
 ⟨rfl,rfl,rfl,by simp[LX.uH],fun k a _=>by
  have:b≠k:=fun e=>a (by simp[e]);show(w.heap.setIfInBounds b o)[k]? =_;rw[Array.getElem?_setIfInBounds_ne this]⟩
theorem YM{w:World}{b o:Nat}{cs:Array Value}{E:TypeId}{c:Nat×Nat}{v:Value}(e:w.heap[b]? =some (.cells cs E c)):w.setCell ⟨b,o,none⟩ v=uH w b (.cells (cs.setIfInBounds o v) E c):=by
  simp only[World.setCell,uH];congr 1;have a:=iD e;apply Array.ext_getElem?;intro i;simp only[Array.getElem?_modify,Array.getElem?_setIfInBounds];by_cases d:b=i
  · subst d;rw[if_pos rfl,if_pos rfl,if_pos a,e];rfl
  · simp[d]
theorem Gf{w:World}{b:Nat}{cs a:Array Value}{E:TypeId}{d:Nat×Nat}(f:w.heap[b]? =some (.cells cs E d)):w.setRow b a=uH w b (.cells a E d):=by
  simp only[World.setRow,uH];congr 1;have c:=iD f;apply Array.ext_getElem?;intro i;simp only[Array.getElem?_modify,Array.getElem?_setIfInBounds];by_cases e:b=i
  · subst e;rw[if_pos rfl,if_pos rfl,if_pos c,f];rfl
  · simp[e]
def I9(cs:List Value)(o:Nat)(vs:List Value):List Value:=cs.take o++vs++cs.drop (o+vs.length)
def At(w:World)(b o:Nat)(cs:List Value):Prop:=∃cells E a,w.heap[b]? =some (.cells cells E a)/\(cells.toList.drop o).take cs.length=cs
section
variable{P:Program}{ops:Array Oper}{Q:Exit->Act->World->Prop}{n:Nat}{env:Nat->Value}{w w' w0:World}{M K:BS}{hp:Nat->Chunk}{rest:List Oper}
 {d:Option Nat} {op:Op} {ty:TypeId} {pos:String} {af:Array Edge} {v:Value} {g:Option (Nat×Bool)} {T:TypeId} {ρ:Operand->Value} {x y:Operand}
theorem oz{j dj:Nat}{b a:Bool}(c:Bool)(k:(ops[j]?).bind (·.dst)=some dj)(i:ev n env (.tmp dj)=gv c (.bool b))
    (p:(c&&(b==a))=true->(execOp (ev n env) ⟨d,op,ty,pos,af,none⟩).run P w=.ok (.value v) w) (h:WL P ops Q rest n (gm env d (gv (c&&(b==a)) v)) w):
    WL P ops Q (⟨d,op,ty,pos,af,some (j,a)⟩::rest) n env w:=by
  by_cases g:(c&&(b==a))=true
  · have m:=gl g;have e:=gr g;rw[dZ m]at i;rw[dZ g]at h;have r:b=a:=by simpa using e
    subst r;exact Ho k i<|F (p g) h
  · have f:(c&&(b==a))=false:=by simpa using g
    rw[f]at h;cases c with
    |true=>
      refine bN k i ?_ h;simpa using f
    |false=>
      have l:ev n env (.tmp dj)=undef:=i;have o:yielded ops (act n env).tmps j=none:=by
        unfold yielded;have e:(act n env).eval (.tmp dj)=undef:=by rw[gJ];exact l
        simp only[k,Option.bind_some];simp only[Act.eval]at e;cases h2:(act n env).tmps[dj]? with
        |none=>rfl
        |some x=>simp[Array.getD_eq_getD_getElem?,h2]at e;subst e;rfl
      have q:Region.wanted ⟨d,op,ty,pos,af,some (j,a)⟩ (yielded ops (act n env).tmps)=false:=by simp[Region.wanted,o]
      refine⟨?_⟩;unfold wpList;rw[if_neg (by rw[q];decide),CO];exact h.out
theorem aQ{j dj:Nat}{b a:Bool}(c:(ops[j]?).bind (·.dst)=some dj)(e:ev n env (.tmp dj)=.bool b)
    (f:(b==a)=true->(execOp (ev n env) ⟨d,op,ty,pos,af,none⟩).run P w=.ok (.value v) w) (h:WL P ops Q rest n (gm env d (gv (b==a) v)) w):
    WL P ops Q (⟨d,op,ty,pos,af,some (j,a)⟩::rest) n env w:=
  oz true c e (fun h=>f (by simpa using h)) (by simpa using h)
theorem fF{c a:Operand}{b p:Bool}(f:ρ c=.bool b)(h:ρ a=gv (b==false) (.bool p))(e:∀v,ρ (.const v)=v):(execOp ρ ⟨d,.pick c (.const (.bool true)) a,ty,pos,af,g⟩).run P w=.ok (.value (.bool (b||p))) w:=by
 cases b<;>simp_all[execOp,asBool,gv]
theorem gz{c a:Operand}{b p:Bool}(h:ρ c=.bool b)(f:ρ a=gv (b==true) (.bool p))(e:∀v,ρ (.const v)=v):(execOp ρ ⟨d,.pick c a (.const (.bool false)),ty,pos,af,g⟩).run P w=.ok (.value (.bool (b&&p))) w:=by
 cases b<;>simp_all[execOp,asBool,gv]
theorem lD{n:Nat}{env:Nat->Value}:∀v,ev n env (.const v)=v:=fun _=>rfl
theorem fK{T:TypeId}{b:Bool}(a:ρ x=.bool b):(execOp ρ ⟨d,.unOp .not T x,ty,pos,af,g⟩).run P w=.ok (.value (.bool !b)) w:=r_not a
theorem r_eqlb{T2:TypeId}{p q:Bool}(b:P.underlying T=some .bool)(a:ρ x=.bool p)(c:ρ y=.bool q):(execOp ρ ⟨d,.binOp .eql T x y T2,ty,pos,af,g⟩).run P w=.ok (.value (.bool (p==q))) w:=by
 simp[execOp,a,c,eqGuard,binOp,run_equal_bool w T p q b]
theorem YN{T2:TypeId}{p q:Bool}(b:P.underlying T=some .bool)(a:ρ x=.bool p)(c:ρ y=.bool q):(execOp ρ ⟨d,.binOp .neq T x y T2,ty,pos,af,g⟩).run P w=.ok (.value (.bool (p !=q))) w:=by
 simp[execOp,a,c,eqGuard,binOp,run_equal_bool w T p q b,bne]
theorem bV{z:Value}{b o:Nat}{cs:List Value}(h:SH w0 M K w hp)(i:Nat)(f:hp i=.blk b cs)(e:One P T z)(a:ρ x=.pointer (some ⟨b,o,none⟩))(c:cs[o]? =some v):
 (execOp ρ ⟨d,.load T x,ty,pos,af,g⟩).run P w=.ok (.value v) w:=let ⟨_,j⟩:=h.yh i f;r_load1 e a j (by simpa using c)
theorem r_loadN{zs vs:List Value}{b o:Nat}{cells:Array Value}{E:TypeId}{z:Nat×Nat}(f:uN P T zs)(y:ρ x=.pointer (some ⟨b,o,none⟩))(e:w.heap[b]? =some (.cells cells E z))(n:(cells.toList.drop o).take zs.length=vs)(r:vs.length=zs.length):
    (execOp ρ ⟨d,.load T x,ty,pos,af,g⟩).run P w=.ok (.value (.agg vs.toArray)) w:=by
  obtain⟨i,q,A,u⟩:=OW f.info;obtain⟨p,s,t⟩:=f.desc;have m:∀j v,vs[j]? =some v->w.cell? ((⟨b,o,none⟩:Addr).add j)=some v:=by
    intro j v a;have c:j<zs.length:=by
      rcases Nat.lt_or_ge j vs.length with h|h
      · omega
      · rw[List.getElem?_eq_none h]at a;cases a
    rw[<-n,List.getElem?_take,if_pos c,List.getElem?_drop]at a;by_cases k:j=0
    · subst k;simpa[Addr.add,World.cell?,e]using a
    · simpa[Addr.add,World.cell?,e,k]using a
  have l:=run_loadCells_list (P:=P) (w:=w) ⟨b,o,none⟩ vs m;rw[r]at l;cases p<;>simp at t<;>simp[execOp,Instr.loadAt,y,Instr.sureAddr,loadVar,isAgg,underlying,s,sizeOf,typeInfo,q,u,l]
theorem vV{zs vs:List Value}{b o:Nat}{cs:List Value}(h:SH w0 M K w hp)(i:Nat)(f:hp i=.blk b cs)(e:uN P T zs)(a:ρ x=.pointer (some ⟨b,o,none⟩))(c:(cs.drop o).take zs.length=vs)(k:vs.length=zs.length):
 (execOp ρ ⟨d,.load T x,ty,pos,af,g⟩).run P w=.ok (.value (.agg vs.toArray)) w:=let ⟨_,j⟩:=h.yh i f;r_loadN e a j (by simpa using c) k
theorem kV{z:Value}{b o k:Nat}{cs:List Value}(h:At w b o cs)(i:One P T z)(f:ρ x=.pointer (some ⟨b,o+k,none⟩))(a:cs[k]? =some v):
    (execOp ρ ⟨d,.load T x,ty,pos,af,g⟩).run P w=.ok (.value v) w:=by
  obtain⟨cells,E,m,j,l⟩:=h;refine r_load1 i f j ?_;have e:k<cs.length:=by
    rcases Nat.lt_or_ge k cs.length with h1|h1
    · exact h1
    · rw[List.getElem?_eq_none h1]at a;cases a
  have c:((cells.toList.drop o).take cs.length)[k]? =some v:=by rw[l];exact a
  rw[List.getElem?_take,if_pos e,List.getElem?_drop]at c;simpa using c
theorem WJ{α:Type}{l:List α}{o k m s:Nat}{cs:List α}(h:(l.drop o).take s=cs)(a:k+m<=s):(l.drop (o+k)).take m=(cs.drop k).take m:=by
 rw[<-h,List.drop_take,List.take_take,List.drop_drop,Nat.min_eq_left V]
theorem lC{zs vs:List Value}{b o k:Nat}{cs:List Value}(h:At w b o cs)(f:uN P T zs)(c:ρ x=.pointer (some ⟨b,o+k,none⟩))(e:(cs.drop k).take zs.length=vs)(l:vs.length=zs.length)(a:k+zs.length<=cs.length):
  (execOp ρ ⟨d,.load T x,ty,pos,af,g⟩).run P w=.ok (.value (.agg vs.toArray)) w:=by
 obtain⟨cells,E,m,j,i⟩:=h;exact r_loadN f c j (by rw[WJ i a];exact e) l
theorem fu{z:Value}{b o k:Nat}{cs:List Value}(h:SH w0 M K w hp)(i:Nat)(f:hp i=.pt b o cs)(e:One P T z)(a:ρ x=.pointer (some ⟨b,o+k,none⟩))(c:cs[k]? =some v):
 (execOp ρ ⟨d,.load T x,ty,pos,af,g⟩).run P w=.ok (.value v) w:=kV (h.ptAt i f) e a c
theorem Nf{zs vs:List Value}{b o k:Nat}{cs:List Value}(h:SH w0 M K w hp)(i:Nat)(j:hp i=.pt b o cs)(f:uN P T zs)(c:ρ x=.pointer (some ⟨b,o+k,none⟩))(e:(cs.drop k).take zs.length=vs)(l:vs.length=zs.length)(a:k+zs.length<=cs.length):
 (execOp ρ ⟨d,.load T x,ty,pos,af,g⟩).run P w=.ok (.value (.agg vs.toArray)) w:=lC (h.ptAt i j) f c e l a
theorem aL{b o k off:Nat}(e:dM P T k off)(n:ρ x=.pointer (some ⟨b,o,none⟩)):
  (execOp ρ ⟨d,.fieldAddr T x k,ty,pos,af,g⟩).run P w=.ok (.value (.pointer (some ⟨b,o+off,none⟩))) w:=by
 obtain⟨q,f,s,m,p,h,c⟩:=e.desc;obtain⟨i,a,l⟩:∃i,P.info? f.type=some i/\i.size=s+1:=by
  cases a:P.info? f.type with
  |none=>simp[a]at c
  |some i=>simp[a]at c;exact⟨i,Z,c⟩
 by_cases j:off=0<;>simp[execOp,Instr.fieldAt,underlying,m,p,n,Instr.sureAddr,fieldPlace,sizeOf,typeInfo,a,l,h,Addr.add,j]
theorem aS{a:Addr}(b:ρ x=.pointer (some a)):(execOp ρ ⟨d,.nilCheck x,ty,pos,af,g⟩).run P w=.ok (.value (.pointer (some a))) w:=by
 simp[execOp,b]
theorem gT{α:Type}{R:kD α}{E:TypeId}{c:Nat}{B A:BS}{l:List α}{b:World}(h:SliceOf P T E c)(e:ρ x=v)(f:dR R b B A v l):
  (execOp ρ ⟨d,.call {callee:=.builtin .len,args:= #[x],argTypes:= #[T]},ty,pos,af,g⟩).run P w=.ok (.value (.int .i64 l.length)) w:=by
 obtain⟨a,cap,rfl,_⟩:=f;exact oH h e
theorem GK{s:Str}(c:P.underlying T=some .string)(b:ρ x=bB s):
  (execOp ρ ⟨d,.call {callee:=.builtin .len,args:= #[x],argTypes:= #[T]},ty,pos,af,g⟩).run P w=.ok (.value (.int .i64 s.length)) w:=by
 have a:(⟨s.toArray⟩:ByteArray).size=s.length:=by simp[ByteArray.size]
 simp[execOp,resolve,invoke,builtin,Builtin.len_,b,bB,underlying,c,goInt,a]
theorem r_ix{α:Type}{R:kD α}{E:TypeId}{B A:BS}{l:List α}{k:Int}{a:α}{p:World}(s:SliceOf P T E R.sz)(u:dR R p B A v l)(r:0<=k)(f:l[k.toNat]? =some a):
    ∃b o cs,(∀(ρ:Operand->Value) x y w d ty pos af g,ρ x=v->ρ y=.int .i64 k->(execOp ρ ⟨d,.indexAddr T x y,ty,pos,af,g⟩).run P w=.ok (.value (.pointer (some ⟨b,o,none⟩))) w)/\¬B b/\At p b o cs/\R.rd p A cs a:=by
  have e:k.toNat<l.length:=by
    rcases Nat.lt_or_ge k.toNat l.length with h|h
    · exact h
    · rw[List.getElem?_eq_none h]at f;cases f
  obtain⟨a',cap,rfl,M,N,O,I⟩:=u;obtain⟨b,o,cells,c,L,rfl,K,G,m⟩:=I k.toNat e;obtain⟨i,j,C⟩:∃i,P.info? E=some i/\i.size=R.sz:=by
    have:=s.info;cases j:P.info? E with
    |none=>simp[j]at this
    |some i=>simp[j]at this;exact⟨i,Z,this⟩
  have q:l[k.toNat]=a:=by rw[List.getElem?_eq_getElem e]at f;exact Option.some.inj f
  rw[q]at m;refine⟨b,o+k.toNat*R.sz,_,?_,K,⟨cells,c,L,G,by rw[R.len m]⟩,m⟩;intro ρ x y w d ty pos af g J z;simp only[execOp,Instr.indexAt,J,z,asIntOf,underlying,sizeOf,typeInfo];have t:(⟨b,o,none⟩:Addr).add (k.toNat*R.sz)=⟨b,o+k.toNat*R.sz,none⟩:=by
    unfold Addr.add;split
    · next hz=>rw[hz];rfl
    · rfl
  have n:k<(l.length:Int):=by omega
  simp[s.desc,j,C,r,n,t]
theorem SH.pt(h:SH w0 M K w hp)(i:Nat){b o:Nat}{cs:List Value}(a:¬iE hp b)(c:At w b o cs):SH w0 M K w (bU hp i (.pt b o cs)):=
 h.know i (fun _ h=>h) ⟨a,c⟩
theorem Xk{i:Nat}{c:Chunk}(d:∀b,¬c.own' b):∀b,iE (bU hp i c) b->iE hp b:=by
  rintro b⟨j,a⟩;by_cases e:j=i
  · subst e;rw[df]at a;exact absurd a (d b)
  · rw[fe e]at a;exact⟨j,a⟩
theorem dR.up{α:Type}{R:kD α}{l:List α}{i:Nat}{c:Chunk}(h:bZ R w (SH.A M hp) v l)(d:∀b,¬c.own' b:=by exact fun _ h=>h):bZ R w (SH.A M (bU hp i c)) v l:=
 h.sub (fun b a _=>a.imp id (Xk d b)) (fun b a _=>a.imp id (Xk d b))
abbrev IxOk(P:Program)(T:TypeId)(v:Value)(k:Int)(p:Value):Prop:=∀(ρ:Operand->Value) x y w d ty pos af g,ρ x=v->ρ y=.int .i64 k->(execOp ρ ⟨d,.indexAddr T x y,ty,pos,af,g⟩).run P w=.ok (.value p) w
theorem SH.F7{α:Type}{R:kD α}{E:TypeId}{d:Nat}{l:List α}{k:Int}{a:α}(h:SH w0 M K w hp)(i j:Nat)(g:hp i=.rd R v l)(p:SliceOf P T E d)(r:R.sz=d)(c:0<=k)(f:l[k.toNat]? =some a):
  ∃b o cs,SH w0 M K w (bU hp j (.pt b o cs))/\R.rd w (SH.A M hp) cs a/\IxOk P T v k (.pointer (some ⟨b,o,none⟩)):=by
 subst r;obtain⟨b,o,cs,e,n,q,s⟩:=r_ix p (h.bJ i g) c f;exact⟨b,o,cs,h.pt j (fun m=>n<|.inr m) q,s,e⟩
theorem SH.yE{α:Type}{R:kD α}{E:TypeId}{d:Nat}{l:List α}{k:Int}{a:α}(h:SH w0 M K w hp)(i j:Nat)(g:hp i=.sr R v l)(n:SliceOf P T E d)(q:R.sz=d)(c:0<=k)(f:l[k.toNat]? =some a):
  ∃b o cs,SH w0 M K w (bU hp j (.pt b o cs))/\R.rd w (SH.A M hp) cs a/\IxOk P T v k (.pointer (some ⟨b,o,none⟩)):=by
 subst q;obtain⟨b,o,cs,e,m,p,r⟩:=r_ix n (h.srAt i g) c f;exact⟨b,o,cs,h.pt j m p,r,e⟩
def MQ(o:Option Value)(a:Int)(b:Nat):Prop:=(o=none/\a=b)\/o=some (.int .i64 a)
def cut{α:Type}(l:List α)(a b:Int):List α:=(l.take b.toNat).drop a.toNat
theorem r_slv{α:Type}{R:kD α}{E:TypeId}{a b:Int}{B A:BS}{l:List α}{I:World}(X:SliceOf P T E R.sz)(hv:dR R I B A v l)(ha:0<=a)(h:a<=b)(Q:b<=l.length):
    ∃u,(∀(ρ:Operand->Value) x (t k:Option Operand) w d ty pos af g,ρ x=v->MQ (t.map ρ) a 0->MQ (k.map ρ) b l.length->(execOp ρ ⟨d,.slice T x t k none,ty,pos,af,g⟩).run P w=.ok (.value u) w)/\dR R I B A u (cut l a b)/\(∀(s:World) (p r:BS) (n:List α),dR R s p r v n->n.length=l.length->dR R s p r u (cut n a b)):=by
  obtain⟨a,rfl⟩:=Int.eq_ofNat_of_zero_le ha;obtain⟨b,rfl⟩:=Int.eq_ofNat_of_zero_le (by omega:0<=b);have h:a<=b:=by omega
  have Q:b<=l.length:=by omega
  obtain⟨ad,cap,rfl,h1,S,G,L⟩:=hv;obtain⟨i,K,N⟩:∃i,P.info? E=some i/\i.size=R.sz:=by
    have:=X.info;cases k:P.info? E with
    |none=>simp[k]at this
    |some i=>simp[k]at this;exact⟨i,Z,this⟩
  have q:b<=cap:=by omega
  refine⟨.slice (if cap=a then ad else ad.map (·.add (a*R.sz))) (b-a)<|cap-a,fun ρ x t k w d ty pos af g hx y C=>?_,?_⟩
  · have J:(Instr.sliceBounds true l.length cap (t.map ρ) (k.map ρ) none).run P w=.ok (a,b,cap) w:=by
      have h0:(0:Int)<=(a:Int):=Int.natCast_nonneg a;have a2:(0:Int)<=(b:Int):=Int.natCast_nonneg b;have a5:(a:Int)<=(b:Int):=by omega
      have a6:(b:Int)<=(cap:Int):=by omega
      rcases y with⟨m,e2⟩|m<;>rcases C with⟨f1,f2⟩|f1
      · obtain rfl:a=0:=by omega
        obtain rfl:b=l.length:=by omega
        simp[Instr.sliceBounds,m,f1]
      · obtain rfl:a=0:=by omega
        simp[Instr.sliceBounds,m,f1,Instr.sliceBound,asIntOf,q]
      · obtain rfl:b=l.length:=by omega
        simp[Instr.sliceBounds,m,f1,Instr.sliceBound,asIntOf,h]
      · simp[Instr.sliceBounds,m,f1,Instr.sliceBound,asIntOf,h,q]
    simp only[execOp,Instr.sliceAt,Instr.slice,underlying,hx];simp[X.desc,J,sizeOf,typeInfo,K,N]
  suffices e:∀(s:World) (p r:BS) (n:List α),dR R s p r (.slice ad l.length cap) n->n.length=l.length->dR R s p r (.slice (if cap=a then ad else ad.map (·.add (a*R.sz))) (b-a) (cap-a)) (cut n a b)from⟨e _ _ _ l ⟨ad,cap,Z,h1,S,G,L⟩ Z,e⟩
  · intro I B A l⟨a1,a0,e0,h1,S,G,L⟩a4;obtain⟨z,a3,M⟩:=Value.slice.inj e0;subst z;subst M;have Q:b<=l.length:=by omega
    have f:(cut l a b).length=b-a:=by simp[cut];omega
    refine⟨_,cap-a,by rw[f],by rw[f];omega,by omega,?_,?_⟩
    · intro hn;split at hn
      · omega
      · cases ad with
        |none=>have:=G Z;omega
        |some x=>simp at hn
    · intro j O;rw[f]at O;obtain⟨bb,o,cells,c,fz,m,e2,e3,e4⟩:=L (a+j) V;subst m;refine⟨bb,o+a*R.sz,cells,c,fz,?_,e2,e3,?_⟩
      · rw[if_neg V];simp only[Option.map_some,Option.some.injEq];unfold Addr.add;split
        · next hz=>rw[hz];rfl
        · rfl
      · have:(cut l a b)[j]'(by rw[f];exact O)=l[a+j]'V:=by simp[cut]
        rw[this];rw[show o+a*R.sz+j*R.sz=o+(a+j)*R.sz by rw[Nat.add_mul,Nat.add_assoc]];exact e4
theorem r_sl{α:Type}{R:kD α}{E:TypeId}{a b:Int}{B A:BS}{l:List α}{h:World}(o:SliceOf P T E R.sz)(k:dR R h B A v l)(i:0<=a)(c:a<=b)(m:b<=l.length):
  ∃u,(∀(ρ:Operand->Value) x (f e:Option Operand) w d ty pos af g,ρ x=v->MQ (f.map ρ) a 0->MQ (e.map ρ) b l.length->(execOp ρ ⟨d,.slice T x f e none,ty,pos,af,g⟩).run P w=.ok (.value u) w)/\dR R h B A u (cut l a b):=
 let ⟨u,j,n,_⟩:=r_slv o k i c m;⟨u,j,n⟩
abbrev SlOk(P:Program)(T:TypeId)(v:Value)(a b:Int)(n:Nat)(u:Value):Prop:=∀(ρ:Operand->Value) x (e c:Option Operand) w d ty pos af g,ρ x=v->MQ (e.map ρ) a 0->MQ (c.map ρ) b n->(execOp ρ ⟨d,.slice T x e c none,ty,pos,af,g⟩).run P w=.ok (.value u) w
theorem SH.slR{α:Type}{R:kD α}{E:TypeId}{d:Nat}{a b:Int}{l:List α}(h:SH w0 M K w hp)(i j:Nat)(g:hp i=.rd R v l)(n:SliceOf P T E d)(o:R.sz=d)(e:0<=a)(c:a<=b)(k:b<=l.length):
  ∃u,SH w0 M K w (bU hp j (.rd R u (cut l a b)))/\SlOk P T v a b l.length u:=by
 subst o;obtain⟨u,f,m⟩:=r_sl n (h.bJ i g) e c k;exact⟨u,h.aJ j m,f⟩
theorem SH.slS{α:Type}{R:kD α}{E:TypeId}{d:Nat}{a b:Int}{l:List α}(h:SH w0 M K w hp)(i j:Nat)(g:hp i=.sr R v l)(n:SliceOf P T E d)(o:R.sz=d)(e:0<=a)(c:a<=b)(k:b<=l.length):
  ∃u,SH w0 M K w (bU hp j (.sr R u (cut l a b)))/\SlOk P T v a b l.length u:=by
 subst o;obtain⟨u,f,m⟩:=r_sl n (h.srAt i g) e c k;exact⟨u,h.know j (fun _ h=>h) m,f⟩
theorem r_allocN{zs:List Value}(a:uN P T zs):(execOp ρ ⟨d,.alloc T,ty,pos,af,g⟩).run P w=.ok (.value (.pointer (some ⟨w.heap.size,0,none⟩))) (w.alloc (.cells zs.toArray T)):=by
 obtain⟨i,c,b,e⟩:=OW a.info;simp[execOp,Instr.alloc,zeroValue,typeInfo,c,b,newVar,newRow,Value.cells,World.alloc,-World.alloc_eq]
theorem r_alloc1{z:Value}(a:One P T z):(execOp ρ ⟨d,.alloc T,ty,pos,af,g⟩).run P w=.ok (.value (.pointer (some ⟨w.heap.size,0,none⟩))) (w.alloc (.cells #[z] T)):=by
 obtain⟨i,c,b,e⟩:=OW a.info;simp[execOp,Instr.alloc,zeroValue,typeInfo,c,b,newVar,newRow,a.cell,World.alloc,-World.alloc_eq]
theorem r_box(a:ρ x=v):(execOp ρ ⟨d,.box T x,ty,pos,af,g⟩).run P w=.ok (.value (.pointer (some ⟨w.heap.size,0,none⟩))) (w.alloc (.cells v.cells T)):=by
 simp[execOp,Instr.box,newVar,newRow,a,World.alloc,-World.alloc_eq]
theorem SH.newB(h:SH w0 M K w hp)(i:Nat)(cs:List Value)(T:TypeId):SH w0 M K (w.alloc (.cells cs.toArray T)) (bU hp i (.blk w.heap.size cs)):=
 h.learn i (Grow.alloc _ _) (fun b a=>Nat.le_of_eq a.symm) ⟨T,LV _ _⟩
theorem aZ{zs:List Value}(h:SH w0 M K w hp)(i:Nat)(a:uN P T zs)(k:∀w' b,SH w0 M K w' (bU hp i (.blk b zs))->WL P ops Q rest n (gm env d (.pointer (some ⟨b,0,none⟩))) w'):WL P ops Q (⟨d,.alloc T,ty,pos,af,none⟩::rest) n env w:=
 F (r_allocN a) (k _ _ (h.newB i zs T))
theorem wK{z:Value}(h:SH w0 M K w hp)(i:Nat)(a:One P T z)(k:∀w' b,SH w0 M K w' (bU hp i (.blk b [z]))->WL P ops Q rest n (gm env d (.pointer (some ⟨b,0,none⟩))) w'):WL P ops Q (⟨d,.alloc T,ty,pos,af,none⟩::rest) n env w:=
 F (r_alloc1 a) (k _ _ (h.newB i [z] T))
theorem gH{cs:List Value}(h:SH w0 M K w hp)(i:Nat)(a:ev n env x=v)(c:v.cells=cs.toArray)(k:∀w' b,SH w0 M K w' (bU hp i (.blk b cs))->WL P ops Q rest n (gm env d (.pointer (some ⟨b,0,none⟩))) w'):WL P ops Q (⟨d,.box T x,ty,pos,af,none⟩::rest) n env w:=
 F (by rw[r_box a,c]) (k _ _ (h.newB i cs T))
theorem OX{z:Value}{b o:Nat}{cs:Array Value}{E:TypeId}(j:One P T z)(f:ρ x=.pointer (some ⟨b,o,none⟩))(c:w.heap[b]? =some (.cells cs E (0,0)))(ho:o<cs.size)(n:ρ y=v)(e:v.oneCell'=true):
  (execOp ρ ⟨d,.store T x y,ty,pos,af,g⟩).run P w=.ok .skip (uH w b (.cells (cs.setIfInBounds o v) E (0,0))):=by
 obtain⟨i,k,p,l⟩:=OW j.info;have m:w.cell? ⟨b,o,none⟩=some cs[o]:=by simp[World.cell?,c,ho]
 have h:w.frozen? ⟨b,o,none⟩=false:=by simp[World.frozen?,c]
 have a:v.cells= #[v]:=by cases v<;>first|rfl|simp[Value.oneCell']at e
 rw[<-YM c];simp only[execOp,Instr.storeAt,f,n,Instr.sureAddr,storeVar,a,sizeOf,typeInfo];simp[k,l,storeCells,run_store _ _ _ _ _ e,m,h,Addr.add]
theorem OY{zs vs:List Value}{b o:Nat}{cs:List Value}{E:TypeId}(f:uN P T zs)(c:ρ x=.pointer (some ⟨b,o,none⟩))(a:w.heap[b]? =some (.cells cs.toArray E (0,0)))(l:ρ y=.agg vs.toArray)(h:vs.length=zs.length)(ho:o+vs.length<=cs.length)(e:∀v∈vs,v.oneCell'=true):
  (execOp ρ ⟨d,.store T x y,ty,pos,af,g⟩).run P w=.ok .skip (uH w b (.cells (I9 cs o vs).toArray E (0,0))):=by
 obtain⟨i,j,m,k⟩:=OW f.info;have:=run_storeCells_at (P:=P) b o E vs 0 cs.toArray w a (by simpa using ho) e;simp only[execOp,Instr.storeAt,c,l,Instr.sureAddr,storeVar,Value.cells,sizeOf,typeInfo];simp[j,k,h,this,Gf a,I9]
theorem SH.putB{b:Nat}{cs:List Value}(h:SH w0 M K w hp)(i:Nat)(d:hp i=.blk b cs)(a:List Value)(E:TypeId):SH w0 M K (uH w b (.cells a.toArray E (0,0))) (bU hp i (.blk b a)):=by
 have e:=h.yh i d;obtain⟨f,e⟩:=e;exact h.step i (bI.uH _ _ _) (fun x c _=>by rw[d];exact c) (fun x c _=>by rw[d];exact c) ⟨E,tV (iD e)⟩
theorem gK{z:Value}{b o:Nat}{cs:List Value}(h:SH w0 M K w hp)(i:Nat)(a:List Value)(e:hp i=.blk b cs)(j:One P T z)(f:ev n env x=.pointer (some ⟨b,o,none⟩))(m:ev n env y=v)(ho:cs.set o v=a)(c:Nat.blt o cs.length=true)(g:v.oneCell'=true)
  (k:∀w',SH w0 M K w' (bU hp i (.blk b a))->WL P ops Q rest n (gm env d undef) w'):
  WL P ops Q (⟨d,.store T x y,ty,pos,af,none⟩::rest) n env w:=by
 obtain⟨E,l⟩:=h.yh i e;refine yS (OX j f l (by rw[Nat.blt_eq]at c;simpa using c) m g) (k _ ?_);have:=h.putB i e a E;subst ho;simpa using this
theorem w_stN{zs vs:List Value}{b o:Nat}{cs:List Value}(h:SH w0 M K w hp)(i:Nat)(a:List Value)(e:hp i=.blk b cs)(m:uN P T zs)(p:ev n env x=.pointer (some ⟨b,o,none⟩))(l:ev n env y=.agg vs.toArray)(j:vs.length=zs.length)(ho:I9 cs o vs=a)(g:Nat.ble (o+vs.length) cs.length=true)(f:∀v∈vs,v.oneCell'=true)
  (k:∀w',SH w0 M K w' (bU hp i (.blk b a))->WL P ops Q rest n (gm env d undef) w'):
  WL P ops Q (⟨d,.store T x y,ty,pos,af,none⟩::rest) n env w:=by
 obtain⟨E,c⟩:=h.yh i e;subst ho;exact yS (OY m p c l j (Nat.le_of_ble_eq_true g) f)<|k _<|h.putB i e _ E
def OZ(P:Program)(f:FuncId):Prop:=∃a,P.funcs[f]? =some a/\(a.name== "runtime.NumGoroutine")=false/\a.body.isNone=false
theorem r_call{f:FuncId}{first captured:Array Value}{xs:Array Operand}{l:Array TypeId}(j:OZ P f)(k:ρ x=.func (.func f) first captured):
  (execOp ρ ⟨d,.call {callee:=.value x,args:=xs,argTypes:=l},ty,pos,af,g⟩).run P w=.ok (.enter f (first++xs.map ρ++captured)) w:=by
 obtain⟨c,i,m,h⟩:=j;have b:¬c.name= "runtime.NumGoroutine" :=by simpa using m
 have a:¬c.body=none:=fun e=>by simp[e]at h
 simp[execOp,resolve,k,Deferred.ofValue,invoke,callFunc,i,b,a]
theorem bT{f:FuncId}{first captured:Array Value}{xs:Array Operand}{c:Array TypeId}{args:List Value}{R:Ending->World->Prop}(a:OZ P f)(b:ev n env x=.func (.func f) first captured)
  (g:first.toList++xs.toList.map (ev n env)++captured.toList=args) (i:Calls P f args.toArray w R)
  (h:∀e w',R e w'->∃v,e=.returned v/\WL P ops Q rest n (gm env d v) w'):
  WL P ops Q (⟨d,.call {callee:=.value x,args:=xs,argTypes:=c},ty,pos,af,none⟩::rest) n env w:=by
 refine wl_enter (r_call a b) ?_ h;have:first++xs.map (ev n env)++captured=args.toArray:=by
  rw[<-g];apply Array.ext';simp
 rw[this];exact i
theorem dN{i:Nat}{vs:List Value}(a:ρ x=.tuple vs.toArray)(b:vs[i]? =some v):(execOp ρ ⟨d,.extract x i,ty,pos,af,g⟩).run P w=.ok (.value v) w:=by
 simp[execOp,Instr.extract,a,b]
theorem uO{f:FuncId}{first captured:Array Operand}{c1 c2:List Value}(a:first.toList.map ρ=c1)(e:captured.toList.map ρ=c2):
  (execOp ρ ⟨d,.makeFunc (.func f) first captured,ty,pos,af,g⟩).run P w=.ok (.value (.func (.func f) c1.toArray c2.toArray)) w:=by
 have c:first.map ρ=c1.toArray:=by rw[<-a];apply Array.ext';simp
 have b:captured.map ρ=c2.toArray:=by rw[<-e];apply Array.ext';simp
 simp[execOp,Instr.makeFunc,c,b]
theorem calls_start{f:FuncId}{a:Func}{c:Code}{args:List Value}{R:Ending->World->Prop}{n:Nat}
  (b:P.funcs[f]? =some a) (d:a.body=some c) (hn:a.ntmps=n) (e:args.length<=n)
  (h:WC P c (bodyPost P a R) n (QB args) w):Calls P f args.toArray w R:=by
 refine calls_of_wp b d ?_;rw[hn,act_init n args e];exact h.out
theorem aW{a:Func}{R:Ending->World->Prop}{t:Tmp}(c:a.results= #[.tmp t])(b:ev n env (.tmp t)=v)(h:R (.returned v) w):bodyPost P a R .ret (act n env) w:=by
 refine⟨Z,v,?_,h⟩;rw[results_tmp c];have:=congrFun (gJ n env)<|.tmp t;rw[b]at this;exact congrArg (fun v=>Result.ok v w) this
theorem fin0{a:Func}{R:Ending->World->Prop}(b:a.results= #[])(h:R (.returned (.tuple #[])) w):bodyPost P a R .ret (act n env) w:=⟨rfl,_,results_none b _ _ _,h⟩
theorem O0{a:Func}{R:Ending->World->Prop}(b:a.results= #[])(h:R (.returned (.tuple #[])) w):bodyPost P a R .normal (act n env) w:=⟨rfl,_,results_none b _ _ _,h⟩
theorem vX{c:Func}{R:Ending->World->Prop}{t u:Tmp}{v1 v2:Value}(e:c.results= #[.tmp t,.tmp u])(d:ev n env (.tmp t)=v1)(f:ev n env (.tmp u)=v2)(h:R (.returned (.tuple #[v1,v2])) w):bodyPost P c R .ret (act n env) w:=by
 refine⟨Z,_,?_,h⟩;rw[results_tmp2 e];have b:=congrFun (gJ n env)<|.tmp t;have a:=congrFun (gJ n env)<|.tmp u;rw[d]at b;rw[f]at a;simp only[Act.eval]at b a;rw[b,a]
end
section
variable{α β σ ρ:Type}{r:ρ}{G:Prop}
theorem iG{b:Bool}{X a:ρ}(c:cond b X a=r)(d:b=true->X=r->G)(e:b=false->a=r->G):G:=by
  cases b
  · exact e Z c
  · exact d Z c
theorem az{o:Option α}{f:α->Option β}{r:β}(h:o.bind f=some r):∃x,o=some x/\f x=some r:=by
 cases o with
 |none=>cases h
 |some x=>exact⟨x,rfl,h⟩
def iC(p:Prop) [Decidable p](x:Option β):Option β:=if p then x else none
theorem bC{p:Prop} [Decidable p]{x:Option β}{r:β}(h:iC p x=some r):p/\x=some r:=by
  unfold iC at h;by_cases hp:p
  · rw[if_pos hp]at h;exact⟨hp,h⟩
  · rw[if_neg hp]at h;cases h
def idx(l:List α)(k:Int):Option α:=if 0<=k then l[k.toNat]? else none
theorem aF{l:List α}{k:Int}{x:α}(h:idx l k=some x):0<=k/\l[k.toNat]? =some x:=by
  unfold idx at h;by_cases hp:0<=k
  · rw[if_pos hp]at h;exact⟨hp,h⟩
  · rw[if_neg hp]at h;cases h
def sub?(l:List α)(a b:Int):Option (List α):=if 0<=a/\a<=b/\b<=l.length then some (cut l a b)else none
theorem O1{l:List α}{a b:Int}{x:List α}(h:sub? l a b=some x):x=cut l a b/\0<=a/\a<=b/\b<=l.length:=by
  unfold sub? at h;by_cases hp:0<=a/\a<=b/\b<=l.length
  · rw[if_pos hp]at h;cases h;exact⟨Z,hp⟩
  · rw[if_neg hp]at h;cases h
def lK(x:Int):Prop:= -9223372036854775808<=x/\x<=9223372036854775807
def i64b:Int->Bool
 | .ofNat n=>Nat.ble n 9223372036854775807
 | .negSucc n=>Nat.ble n 9223372036854775807
theorem i64b_iff{x:Int}:i64b x=true↔lK x:=by
 unfold lK;cases x with
 |ofNat n=>simp[i64b,Nat.ble_eq];omega
 |negSucc n=>simp[i64b,Nat.ble_eq];omega
instance (x:Int):Decidable (lK x):=decidable_of_iff (i64b x=true) i64b_iff
theorem lK.mk{x:Int}(b: -9223372036854775808<=x)(a:x<=9223372036854775807):lK x:=⟨b,a⟩
def each(body:α->σ->(σ->ρ)->ρ)(k:σ->ρ):List α->σ->ρ
 |[],s=>k s
 |x::r,s=>body x s (each body k r)
def fO(body:Int->α->σ->(σ->ρ)->ρ)(k:σ->ρ):Int->List α->σ->ρ
 |_,[],s=>k s
 |i,x::r,s=>body i x s (fO body k (i+1) r)
def upto(body:Int->σ->(σ->ρ)->ρ)(k:σ->ρ):Int->Nat->σ->ρ
 |_,0,s=>k s
 |i,m+1,s=>body i s (upto body k (i+1) m)
def again(body:σ->(σ->Option β)->Option β):Nat->σ->Option β
 |0,_=>none
 |n+1,s=>body s (again body n)
end
section
variable{P:Program}{Q:Exit->Act->World->Prop}{n:Nat}{env:Nat->Value}{w:World}{x y:Code}
theorem aD{ρ:Type}{r X a:ρ}{c:Operand}{b:Bool}(d:cond b X a=r)(f:ev n env c=.bool b)(e:b=true->X=r->WC P x Q n env w)(g:b=false->a=r->WC P y Q n env w):
 WC P (Code.cond c x y) Q n env w:=eD f (fun h=>e h (by rw[h]at d;exact d)) (fun h=>g h (by rw[h]at d;exact d))
def JP{σ:Type}(n:Nat)(mod:Nat->Bool)(QB:Nat->Value)(live:σ->List (Nat×Value))(J:σ->World->Prop):Act->World->Prop:=
 fun a' w'=>∃s e,a'=act n e/\F6 mod e QB/\Holds e (live s)/\J s w'
def JL{σ:Type}(n:Nat)(mod:Nat->Bool)(QB:Nat->Value)(live:σ->List (Nat×Value))(J:σ->World->Prop)(a:σ->Nat)(b:σ):Act->World->Prop:=
 fun a' w'=>∃s e,a'=act n e/\F6 mod e QB/\Holds e (live s)/\J s w'/\a s<a b
theorem eZ{σ:Type}{c:Code}(mod:Nat->Bool)(live:σ->List (Nat×Value))(J:σ->World->Prop)(e:σ->Nat)(b:σ)
 (h:Holds env (live b)) (g:J b w)
 (a:∀s d f,J s d->WC P c (Exit.then (JL n mod env live J e s) Q) n (WI (hav mod f env) (live s)) d):
 WC P (Code.loop c) Q n env w:=wc_loop mod live J e b h g a
theorem bR{σ:Type}(mod:Nat->Bool)(live:σ->List (Nat×Value))(J:σ->World->Prop)
  (i:∀s w c,J s w->WC P y Q n (WI (hav mod c env) (live s)) w)
  (h:WC P x (Exit.then (JP n mod env live J) Q) n env w):WC P (Code.seq x y) Q n env w:=by
 refine aC ⟨wp_mono h.out fun d a w h=>?_⟩;cases d with
 |normal=>
  obtain⟨s,e,rfl,b,f,g⟩:=h;have:=i s w e g;rw[hav_self b,QC _ f]at this;exact this.out
 |_=>exact h
end
section
variable{K:Act->World->Prop}{Q:Exit->Act->World->Prop}{a:Act}{w:World}{i j:Nat}
theorem ah(h:K a w):Exit.then K Q .normal a w:=h
theorem ai(h:Q .ret a w):Exit.then K Q .ret a w:=h
theorem bW(h:Q (.exit i) a w):Exit.then K Q (.exit i) a w:=h
theorem ak(h:Q .normal a w):Exit.inBlock i Q .normal a w:=h
theorem aA(h:Q .ret a w):Exit.inBlock i Q .ret a w:=h
theorem fw(h:Q .normal a w):Exit.inBlock i Q (.exit i) a w:=by simp only[Exit.inBlock,if_true];exact h
theorem ES(hn:¬j=i)(h:Q (.exit j) a w):Exit.inBlock i Q (.exit j) a w:=by simp only[Exit.inBlock,if_neg hn];exact h
end
theorem F6.os{mod:Nat->Bool}{e a:Nat->Value}{d:Nat}{v:Value}(b:mod d=true)(h:F6 mod e a):F6 mod (gm e (some d) v) a:=F6.upd b h
theorem F6.on{mod:Nat->Bool}{e a:Nat->Value}{v:Value}(h:F6 mod e a):F6 mod (gm e none v) a:=h
theorem F6.uc{mod:Nat->Bool}{e a:Nat->Value}{d:Nat}{v:Value}{l:List (Nat×Value)}(b:mod d=true)(h:F6 mod (WI e l) a):F6 mod (WI e ((d,v)::l)) a:=F6.upd b h
theorem F6.un{mod:Nat->Bool}{e a:Nat->Value}(h:F6 mod e a):F6 mod (WI e []) a:=h
def inl(l:List Nat)(i:Nat):Bool:=match l with|[]=>false|a::r=>bif Nat.beq i a then true else inl r i
def subl(l m:List Nat):Bool:=match l with|[]=>true|a::r=>bif inl m a then subl r m else false
theorem subl_inl{m:List Nat}:∀{l:List Nat},subl l m=true->∀i,inl l i=true->inl m i=true
 |[],_,i,h=>by simp[inl]at h
 |a::r,hs,i,h=>by
  unfold subl at hs;unfold inl at h;cases ha:inl m a with
  |false=>simp[ha]at hs
  |true=>
   simp only[ha,cond_true]at hs;cases hb:Nat.beq i a with
   |true=>have:=Nat.eq_of_beq_eq_true hb;subst this;exact ha
   |false=>simp only[hb,cond_false]at h;exact subl_inl hs i h
theorem F6.hin{l m:List Nat}{j e a:Nat->Value}(c:subl l m=true)(h:F6 (inl m) e a):F6 (inl m) (LX.hav (inl l) j e) a:=fun i b=>by
 have:inl l i=false:=by
  cases hc:inl l i with
  |false=>rfl
  |true=>rw[subl_inl c i hc]at b;cases b
 simp only[LX.hav,this,cond_false];exact h i b
open Go.RowKit
theorem dR.row{α:Type}{R:kD α}{w:World}{B A:BS}{v:Value}{l:List α}(h:dR R w B A v l):
    (v=.slice none 0 0/\l=[])\/∃(a:Addr) (cap:Nat) (news:List Value),v=.slice (some a) l.length cap/\news.length=l.length*R.sz/\(∀j u,news[j]? =some u->w.cell? (a.add j)=some u)/\(∀u∈news,u.oneCell'=true)/\
      ∀i (h:i<l.length),R.rd w A ((news.drop (i*R.sz)).take R.sz) l[i]:=by
  obtain⟨a,cap,rfl,J,K,G,x⟩:=h;cases a with
  |none=>
    have C:=G Z;subst C;have q:l=[]:=List.eq_nil_of_length_eq_zero V;subst q;exact .inl ⟨Z,Z⟩
  |some a=>
    right;by_cases q:l.length=0
    · have:l=[]:=List.eq_nil_of_length_eq_zero q;subst this;exact⟨a,cap,[],Z,by simp,fun j u h=>by simp at h,fun u h=>by simp at h,fun i h=>absurd h<|Nat.not_lt_zero _⟩
    · obtain⟨b,o,cells,E,P,r,O,t,L⟩:=x 0 V;cases r;have e:∀i (d:i<l.length),R.rd w A ((cells.toList.drop<|o+i*R.sz).take R.sz) l[i]:=by
        intro i d;obtain⟨b',N,n,I,z,r,_,m,p⟩:=x i d;cases r;rw[t]at m;cases m;exact p
      have c:=R.len<|e (l.length-1) V;simp only[List.length_take,List.length_drop,Array.length_toList]at c;have k:=R.pos;have s:o+l.length*R.sz<=cells.size:=by
        have M:l.length*R.sz=(l.length-1)*R.sz+R.sz:=by
          conv=>lhs;rw[show l.length=(l.length-1)+1 by omega]
          rw[Nat.add_mul,Nat.one_mul]
        omega
      refine⟨⟨b,o,none⟩,cap,(cells.toList.drop o).take<|l.length*R.sz,Z,?_,?_,?_,?_⟩
      · simp only[List.length_take,List.length_drop,Array.length_toList];omega
      · intro j u f;rw[List.getElem?_take]at f;split at f
        · rw[List.getElem?_drop]at f;have y:(⟨b,o,none⟩:Addr).add j=⟨b,o+j,none⟩:=by unfold Addr.add;split<;>simp_all
          rw[y];simpa[World.cell?,t]using f
        · cases f
      · intro u f;obtain⟨j,g⟩:=List.getElem?_of_mem f;rw[List.getElem?_take]at g;split at g
        · next hlt=>
          rw[List.getElem?_drop]at g;have d:j / R.sz<l.length:=Nat.div_lt_of_lt_mul (by rw[Nat.mul_comm];exact hlt);refine R.one (e (j / R.sz) d) u ?_;refine List.mem_of_getElem? (i:=j%R.sz) ?_;rw[List.getElem?_take,if_pos (Nat.mod_lt _ k),List.getElem?_drop];rw[show o+j / R.sz*R.sz+j%R.sz=o+j by rw[Nat.add_assoc,Nat.div_add_mod' j R.sz]];exact g
        · cases g
      · intro i d;rw[List.drop_take,List.take_take,List.drop_drop,Nat.min_eq_left]
        · exact e i d
        · have:(i+1)*R.sz<=l.length*R.sz:=Nat.mul_le_mul_right _ d;rw[Nat.add_mul]at this;omega
theorem Xl(c:List Value):∀(cells:Array Value) (o:Nat),o+c.length<=cells.size->
  (c.zipIdx.foldl (fun cs(p:Value×Nat)=>cs.setIfInBounds (o+p.2) p.1) cells).toList=I9 cells.toList o c:=by
 suffices a:∀(k:Nat) (cells:Array Value) (o:Nat),o+k+c.length<=cells.size->
   ((c.zipIdx k).foldl (fun cs(p:Value×Nat)=>cs.setIfInBounds (o+p.2) p.1) cells).toList=I9 cells.toList (o+k) c by
  intro cells o h;have:=a 0 cells o (by simpa using h);simpa using this
 induction c with
 |nil=>intro k cells o h;simp[I9]
 |cons x r ih=>
  intro k cells o h;simp only[List.length_cons]at h;rw[List.zipIdx_cons,List.foldl_cons,ih (k+1) _ o (by simp;omega)];simp only[Array.toList_setIfInBounds,I9];rw[show o+(k+1)=o+k+1 by omega];apply List.ext_getElem?;intro i;simp only[List.append_assoc,List.getElem?_append,List.length_take,List.length_set,Array.length_toList,List.getElem?_take,List.getElem?_set,List.getElem?_drop,List.length_cons,List.getElem?_cons]
  grind
theorem Ub{a:Nat}(j:0<a):∀(vs:List Value) (k:Nat) (cells:Array Value),(∀v∈vs,v.cells.size=a)->(k+vs.length)*a<=cells.size->
    ∃out,Instr.fill (fun i=>some (i*a,a)) cells ((vs.zipIdx k).map fun p=>(p.2,p.1))=some out/\out.toList=I9 cells.toList (k*a) (vs.map fun v=>v.cells.toList).flatten
  |[],k,cells,_,_=>⟨cells,rfl,by simp[I9]⟩
  |v::r,k,cells,hv,hs=>by
    have f:v.cells.size=a:=hv v zq3;simp only[List.length_cons]at hs;have d:(k+1+r.length)*a<=cells.size:=by rw[show k+1+r.length=k+(r.length+1) by omega];exact hs
    have l:k*a+a<=cells.size:=by
      have:(k+1)*a<=(k+1+r.length)*a:=Nat.mul_le_mul_right _ V;rw[Nat.add_mul,Nat.one_mul]at this;omega
    have m:=Xl v.cells.toList cells (k*a) (by rw[Array.length_toList,f];exact l);let c2:=v.cells.zipIdx.foldl (fun cs(p:Value×Nat)=>cs.setIfInBounds (k*a+p.2) p.1) cells;have b:c2.toList=I9 cells.toList (k*a) v.cells.toList:=by
      rw[<-m];show(v.cells.zipIdx.foldl _ cells).toList=_;rw[<-Array.foldl_toList,Array.toList_zipIdx]
    have h:c2.size=cells.size:=by
      have:=congrArg List.length b;simp only[I9,List.length_append,List.length_take,List.length_drop,Array.length_toList]at this;omega
    obtain⟨out,e,g⟩:=Ub j r (k+1) c2 (fun x n=>hv x (by simp[n])) (by rw[h];exact d);refine⟨out,?_,?_⟩
    · rw[List.zipIdx_cons,List.map_cons];unfold Instr.fill;simp only[f,ne_eq,not_true_eq_false,decide_false,Bool.false_or];rw[if_neg (by simp;omega)];exact e
    · rw[g,b];simp only[List.map_cons,List.flatten_cons,I9];rw[show(k+1)*a=k*a+a by rw[Nat.add_mul,Nat.one_mul]];have o:v.cells.toList.length=a:=by rw[Array.length_toList,f]
      generalize v.cells.toList=c at*;generalize (r.map fun v=>v.cells.toList).flatten=q;apply List.ext_getElem?;intro i;simp only[List.append_assoc,List.getElem?_append,List.length_take,Array.length_toList,List.length_append,List.getElem?_take,List.getElem?_drop,List.length_drop]
      grind
def Hr{α:Type}(R:kD α)(w:World)(A:BS):List Value->List α->Prop
 |[],[]=>True
 |v::vs,x::xs=>R.rd w A v.cells.toList x/\Hr R w A vs xs
 |_,_=>False
theorem Hr.len{α:Type}{R:kD α}{w:World}{A:BS}:∀{vs:List Value} {xs:List α},Hr R w A vs xs->vs.length=xs.length
 |[],[],_=>rfl
 |v::vs,x::xs,h=>by simp[Hr.len h.2]
 |[],_::_,h=>h.elim
 |_::_,[],h=>h.elim
theorem Hr.sizes{α:Type}{R:kD α}{w:World}{A:BS}:∀{vs:List Value} {xs:List α},Hr R w A vs xs->∀v∈vs,v.cells.size=R.sz
  |[],[],_=>by simp
  |v::vs,x::xs,h=>by
    intro u a;rcases List.mem_cons.1 a with rfl|a
    · have:=R.len h.1;simpa using this
    · exact Hr.sizes h.2 u a
  |[],_::_,h=>h.elim
  |_::_,[],h=>h.elim
theorem flat_len{a:Nat}:∀{vs:List Value},(∀v∈vs,v.cells.size=a)->(vs.map fun v=>v.cells.toList).flatten.length=vs.length*a
 |[],_=>by simp
 |v::r,h=>by
  have b:=h v zq3;have d:=flat_len fun u c=>h u<|List.mem_cons_of_mem _ c;simp only[List.map_cons,List.flatten_cons,List.length_append,d,Array.length_toList,b,List.length_cons,Nat.add_mul];omega
theorem Hr.at{α:Type}{R:kD α}{w:World}{A:BS}:∀{vs:List Value} {xs:List α},Hr R w A vs xs->∀i (h:i<xs.length),R.rd w A (((vs.map fun v=>v.cells.toList).flatten.drop (i*R.sz)).take R.sz) xs[i]
 |[],[],_,i,h=>absurd h (Nat.not_lt_zero _)
 |v::vs,x::xs,h,i,hi=>by
  have a:v.cells.toList.length=R.sz:=R.len h.1;cases i with
  |zero=>
   simp only[List.map_cons,List.flatten_cons,Nat.zero_mul,List.drop_zero,List.getElem_cons_zero];rw[List.take_append_of_le_length V,List.take_of_length_le V];exact h.1
  |succ i=>
   have:=Hr.at h.2 i (by simpa using hi);simp only[List.map_cons,List.flatten_cons,List.getElem_cons_succ];rw[List.drop_append,List.drop_eq_nil_of_le (by rw[a,Nat.add_mul];omega),List.nil_append,a,show(i+1)*R.sz-R.sz=i*R.sz by rw[Nat.add_mul];omega];exact this
 |[],_::_,h,_,_=>h.elim
 |_::_,[],h,_,_=>h.elim
structure Struct(P:Program)(T:TypeId)(zs:List Value)(pl:List (Nat×Nat)):Prop where
  zero:(P.info? T).map (·.zero)=some (some (.agg zs.toArray))
  desc:∃fs,P.underlying T=some (.struct fs)/\fs.toList.map (fun f=>(f.offset,(P.info? f.type).map (·.size)))=pl.map (fun p=>(p.1,some p.2))
def YO(b:List (Nat×Nat))(cs:List Value):List (Nat×Value)->List Value->Prop
 |[],out=>cs=out
 |(i,v)::r,out=>∃off a vs,b[i]? =some (off,a)/\v.cells.toList=vs/\vs.length=a/\off+a<=cs.length/\YO b (I9 cs off vs) r out
theorem fill_ok{e:List (Nat×Nat)}:∀{a:List (Nat×Value)} {cs out:List Value},YO e cs a out->Instr.fill (fun i=>e[i]?) cs.toArray a=some out.toArray
 |[],cs,out,h=>by cases h;rfl
 |(i,v)::r,cs,out,h=>by
  obtain⟨off,b,vs,j,g,f,l,m⟩:=h;unfold Instr.fill;simp only[j];have c:v.cells.size=b:=by rw[<-f,<-g,Array.length_toList]
  rw[if_neg (by simp[c];omega)];have k:=Xl vs cs.toArray off (by rw[f];simpa using l);have:(v.cells.zipIdx.foldl (fun cs(p:Value×Nat)=>cs.setIfInBounds (off+p.2) p.1) cs.toArray)=(I9 cs off vs).toArray:=by
   apply Array.ext';rw[<-Array.foldl_toList,Array.toList_zipIdx,g];exact k
  have d:=fill_ok m;rw[<-this]at d;exact d
section
variable{P:Program}{ops:Array Oper}{Q:Exit->Act->World->Prop}{n:Nat}{env:Nat->Value}{w w' w0:World}{M K:BS}{hp:Nat->Chunk}{rest:List Oper}
 {d:Option Nat} {op:Op} {ty:TypeId} {pos:String} {af:Array Edge} {v:Value} {g:Option (Nat×Bool)} {T:TypeId} {ρ:Operand->Value} {x y:Operand}
theorem yT(h:w.grownBy w' v.ownBlock):bI (ob v) w w':=
 ⟨h.os,h.tape,h.output,h.size,fun b a c=>h.block b c (fun e=>a (ob_row.2 e.symm))⟩
theorem MR{E:TypeId}{f b:Nat}{a:Option Addr}{l c:Nat}(e:jX P T E f b)(h:ρ x=.slice a l c)(m:l<=c)(j:ρ y=.slice none 0 0):
  (execOp ρ ⟨d,.call {callee:=.builtin .append,args:= #[x,y],argTypes:= #[T,T]},ty,pos,af,g⟩).run P w=.ok (.value (.slice a l c)) w:=by
 obtain⟨i,z,k,n,o,_,_⟩:=e.info;cases a<;>simp[execOp,resolve,invoke,builtin,h,j,Builtin.append_,underlying,e.desc,sizeOf,typeInfo,k,Builtin.lenOf,m,Builtin.firstCells,storeCells]
theorem YP{α:Type}{R:kD α}{E:TypeId}{sz e:Nat}{A:BS}{u:Value}{l m:List α}(o:jX P T E sz e)(p:R.sz=sz)(hx:ρ x=v)(hv:cz R E w A v l)(O:ρ y=u)(hu:dR R w BE A u m)
    (hA:∀b,ob v b->A b) (a:(l.length+m.length)*e<=140737488355328) (hm:l.length+m.length<=9223372036854775807):
    ∃q w',(execOp ρ ⟨d,.call {callee:=.builtin .append,args:= #[x,y],argTypes:= #[T,T]},ty,pos,af,g⟩).run P w=.ok (.value q) w'/\cz R E w' A q (l++m)/\bI (ob v) w w'/\(∀b,ob q b->b<w.heap.size->ob v b):=by
  subst p;have a0:=hv;obtain⟨xs,B,h3⟩:=hv;rcases hu.row with⟨rfl,rfl⟩|⟨ad,c,news,rfl,n1,n2,n3,n4⟩
  · have hw:(execOp ρ ⟨d,.call {callee:=.builtin .append,args:= #[x,y],argTypes:= #[T,T]},ty,pos,af,g⟩).run P w=.ok (.value v) w:=by
      rcases B.2 with⟨rfl,hn⟩|⟨gg,cap,cur,rfl,_,_,hc,_⟩
      · exact MR o hx (Nat.le_refl _) O
      · exact MR o hx hc O
    exact⟨v,w,hw,by simpa using a0,bI.refl _ _,fun _ a _=>a⟩
  · obtain⟨i,z,G,Q,p,t,a2⟩:=o.info;obtain⟨q,w',k,I,hg,_⟩:=run_append_own (P:=P) w 0 T ty E i z R.sz e o.desc G Q p t a2 R.pos v l.length xs B ad m.length c news n1 n2 n3 (by unfold maxLen;omega) a (Nat.zero_le _);have hk:=yT hg;have n:∀b,ob q b->b<w.heap.size->ob v b:=by
      rcases B.2 with⟨rfl,hn⟩|⟨gg,cap,cur,rfl,_,hgg,hc,hcm,hcs,htake⟩
      · by_cases K:m.length=0
        · have s:news=[]:=List.eq_nil_of_length_eq_zero (by rw[n1,K];simp);subst s;have f:(Builtin.append_ #[T,T] ty #[.slice none 0 0,.slice (some ad) m.length c]).run P w=.ok (.slice none 0 0) w:=by
            simp[Builtin.append_,underlying,o.desc,sizeOf,typeInfo,G,Builtin.lenOf,K,Builtin.firstCells,loadCells,loadCellsFrom]
          rw[f]at k;cases k;exact fun b a _=>a
        · have f:=run_append_nil (P:=P) w T ty E i z o.desc G Q ad m.length c news (by rw[p];exact n1) n2 V V (by rw[t];have:=a;rw[Nat.add_mul]at this;omega);rw[f]at k;cases k;intro b a J;simp[ob]at a;omega
      · by_cases h:l.length+m.length<=cap
        · have M:l.length*i.size+news.length<=cur.size:=by rw[n1,p,hcs,<-Nat.add_mul];exact Nat.mul_le_mul_right _ h
          have f:=run_append_room (P:=P) w T ty E i o.desc G gg l.length cap cur hgg ad m.length c news (by rw[p];exact n1) n2 n3 h M;rw[f]at k;cases k;exact fun b a _=>a
        · have holds:∀j u,xs[j]? =some u->w.cell? ((⟨gg,0,none⟩:Addr).add j)=some u:=B.cells (g:=gg) Z;have f:=run_append_grow (P:=P) w T ty E i z o.desc G Q ⟨gg,0,none⟩ l.length cap xs (by rw[p];exact B.1) holds ad m.length c news (by rw[p];exact n1) n2 V V (growslice_fits V (by rw[t];exact a));rw[f]at k;cases k;intro b a J;simp[ob]at a;omega
    have L:(execOp ρ ⟨d,.call {callee:=.builtin .append,args:= #[x,y],argTypes:= #[T,T]},ty,pos,af,g⟩).run P w=.ok (.value q) w':=by
      simp only[execOp,resolve,invoke,builtin,Sem.run_bind,Sem.run_pure,Result.andThen_ok,List.map_toArray,List.map_cons,List.map_nil,hx,O,k]
    refine⟨q,w',L,⟨xs++news,by rw[List.length_append];exact I,?_⟩,hk,n⟩;intro i a1;have C:=B.1;have N:∀b,A b\/ob q b->b<w.heap.size->A b\/ob v b:=fun b a J=>a.imp id fun a=>n b a J;by_cases r:i<l.length
    · have S:=R.go (h3 i r) hk (fun b a _=>.inr a) N;have X:(i+1)*R.sz<=l.length*R.sz:=Nat.mul_le_mul_right _ r;rw[Nat.add_mul]at X;rw[List.getElem_append_left r,List.drop_append_of_le_length V,List.take_append_of_le_length (by rw[List.length_drop];omega)];exact S
    · rw[List.length_append]at a1;have S:=R.go (n4 (i-l.length) V) hk (fun b a _=>hA b a) fun b a J=>(N b a J).elim id<|hA b;rw[List.getElem_append_right V,List.drop_append,List.drop_eq_nil_of_le (by rw[C];exact Nat.mul_le_mul_right _ V),List.nil_append,C,<-Nat.sub_mul];exact S
theorem SH.BX{α:Type}{R:kD α}{E:TypeId}(h:SH w0 M K w hp)(i:Nat):SH w0 M K w (bU hp i (.own R E (.slice none 0 0) ([]:List α))):=
 h.learn i (bI.refl BE w) (fun _ h=>h.elim) cz.nil
theorem kW{α:Type}{R:kD α}{E:TypeId}{j c:Nat}{u:Value}{l m:List α}(h:SH w0 M K w hp)(i:Nat)(f:hp i=.own R E v l)(o:dR R w BE (SH.A M hp) u m)(p:jX P T E j c)(t:R.sz=j)(B:ev n env x=v)(I:ev n env y=u)
    (a:(l.length+m.length)*c<=140737488355328) (s:l.length+m.length<=9223372036854775807)
    (k:∀w' e,SH w0 M K w' (bU hp i (.own R E e (l++m)))->WL P ops Q rest n (gm env d e) w'):
    WL P ops Q (⟨d,.call {callee:=.builtin .append,args:= #[x,y],argTypes:= #[T,T]},ty,pos,af,none⟩::rest) n env w:=by
  obtain⟨e,w',z,G,q,C⟩:=YP (d:=d) (ty:=ty) (pos:=pos) (af:=af) (g:=none) p t B (h.bE i f) I o (fun b a=>.inr ⟨i,by rw[f];exact a⟩) a s;refine F z (k w' e (h.step i q (fun b a _=>by rw[f];exact a) (fun b a r=>by rw[f];exact C b a r) ?_));refine cz.go G (bI.refl BE w') (fun _ h=>h.elim) (fun _ h=>h.elim) fun b a _=>?_;rcases a with a|a|a
  · exact .inl<|.inl a
  · exact .inl<|.inr<|kJ a
  · exact .inr a
theorem run_bs{α:Type}{R:kD α}{E:TypeId}{G m:Nat}{A:BS}{a:Array (Nat×Operand)}{len:Nat}{vs:List Value}{xs:List α}(K:jX P T E G m)(X:R.sz=G)
    (hx:(a.toList.map fun p=>(p.1,ev n env p.2))=vs.zipIdx.map fun p=>(p.2,p.1)) (s:vs.length=len) (N:Hr R w A vs xs) (hA:∀b,A b->b<w.heap.size) (a0:len*G<=16777216):
    ∃u w',(execOp (ev n env) ⟨d,.buildSlice T len a,ty,pos,af,g⟩).run P w=.ok (.value u) w'/\Grow w w'/\cz R E w' A u xs/\∀b,ob u b->w.heap.size=b:=by
  subst X;subst s;obtain⟨i,z,O,Q,B,a2,a1⟩:=K.info;have e:=N.sizes;have o:=N.len;let zero:Array Value:=if vs.length*R.sz=0 then #[]else z.cells
  let c:Array Value:=(Array.range (vs.length*R.sz)).map (zero[· %zero.size]!);have j:c.size=vs.length*R.sz:=by simp[c]
  obtain⟨out,C,J⟩:=Ub R.pos vs 0 c e (by rw[j];simp);have f:=flat_len e;have t:out.toList=(vs.map fun v=>v.cells.toList).flatten:=by
    rw[J,Nat.zero_mul];simp only[I9,List.take_zero,List.nil_append,Nat.zero_add];rw[List.drop_eq_nil_of_le (by rw[Array.length_toList,j,f];omega),List.append_nil]
  have k:out.size=vs.length*R.sz:=by rw[<-Array.length_toList,t,f]
  have q:(a.map fun p=>(p.1,ev n env p.2)).toList=vs.zipIdx.map fun p=>(p.2,p.1):=by simpa using hx
  have r:(execOp (ev n env) ⟨d,.buildSlice T vs.length a,ty,pos,af,g⟩).run P w=.ok (.value<|.slice (some ⟨w.heap.size,0,none⟩) vs.length vs.length) (w.alloc<|.cells out E):=by
    simp only[execOp,Instr.buildSlice,underlying,sizeOf,typeInfo];have I:¬(vs.length*R.sz>2 ^ 24):=by omega
    by_cases y:vs.length*R.sz=0
    · simp only[Sem.run_bind,run_program,Result.andThen_ok,K.desc,Sem.run_pure,O,B,Sem.run_ite,y,if_true];have:out= #[]:=Array.eq_empty_of_size_eq_zero (by rw[k,y]);have L:Instr.fill (fun i=>some (i*R.sz,R.sz)) ((Array.range 0).map fun x=>(#[]:Array Value)[x%(#[]:Array Value).size]!) (a.map fun p=>(p.1,ev n env p.2)).toList=some out:=by
        rw[q];have:c=(Array.range 0).map (fun x=>(#[]:Array Value)[x%(#[]:Array Value).size]!):=by simp[c,y]
        rw[<-this];exact C
      rw[L];simp[newRow,World.alloc,-World.alloc_eq]
    · simp only[Sem.run_bind,run_program,Result.andThen_ok,K.desc,Sem.run_pure,O,B,Sem.run_ite,if_neg I,y,if_false,zeroValue,typeInfo,Q];have L:Instr.fill (fun i=>some (i*R.sz,R.sz)) ((Array.range<|vs.length*R.sz).map fun x=>z.cells[x%z.cells.size]!) (a.map fun p=>(p.1,ev n env p.2)).toList=some out:=by
        rw[q];have:c=(Array.range<|vs.length*R.sz).map (fun x=>z.cells[x%z.cells.size]!):=by simp[c,zero,y]
        rw[<-this];exact C
      rw[L];simp[newRow,World.alloc,-World.alloc_eq]
  refine⟨_,_,r,Grow.alloc _ _,⟨out.toList,⟨by rw[Array.length_toList,k,o],.inr ⟨w.heap.size,vs.length,out,by rw[o],Nat.zero_le _,LV _ _,by omega,?_,k,?_⟩⟩,?_⟩,?_⟩
  · unfold maxLen;have:vs.length<=vs.length*R.sz:=Nat.le_mul_of_pos_right _ R.pos;omega
  · rw[List.take_of_length_le];rw[Array.length_toList,k,o];exact Nat.le_refl _
  · intro i M;have S:=R.go (A':=fun b=>A b\/ob (.slice (some ⟨w.heap.size,0,none⟩) vs.length vs.length) b) (N.at i M) (Grow.alloc w (.cells out E)) (fun _ h=>h.elim) (fun b l hl=>by
      rcases l with l|l
      · exact l
      · simp[ob]at l;omega)
    rw[t];exact S
  · intro b l;simp[ob]at l;exact l.symm
theorem pX{α:Type}{R:kD α}{E:TypeId}{f c:Nat}{a:Array (Nat×Operand)}{len:Nat}{vs:List Value}{xs:List α}(h:SH w0 M K w hp)(i:Nat)(l:jX P T E f c)(q:R.sz=f)
  (s:(a.toList.map fun p=>(p.1,ev n env p.2))=vs.zipIdx.map fun p=>(p.2,p.1)) (e:vs.length=len) (m:Hr R w (SH.A M hp) vs xs) (j:Nat.ble (len*f) 16777216=true)
  (k:∀w' u,SH w0 M K w' (bU hp i (.own R E u xs))->WL P ops Q rest n (gm env d u) w'):
  WL P ops Q (⟨d,.buildSlice T len a,ty,pos,af,none⟩::rest) n env w:=by
 obtain⟨u,w',r,x,o,t⟩:=run_bs (d:=d) (ty:=ty) (pos:=pos) (af:=af) (g:=none) l q s e m h.lt<|Nat.le_of_ble_eq_true j;exact F r<|k w' u<|h.vU i x o fun b v=>Nat.le_of_eq<|t b v
theorem run_places{P:Program}{w:World}:∀(a:List Field) (b:List (Nat×Nat)),a.map (fun f=>(f.offset,(P.info? f.type).map (·.size)))=b.map (fun p=>(p.1,some p.2))->
    (a.mapM (m:=Sem) fun f=>do pure (f.offset,<-sizeOf f.type)).run P w=.ok b w
  |[],[],_=>rfl
  |[],_::_,h=>by simp at h
  |_::_,[],h=>by simp at h
  |f::a,p::b,h=>by
    simp only[List.map_cons,List.cons.injEq,Prod.mk.injEq]at h;obtain⟨⟨g,d⟩,j⟩:=h;have e:=run_places (w:=w) a b j;obtain⟨i,c,k⟩:∃i,P.info? f.type=some i/\i.size=p.2:=by
      cases c:P.info? f.type with
      |none=>simp[c]at d
      |some i=>simp[c]at d;exact⟨i,Z,d⟩
    rw[List.mapM_cons];simp only[Sem.run_bind,sizeOf,typeInfo,run_program,Result.andThen_ok,c,Sem.run_pure,k,g];simp only[sizeOf,typeInfo]at e;rw[e];simp
theorem nM{zs out:List Value}{c:List (Nat×Nat)}{a:Array (Nat×Operand)}{pv:List (Nat×Value)}(o:Struct P T zs c)(hp:(a.toList.map fun p=>(p.1,ρ p.2))=pv)(r:YO c zs pv out):
  (execOp ρ ⟨d,.build T a,ty,pos,af,g⟩).run P w=.ok (.value (.agg out.toArray)) w:=by
 obtain⟨q,j,l⟩:=o.desc;obtain⟨i,h,s⟩:∃i,P.info? T=some i/\i.zero=some (.agg zs.toArray):=by
  have:=o.zero;cases h:P.info? T with
  |none=>simp[h]at this
  |some i=>simp[h]at this;exact⟨i,Z,this⟩
 have t:=run_places (w:=w) q.toList c l;have k:(q.mapM (m:=Sem) fun f=>do pure (f.offset,<-sizeOf f.type)).run P w=.ok c.toArray w:=by
  rw[Array.mapM_eq_mapM_toList];simp only[Sem.run_map,t,Result.andThen_ok]
 have n:(a.map fun p=>(p.1,ρ p.2)).toList=pv:=by rw[<-hp];simp
 have b:=fill_ok r;simp only[execOp,Instr.build,zeroValue,typeInfo,underlying];simp only[Sem.run_bind,run_program,Result.andThen_ok,h,Sem.run_pure,s,j,k,n,Value.cells];have e:(fun(x:Nat)=>c.toArray[x]?)=fun(i:Nat)=>c[i]? :=by funext x;simp
 rw[e,b];simp
def isNil:Value->Bool| .slice none _ _=>true|_=>false
theorem CP{α:Type}{R:kD α}{T2 E:TypeId}{e:Nat}{B A:BS}{l:List α}{j:World}(i:SliceOf P T E e)(k:ρ x=v)(f:dR R j B A v l)(h:ρ y=.slice none 0 0):(execOp ρ ⟨d,.binOp .eql T x y T2,ty,pos,af,g⟩).run P w=.ok (.value (.bool (isNil v))) w:=by
 obtain⟨a,cap,rfl,m,n,o,p⟩:=f;have b:∀a l c,(Op.equalIn Op.maxDepth T (.slice a l c)<|.slice none 0 0).run P w=.ok a.isNone w:=by
  intro a l c;show(Op.equalIn (9999+1) T (.slice a l c)<|.slice none 0 0).run P w=_;unfold Op.equalIn;simp only[Sem.run_bind,underlying,run_program,Result.andThen_ok,i.desc,Sem.run_pure];cases a<;>simp
 cases a<;>simp[execOp,k,h,eqGuard,binOp,isNil,Op.equal,b]
theorem oC{α:Type}{R:kD α}{B A:BS}{l:List α}(d:dR R w B A v l)(h:isNil v=true):v=.slice none 0 0/\l=[]:=by
 obtain⟨a,cap,rfl,e,g,c,f⟩:=d;cases a with
 |none=>
  have:=c Z;subst this;have b:l.length=0:=by omega
  exact⟨by rw[b],List.eq_nil_of_length_eq_zero b⟩
 |some a=>simp[isNil]at h
theorem SH.vv{α:Type}{R:kD α}{E:TypeId}{l:List α}{k:Int}{a:α}{b:Nat}(h:SH w0 M K w hp)(i:Nat)(m:hp i=.own R E v l)(p:ob v b)(f:l[k.toNat]? =some a):
    ∃cs,At w b (k.toNat*R.sz) cs/\R.rd w (SH.A M hp) cs a:=by
  have d:k.toNat<l.length:=by
    rcases Nat.lt_or_ge k.toNat l.length with h|h
    · exact h
    · rw[List.getElem?_eq_none h]at f;cases f
  have j:l[k.toNat]=a:=by rw[List.getElem?_eq_getElem d]at f;exact Option.some.inj f
  obtain⟨a',cap,rfl,t,u,x,r⟩:=h.dJ i m;obtain⟨b',o,cells,c,s,rfl,_,q,g⟩:=r k.toNat d;have:b=b':=p;subst this;have ho:o=0:=by
    obtain⟨xs,n,_⟩:=h.bE i m;rcases n.2 with⟨e,_⟩|⟨_,_,_,e,_⟩
    · cases e
    · cases e;rfl
  subst ho;rw[j]at g;rw[Nat.zero_add]at g;exact⟨_,⟨cells,c,s,q,by rw[R.len g]⟩,g⟩
theorem SH.sS{α:Type}{R:kD α}{E:TypeId}{e:Nat}{l:List α}{k:Int}{a:α}(h:SH w0 M K w hp)(i:Nat)(c:hp i=.own R E v l)(o:SliceOf P T E e)(j:R.sz=e)(m:0<=k)(n:l[k.toNat]? =some a):
    ∃b,ob v b/\IxOk P T v k (.pointer (some ⟨b,k.toNat*e,none⟩)):=by
  subst j;have t:k.toNat<l.length:=by
    rcases Nat.lt_or_ge k.toNat l.length with h|h
    · exact h
    · rw[List.getElem?_eq_none h]at n;cases n
  obtain⟨xs,q,_⟩:=h.bE i c;rcases q.2 with⟨rfl,hn⟩|⟨g',cap,cur,rfl,_⟩
  · omega
  refine⟨g',Z,fun ρ x y w d ty pos af g s r=>?_⟩;obtain⟨i,c,j⟩:∃i,P.info? E=some i/\i.size=R.sz:=by
    have:=o.info;cases c:P.info? E with
    |none=>simp[c]at this
    |some i=>simp[c]at this;exact⟨i,Z,this⟩
  simp only[execOp,Instr.indexAt,s,r,asIntOf,underlying,sizeOf,typeInfo];have p:(⟨g',0,none⟩:Addr).add (k.toNat*R.sz)=⟨g',k.toNat*R.sz,none⟩:=by
    unfold Addr.add;split
    · next hz=>rw[hz]
    · simp
  have f:k<(l.length:Int):=by omega
  simp[o.desc,c,j,m,f,p]
theorem SH.cutO{α:Type}{R:kD α}{E:TypeId}{O:Nat}{l:List α}{b:Int}(h:SH w0 M K w hp)(i:Nat)(C:hp i=.own R E v l)(q:SliceOf P T E O)(hs:R.sz=O)(m:0<=b)(S:b<=l.length):
    ∃u,SH w0 M K w (bU hp i (.own R E u (l.take b.toNat)))/\SlOk P T v 0 b l.length u:=by
  subst hs;have n:b.toNat<=l.length:=by omega
  have d:(l.take b.toNat).length=b.toNat:=by rw[List.length_take];omega
  obtain⟨xs,B,X⟩:=h.bE i C;obtain⟨u,G,hr⟩:=r_sl (P:=P) (T:=T) q (h.dJ i C) (Int.le_refl 0) m S;have hv:∃cap,v=.slice none 0 0\/∃g,v=.slice (some ⟨g,0,none⟩) l.length cap:=by
    rcases B.2 with⟨rfl,_⟩|⟨g',cap,cur,rfl,_⟩
    · exact⟨0,.inl Z⟩
    · exact⟨cap,.inr ⟨g',Z⟩⟩
  have e:=G (fun o=>match o with| .tmp 0=>v| .const v=>v|_=>undef) (.tmp 0) none (some<|.const<|.int .i64 b) w none 0 "" #[] none Z (.inl ⟨Z,Z⟩) (.inr Z);rcases B.2 with⟨rfl,hn⟩|⟨g',cap,cur,rfl,e1,e2,e3,e4,e5,e6⟩
  · have L:l=[]:=List.eq_nil_of_length_eq_zero hn;subst L;obtain⟨a,cap,rfl,h1,h2,h3,h4⟩:=hr;have A:b=0:=by simp at S;omega
    subst A;have:a=none/\cap=0:=by
      obtain⟨r,k⟩:∃r,P.info? E=some r:=by
        have:=q.info;cases p:P.info? E with
        |none=>simp[p]at this
        |some i=>exact⟨i,rfl⟩
      simp[execOp,Instr.sliceAt,Instr.slice,underlying,q.desc,Instr.sliceBounds,Instr.sliceBound,asIntOf,sizeOf,typeInfo,k,cut]at e;exact⟨e.1.symm,e.2.symm⟩
    obtain⟨rfl,rfl⟩:=this;refine⟨_,?_,G⟩;have:=h.step (c:=.own R E (.slice none 0 0) ([]:List α)) i (bI.refl BE w) (fun _ h=>h.elim) (fun _ h=>h.elim) cz.nil;simpa[cut]using this
  · have I:u=.slice (some ⟨g',0,none⟩) b.toNat cap:=by
      obtain⟨r,k,z⟩:∃r,P.info? E=some r/\r.size=R.sz:=by
        have:=q.info;cases p:P.info? E with
        |none=>simp[p]at this
        |some i=>simp[p]at this;exact⟨i,Z,this⟩
      obtain⟨t,rfl⟩:=Int.eq_ofNat_of_zero_le m;have N:t<=cap:=by simp at n;omega
      have s:(⟨g',0,none⟩:Addr).add 0=⟨g',0,none⟩:=rfl;have a0:(0:Int)<=(t:Int):=Int.natCast_nonneg t;have a1:(t:Int)<=(cap:Int):=by omega
      by_cases y:cap=0
      · subst y;have m:t=0:=by omega
        subst m;simp[execOp,Instr.sliceAt,Instr.slice,underlying,q.desc,Instr.sliceBounds,Instr.sliceBound,asIntOf,sizeOf,typeInfo,k,z]at e;simpa using e.symm
      · simp[execOp,Instr.sliceAt,Instr.slice,underlying,q.desc,Instr.sliceBounds,Instr.sliceBound,asIntOf,sizeOf,typeInfo,k,z,N,y,s]at e;simpa using e.symm
    subst I;refine⟨_,h.step (c:=.own R E (.slice (some ⟨g',0,none⟩) b.toNat cap) (l.take b.toNat)) i (bI.refl BE w) (fun _ h=>h.elim) (fun x f _=>by rw[C];exact f) ⟨xs.take (b.toNat*R.sz),⟨?_,.inr ⟨g',cap,cur,by rw[d],e1,e2,?_,e4,e5,?_⟩⟩,?_⟩,G⟩
    · rw[d,List.length_take,B.1,Nat.min_eq_left (Nat.mul_le_mul_right _ n)]
    · rw[d];omega
    · rw[d,<-e6,List.take_take,Nat.min_eq_left (Nat.mul_le_mul_right _ n)]
    · intro j Q;rw[d]at Q;have J:j<l.length:=by omega
      have p:=R.go (A':=fun x=>(M x\/SH.av hp i (.own R E (.slice (some ⟨g',0,none⟩) b.toNat cap) (l.take b.toNat)) x)\/ob (.slice (some ⟨g',0,none⟩) b.toNat cap) x) (X j J) (bI.refl BE w) (fun _ h=>h.elim) (fun x f _=>by
        rcases f with(f|f|f)|f
        · exact .inl<|.inl f
        · exact .inl<|.inr<|kJ f
        · exact .inr f
        · exact .inr f)
      rw[List.getElem_take];rw[List.drop_take,List.take_take,Nat.min_eq_left]
      · exact p
      · have:(j+1)*R.sz<=b.toNat*R.sz:=Nat.mul_le_mul_right _ Q;rw[Nat.add_mul]at this;omega
theorem MS{α:Type}{l:List α}{i o s off:Nat}{x:α}(ho:o=i+off):((l.set o x).drop i).take s=((l.drop i).take s).set off x:=by
 subst ho;rw[List.drop_set,if_neg V,Nat.add_sub_cancel_left,List.take_set]
theorem Ko{α:Type}{l:List α}{i o s:Nat}{x:α}(h:o<i\/i+s<=o):((l.set o x).drop i).take s=(l.drop i).take s:=by
  rw[List.drop_set];split
  · rfl
  · rw[List.take_set,List.set_eq_of_length_le];rw[List.length_take];omega
theorem Ht{α:Type}{R:kD α}{E:TypeId}{t:Nat}{l:List α}{k:Int}{a a':α}{b off:Nat}{z u:Value}(h:SH w0 M K w hp)(i:Nat)(r:hp i=.own R E u l)(G:ob u b)(hs:R.sz=t)(s:l[k.toNat]? =some a)(hT:One P T z)(c:ev n env x=.pointer (some ⟨b,k.toNat*t+off,none⟩))
    (hy:ev n env y=v) (h1:v.oneCell'=true) (m:Nat.blt off t=true) (hset:∀cs,R.rd w (SH.A M hp) cs a->R.rd w (SH.A M hp) (cs.set off v) a')
    (kk:∀w',SH w0 M K w' (bU hp i (.own R E u (l.set k.toNat a')))->WL P ops Q rest n (gm env d undef) w'):
    WL P ops Q (⟨d,.store T x y,ty,pos,af,none⟩::rest) n env w:=by
  subst hs;rw[Nat.blt_eq]at m;have g:k.toNat<l.length:=by
    rcases Nat.lt_or_ge k.toNat l.length with h|h
    · exact h
    · rw[List.getElem?_eq_none h]at s;cases s
  have J:l[k.toNat]=a:=by rw[List.getElem?_eq_getElem g]at s;exact Option.some.inj s
  generalize k.toNat=k at*;have e:∀b,ob u b->SH.A M hp b:=fun b G=>.inr ⟨i,by rw[r];exact G⟩;obtain⟨xs,S,q3⟩:=h.bE i r;rcases S.2 with⟨rfl,hn⟩|⟨g',cap,cur,rfl,e1,e2,e3,e4,e5,e6⟩
  · omega
  have I:b=g':=G;subst I;have L:(k+1)*R.sz<=l.length*R.sz:=Nat.mul_le_mul_right _ g;have a0:l.length*R.sz<=cap*R.sz:=Nat.mul_le_mul_right _ e3;rw[Nat.add_mul]at L;have C:k*R.sz+off<cur.size:=by omega
  have o:=bI.uH w b<|.cells (cur.setIfInBounds (k*R.sz+off) v) E (0,0);refine yS (OX hT c e2 C hy h1) (kk _ (h.step i o (fun x c _=>by rw[r];exact c) (fun x c _=>by rw[r];exact c) ⟨xs.set (k*R.sz+off) v,⟨?_,.inr ⟨b,cap,cur.setIfInBounds (k*R.sz+off) v,?_,e1,?_,?_,e4,?_,?_⟩⟩,?_⟩))
  · rw[List.length_set,List.length_set];exact S.1
  · rw[List.length_set]
  · rw[tV (iD e2)]
  · rw[List.length_set];exact e3
  · simpa using e5
  · rw[List.length_set,Array.toList_setIfInBounds,List.take_set,e6]
  · intro f N;have B:f<l.length:=by rwa[List.length_set]at N
    have q:=fun cs a(h:R.rd w (SH.A M hp) cs a)=>R.go (A':=fun x=>(M x\/(SH.av hp i (.own R E (.slice (some ⟨b,0,none⟩) l.length cap) (l.set k a'))) x)\/ob (.slice (some ⟨b,0,none⟩) l.length cap) x) h o (fun x c _=>e x c) (fun x c _=>by
      rcases c with(c|c|c)|c
      · exact .inl c
      · exact .inr<|kJ c
      · exact e x c
      · exact e x c)
    have O:=fun j(X:j<l.length)=>R.go (A':=SH.A M hp) (q3 j X) (bI.refl BE w) (fun _ h=>h.elim) fun x c _=>.inl c;by_cases p:f=k
    · subst p;rw[List.getElem_set_self,MS rfl];exact q _ _<|hset _<|J▸O f g
    · rw[List.getElem_set_ne (Ne.symm p),Ko]
      · exact q _ _<|O f B
      · rcases Nat.lt_or_ge k f with h5|h5
        · left;have:(k+1)*R.sz<=f*R.sz:=Nat.mul_le_mul_right _ h5;rw[Nat.add_mul]at this;omega
        · right;have:(f+1)*R.sz<=k*R.sz:=Nat.mul_le_mul_right _ V;rw[Nat.add_mul]at this;omega
structure WK(P:Program)(ops:Array Oper)(w:World)(Q:Act->Prop)(l:List Oper)(n:Nat)(env:Nat->Value):Prop where
 out:wpQuiet P ops (fun x=>x=w) Q l (act n env)
end
section
variable{P:Program}{ops:Array Oper}
theorem tX{w:World}{Q:Act->Prop}:∀{l:List Oper} {a:Act},wpQuiet P ops (fun x=>x=w) Q l a->wpStill P ops w Q l a
  |[],_,h=>h
  |o::rest,a,h=>by
    unfold wpQuiet at h;unfold wpStill;split
    · rename_i c;rw[if_pos c]at h;obtain⟨v,g,d⟩:=h;have b:=g w Z;unfold Oper.quietAt at b;unfold Oper.still;generalize (execOp a.eval o).run P w=r at b⊢;cases r with
      |ok n w'=>
        cases n<;>simp only[Oper.quietUpon]at b<;>simp only[Oper.stillUpon];case value u=>exact⟨b.1,by rw[b.2];exact tX d⟩
        case skip=>exact⟨b.1,by rw[<-b.2];exact tX d⟩
        case enter f args=>exact⟨b.1,v,b.2.mono (fun e i h=>h),tX d⟩
      |halt x w'=>simp only[Oper.quietUpon]at b
    · rename_i c;rw[if_neg c]at h;exact tX h
end
section
variable{P:Program}{ops:Array Oper}{Q:Exit->Act->World->Prop}{n:Nat}{env:Nat->Value}{w w' w0:World}{M K:BS}{hp:Nat->Chunk}{rest:List Oper}
 {d:Option Nat} {op:Op} {ty:TypeId} {pos:String} {af:Array Edge} {v:Value} {g:Option (Nat×Bool)} {T:TypeId} {ρ:Operand->Value} {x y:Operand}
variable{Q1:Act->Prop}
theorem aG(b:(execOp (ev n env) ⟨d,op,ty,pos,af,none⟩).run P w=.ok (.value v) w)(h:WK P ops w Q1 rest n (gm env d v)):WK P ops w Q1 (⟨d,op,ty,pos,af,none⟩::rest) n env:=by
  refine⟨?_⟩;unfold wpQuiet;have a:Region.wanted ⟨d,op,ty,pos,af,none⟩ (yielded ops (act n env).tmps)=true:=rfl;rw[if_pos a];refine⟨v,fun w' c=>?_,?_⟩
  · subst c;unfold Oper.quietAt;rw[gJ,b];exact⟨Z,Z⟩
  · rw[CO];exact h.out
theorem fM{j dj:Nat}{b:Bool}(c:(ops[j]?).bind (·.dst)=some dj)(f:ev n env (.tmp dj)=.bool b)(h:WK P ops w Q1 (⟨d,op,ty,pos,af,none⟩::rest) n env):WK P ops w Q1 (⟨d,op,ty,pos,af,some (j,b)⟩::rest) n env:=by
  have g:=Jb (ops:=ops) c f;have e:Region.wanted ⟨d,op,ty,pos,af,some (j,b)⟩ (yielded ops (act n env).tmps)=true:=by simp[Region.wanted,g]
  have a:Region.wanted ⟨d,op,ty,pos,af,none⟩ (yielded ops (act n env).tmps)=true:=rfl;obtain⟨h⟩:=h;refine⟨?_⟩;unfold wpQuiet at h⊢;rw[if_pos a]at h;rw[if_pos e];exact h
theorem wk_skip(a:Region.wanted ⟨d,op,ty,pos,af,g⟩ (yielded ops (act n env).tmps)=false)(h:WK P ops w Q1 rest n (gm env d undef)):WK P ops w Q1 (⟨d,op,ty,pos,af,g⟩::rest) n env:=by
 refine⟨?_⟩;unfold wpQuiet;rw[if_neg (by rw[a];decide),CO];exact h.out
theorem dL{j dj:Nat}{b b':Bool}(a:(ops[j]?).bind (·.dst)=some dj)(c:ev n env (.tmp dj)=.bool b')(e:(b'==b)=false)(h:WK P ops w Q1 rest n (gm env d undef)):WK P ops w Q1 (⟨d,op,ty,pos,af,some (j,b)⟩::rest) n env:=
  wk_skip (by have f:=Jb (ops:=ops) a c;simpa[Region.wanted,f]using e) h
theorem MU{j dj:Nat}(c:(ops[j]?).bind (·.dst)=some dj)(b:ev n env (.tmp dj)=undef):yielded ops (act n env).tmps j=none:=by
  unfold yielded;have a:(act n env).eval (.tmp dj)=undef:=by rw[gJ];exact b
  simp only[c,Option.bind_some];simp only[Act.eval]at a;cases h2:(act n env).tmps[dj]? with
  |none=>rfl
  |some x=>simp[Array.getD_eq_getD_getElem?,h2]at a;subst a;rfl
theorem yU{j dj:Nat}{b:Bool}(a:(ops[j]?).bind (·.dst)=some dj)(c:ev n env (.tmp dj)=undef)(h:WK P ops w Q1 rest n (gm env d undef)):WK P ops w Q1 (⟨d,op,ty,pos,af,some (j,b)⟩::rest) n env:=
  wk_skip (by simp[Region.wanted,MU a c]) h
theorem wl_offU{j dj:Nat}{b:Bool}(a:(ops[j]?).bind (·.dst)=some dj)(c:ev n env (.tmp dj)=undef)(h:WL P ops Q rest n (gm env d undef) w):WL P ops Q (⟨d,op,ty,pos,af,some (j,b)⟩::rest) n env w:=by
  have e:Region.wanted ⟨d,op,ty,pos,af,some (j,b)⟩ (yielded ops (act n env).tmps)=false:=by simp[Region.wanted,MU a c]
  refine⟨?_⟩;unfold wpList;rw[if_neg (by rw[e];decide),CO];exact h.out
theorem wk_gd{j dj:Nat}{b a:Bool}(c:Bool)(i:(ops[j]?).bind (·.dst)=some dj)(g:ev n env (.tmp dj)=gv c (.bool b))
    (m:(c&&(b==a))=true->(execOp (ev n env) ⟨d,op,ty,pos,af,none⟩).run P w=.ok (.value v) w) (h:WK P ops w Q1 rest n (gm env d (gv (c&&(b==a)) v))):
    WK P ops w Q1 (⟨d,op,ty,pos,af,some (j,a)⟩::rest) n env:=by
  by_cases f:(c&&(b==a))=true
  · have l:=gl f;have k:=gr f;rw[dZ l]at g;rw[dZ f]at h;have o:b=a:=by simpa using k
    subst o;exact fM i g<|aG (m f) h
  · have e:(c&&(b==a))=false:=by simpa using f
    rw[e]at h;cases c with
    |true=>exact dL i g (by simpa using e) h
    |false=>exact yU i g h
theorem mF{j dj:Nat}{b a:Bool}(c:(ops[j]?).bind (·.dst)=some dj)(e:ev n env (.tmp dj)=.bool b)
    (f:(b==a)=true->(execOp (ev n env) ⟨d,op,ty,pos,af,none⟩).run P w=.ok (.value v) w) (h:WK P ops w Q1 rest n (gm env d (gv (b==a) v))):
    WK P ops w Q1 (⟨d,op,ty,pos,af,some (j,a)⟩::rest) n env:=
  wk_gd true c e (fun h=>f (by simpa using h)) (by simpa using h)
theorem zF{l:List Oper}(h:WL P ops Q l n env w):WK P ops w (fun a=>wpList P ops Q l a w) [] n env:=⟨h.out⟩
theorem tK{id:Nat}(k:Nat){l:List Oper}(b:P.follows .mixedOrders=true)(d:Region.lexTailB .any l.toArray k=true)(h:SH w0 M K w hp)
  (c:∀w,SH w0 M K w hp->WK P l.toArray w (fun a=>wpList P l.toArray Q (l.drop k) a w) (l.take k) n env):WC P (Code.region id l.toArray true) Q n env w:=
 ⟨wp_region_still_tail k b d (tX (c _ (h.grow (Grow.drew w))).out)⟩
theorem pJ{id:Nat}{l:List Oper}(b:P.follows .mixedOrders=true)(d:Region.lexB .any l.toArray=true)(h:SH w0 M K w hp)
  (c:∀w,SH w0 M K w hp->WK P l.toArray w (fun a=>∀w',w'=w->Q .normal a w') l n env):WC P (Code.region id l.toArray true) Q n env w:=
 ⟨wp_region_quiet (C:=fun x=>x=w.drew) b d Z (c _ (h.grow (Grow.drew w))).out⟩
theorem pY(h:Q .normal (act n env) w):WK P ops w (fun a=>∀w',w'=w->Q .normal a w') [] n env:=⟨fun _ e=>by rw[e];exact h⟩
end
open Go.RowKit
section
variable{P:Program}{ops:Array Oper}{Q:Exit->Act->World->Prop}{n:Nat}{env:Nat->Value}{w w' w0:World}{M K:BS}{hp:Nat->Chunk}{rest:List Oper}
 {d:Option Nat} {op:Op} {ty:TypeId} {pos:String} {af:Array Edge} {v:Value} {g:Option (Nat×Bool)} {T:TypeId} {ρ:Operand->Value} {x y:Operand}
theorem El{v:Value}(h:v.oneCell'=true):v.cells= #[v]:=by
 cases v<;>first|rfl|simp[Value.oneCell']at h
theorem dO{v:Value}(h:v.oneCell'=true):v.cells.toList=[v]:=by rw[El h]
theorem dR.rdc{α:Type}{R:kD α}{A:BS}{l:List α}(h:bZ R w A v l):(sU R).rd w A v.cells.toList l:=by
 rw[El h.one];exact⟨v,Z,h⟩
theorem gvn{c d:Bool}{v:Value}(h:c=true):gv (c&&d) v=gv d v:=by rw[h,Bool.true_and]
theorem aK:∀v∈([]:List Value),v.oneCell'=true:=fun _ h=>by cases h
theorem aa{a:Value}{l:List Value}(b:a.oneCell'=true)(c:∀v∈l,v.oneCell'=true):∀v∈a::l,v.oneCell'=true:=fun v h=>by
  rcases List.mem_cons.1 h with rfl|h
  · exact b
  · exact c v h
def Room{α:Type}(a:Nat)(l m:List α):Prop:=(l.length+m.length)*a<=140737488355328/\l.length+m.length<=9223372036854775807
instance {α:Type} (bytes:Nat) (l m:List α):Decidable (Room bytes l m):=inferInstanceAs (Decidable (_/\_))
theorem Room.mk{α:Type}{a:Nat}{l m:List α}(b:(l.length+m.length)*a<=140737488355328)(c:l.length+m.length<=9223372036854775807):Room a l m:=⟨b,c⟩
theorem set1{α:Type}{R:kD α}{A:BS}{cs:List Value}{a a':α}{v:Value}(h:R.rd w A v.cells.toList a')(d:R.rd w A cs a)(e:R.sz=1:=by rfl)(b:v.oneCell'=true:=by assumption):R.rd w A (cs.set 0 v) a':=by
 have:=R.len d;rw[e]at this
 match cs,this with
 |[c],_=>rw[dO b]at h;exact h
theorem r_rem{T2:TypeId}{p m:Int}(b:ρ x=.int .i64 p)(c:ρ y=.int .i64 m)(e:0<m):(execOp ρ ⟨d,.binOp .rem T x y T2,ty,pos,af,g⟩).run P w=.ok (.value (.int .i64 (Int.tmod p m))) w:=by
 have a:m≠0:=by omega
 simp[execOp,b,c,eqGuard,binOp,Op.intDiv,a]
theorem gy{f:FuncId}{first captured:Array Value}{xs:Array Operand}{i:Array TypeId}{args:List Value}(c:OZ P f)(g:ev n env x=.func (.func f) first captured)
  (a:first.toList++xs.toList.map (ev n env)++captured.toList=args) (b:Calls P f args.toArray w (fun e w'=>∃v,e=.returned v/\WL P ops Q rest n (gm env d v) w')):
  WL P ops Q (⟨d,.call {callee:=.value x,args:=xs,argTypes:=i},ty,pos,af,none⟩::rest) n env w:=
 bT c g a b (fun _ _ h=>h)
theorem kE{α:Type}{a b:α}{l m:List α}(h:a=b)(c:l=m):a::l=b::m:=by rw[h,c]
theorem w_callG{f:FuncId}{first captured:Array Value}{xs:Array Operand}{z:Array TypeId}{args:List Value}{j dj:Nat}{b a:Bool}(g:Bool)(m:(ops[j]?).bind (·.dst)=some dj)(l:ev n env (.tmp dj)=gv g (.bool b))(s:OZ P f)(y:ev n env x=.func (.func f) first captured)
    (o:(g&&(b==a))=true->first.toList++xs.toList.map (ev n env)++captured.toList=args) (p:Calls P f args.toArray w (fun e w'=>Grow w w'/\e=.returned v))
    (k:∀w',Grow w w'->WL P ops Q rest n (gm env d (gv (g&&(b==a)) v)) w'):
    WL P ops Q (⟨d,.call {callee:=.value x,args:=xs,argTypes:=z},ty,pos,af,some (j,a)⟩::rest) n env w:=by
  by_cases c:(g&&(b==a))=true
  · have u:=gl c;have q:=gr c;rw[dZ u]at l;have t:b=a:=by simpa using q
    subst t;refine Ho m l<|bT s y (o c) p ?_;rintro e w'⟨r,rfl⟩;refine⟨_,Z,?_⟩;have:=k w' r;rw[dZ c]at this;exact this
  · have i:(g&&(b==a))=false:=by simpa using c
    have h:=k w<|bI.refl _ _;rw[i]at h;cases g with
    |true=>exact bN m l (by simpa using i) h
    |false=>exact wl_offU m l h
theorem w_callG0{f:FuncId}{first captured:Array Value}{xs:Array Operand}{l:Array TypeId}{args:List Value}{j dj:Nat}{b a:Bool}(o:(ops[j]?).bind (·.dst)=some dj)(c:ev n env (.tmp dj)=.bool b)(g:OZ P f)(i:ev n env x=.func (.func f) first captured)
    (m:(b==a)=true->first.toList++xs.toList.map (ev n env)++captured.toList=args) (p:Calls P f args.toArray w (fun e w'=>Grow w w'/\e=.returned v))
    (k:∀w',Grow w w'->WL P ops Q rest n (gm env d (gv (b==a) v)) w'):
    WL P ops Q (⟨d,.call {callee:=.value x,args:=xs,argTypes:=l},ty,pos,af,some (j,a)⟩::rest) n env w:=
  w_callG true o c g i (fun h=>m (by simpa using h)) p (by simpa using k)
theorem SH.dS{α:Type}{R:kD α}{E:TypeId}{l:List α}(h:SH w0 M BE w hp)(i:Nat)(c:hp i=.own R E v l):cz R E w M v l/\∀b,ob v b->w0.heap.size<=b:=
 ⟨cz.go (h.bE i c) (bI.refl BE w) (fun _ h=>h.elim) (fun _ h=>h.elim) (fun b a _=>.inl (.inl a)),fun b a=>h.fresh i b (by rw[c];exact a)⟩
theorem ek{s:Nat}:∀b,ob (.slice none 0 0) b->s<=b:=fun _ h=>h.elim
theorem oV{P:Program}{E:TypeId}{z:Value}{s b:Nat}(h:(P.info? E).map (fun i=>(i.zero,i.size,i.bytes))=some (some z,s,b))(a:z.cells.size=s):∃i z,P.info? E=some i/\i.zero=some z/\i.size=s/\i.bytes=b/\z.cells.size=s:=by
 cases hi:P.info? E with
 |none=>simp[hi]at h
 |some i=>simp[hi]at h;exact⟨i,z,Z,h.1,h.2.1,h.2.2,a⟩
theorem r_max{T2:TypeId}{p q:Int}(a:ρ x=.int .i64 p)(b:ρ y=.int .i64 q):(execOp ρ ⟨d,.call {callee:=.builtin .max,args:= #[x,y],argTypes:= #[T,T2]},ty,pos,af,g⟩).run P w=.ok (.value (.int .i64 (max p q))) w:=by
 have h:(if q>p then q else p)=max p q:=by split<;>omega
 simp[execOp,resolve,invoke,builtin,Builtin.max_,Builtin.max2,a,b,h]
theorem r_min{T2:TypeId}{p q:Int}(a:ρ x=.int .i64 p)(b:ρ y=.int .i64 q):(execOp ρ ⟨d,.call {callee:=.builtin .min,args:= #[x,y],argTypes:= #[T,T2]},ty,pos,af,g⟩).run P w=.ok (.value (.int .i64 (min p q))) w:=by
 have h:(if q<p then q else p)=min p q:=by split<;>omega
 simp[execOp,resolve,invoke,builtin,Builtin.min_,Builtin.min2,a,b,h]
theorem Ai{zs vs cs:List Value}{b i:Nat}(j:SH w0 M K w hp)(l:hp i=.blk b cs)(k:uN P T zs)(e:vs.length=zs.length)(f:cs=vs):(loadVar T ⟨b,0,none⟩).run P w=.ok (.agg vs.toArray) w:=by
 subst f;have h:=vV (P:=P) (ρ:=fun _=>.pointer (some ⟨b,0,none⟩)) (d:=none) (ty:=0) (pos:= "") (af:= #[]) (g:=none) (x:=.tmp 0) (o:=0) (vs:=cs) j i l k Z (by rw[<-e];simp) e;simp only[execOp,Instr.loadAt,Instr.sureAddr]at h;have c:((loadVar T ⟨b,0,none⟩).run P w).andThen (fun a w'=>Result.ok (Next.value a) w')=Result.ok (Next.value (Value.agg cs.toArray)) w:=by simpa using h
 cases hres:(loadVar T ⟨b,0,none⟩).run P w with
 |ok v w'=>rw[hres]at c;simp at c;rw[c.1,c.2]
 |halt x w'=>rw[hres]at c;simp[Result.andThen]at c
theorem YQ{g:Func}{R:Ending->World->Prop}{t u a:Tmp}{T:TypeId}{v1 v3:Value}{zs vs:List Value}{b:Nat}(l:g.results= #[.tmp t,.cell a T,.tmp u])(o:ev n env (.tmp t)=v1)(m:ev n env (.tmp a)=.pointer (some ⟨b,0,none⟩))(q:ev n env (.tmp u)=v3)
  (j:SH w0 M K w hp) (i:Nat) (p:hp i=.blk b vs) (k:uN P T zs) (r:vs.length=zs.length) (h:R (.returned (.tuple #[v1,.agg vs.toArray,v3])) w):bodyPost P g R .ret (act n env) w:=by
 refine⟨Z,_,?_,h⟩;have c:=congrFun (gJ n env)<|.tmp t;have e:=congrFun (gJ n env)<|.tmp u;have d:=congrFun (gJ n env)<|.tmp a;rw[o]at c;rw[q]at e;rw[m]at d;simp only[Act.eval]at c e d;rw[Array.getD_eq_getD_getElem?]at c e d;have f:=Ai (P:=P) j p k r Z;unfold results;rw[l];simp[c,e,d,asAddr,f]
theorem SH.jU{α:Type}{R:kD α}{E:TypeId}{l:List α}(h:SH w0 M K w hp)(j i:Nat)(m:hp j=.own R E v l)(z:hp i=.no)(s:j≠i):SH w0 M K w (bU (bU hp j .no) i (.own R E v l)):=by
  have ho:=h.bE j m;have d:∀x b,(bU (bU hp j .no) i (.own R E v l) x).own' b->∃y,(hp y).own' b/\(x=i->y=j)/\(x≠i->y=x/\x≠j):=by
    intro x b a;by_cases e:x=i
    · subst e;rw[df]at a;exact⟨j,by rw[m];exact a,fun _=>rfl,fun h=>absurd Z h⟩
    · rw[fe e]at a;by_cases c:x=j
      · subst c;rw[df]at a;exact a.elim
      · rw[fe c]at a;exact⟨x,a,fun h=>absurd h e,fun _=>⟨Z,c⟩⟩
  have f:∀b,iE (bU (bU hp j .no) i<|.own R E v l) b->iE hp b:=fun b⟨x,p⟩=>let ⟨y,g,_⟩:=d x b p;⟨y,g⟩;refine⟨h.keep,h.ltM,fun x b a=>let ⟨y,g,_⟩:=d x b a;h.apM y b g,fun x=>?_,fun x y k b p g=>?_,fun x b a=>let ⟨y,g,_⟩:=d x b a;h.old y b g⟩
  · by_cases e:x=i
    · subst e;rw[df];have:=h.ok j;rw[m]at this;exact Chunk.sub this fun b a _=>f b a
    · rw[fe e];by_cases c:x=j
      · subst c;rw[df];trivial
      · rw[fe c];exact Chunk.sub (h.ok x) (fun b a _=>f b a)
  · obtain⟨q,t,u,o⟩:=d x b p;obtain⟨r,k1,k2,n⟩:=d y b g;have:q≠r:=by
      by_cases e:x=i
      · have c:y≠i:=fun h=>k<|e.trans h.symm;rw[u e,(n c).1];exact fun h=>(n c).2 h.symm
      · by_cases c:y=i
        · rw[k2 c,(o e).1];exact(o e).2
        · rw[(o e).1,(n c).1];exact k
    exact h.apart q r this b t k1
theorem SH.iw{α:Type}{R:kD α}{l:List α}(h:SH w0 M K w hp)(j i:Nat)(a:hp j=.rd R v l):SH w0 M K w (bU hp i (.rd R v l)):=h.aJ i (h.bJ j a)
theorem SH.wC{α:Type}{R:kD α}{l:List α}(h:SH w0 M K w hp)(i:Nat)(c:hp i=.rd R v l):bZ R w M v l:=
 (h.bJ i c).sub (fun b a _=>.inl a) (fun b a _=>.inl a)
def clone{α:Type}(b:Nat)(a:List α):Option (List α):=iC (Room b ([]:List α) a) (some a)
structure Arr2(P:Program)(T E:TypeId):Prop where
  desc:P.underlying T=some (.array 2 E)
  zero:∃z0 z1,(P.info? T).map (·.zero)=some (some (.agg #[z0,z1]))
  size:(P.info? E).map (·.size)=some 1
  plain:∃F,P.underlying E=some (.slice F)
theorem r_build2{E:TypeId}{x y:Operand}{p q:Value}(b:Arr2 P T E)(m:ρ x=p)(l:ρ y=q)(o:p.oneCell'=true)(s:q.oneCell'=true):(execOp ρ ⟨d,.build T #[(0,x),(1,y)],ty,pos,af,g⟩).run P w=.ok (.value (.agg #[p,q])) w:=by
 obtain⟨f,h,c⟩:=b.zero;obtain⟨i,a,k⟩:∃i,P.info? T=some i/\i.zero=some (.agg #[f,h]):=by
  cases a:P.info? T with
  |none=>simp[a]at c
  |some i=>simp[a]at c;exact⟨i,Z,c⟩
 obtain⟨j,n,e⟩:∃j,P.info? E=some j/\j.size=1:=by
  have:=b.size;cases a:P.info? E with
  |none=>simp[a]at this
  |some i=>simp[a]at this;exact⟨i,Z,this⟩
 have c1:=El o;have c2:=El s;simp only[execOp,Instr.build,m,l,underlying,zeroValue,typeInfo,sizeOf];have r:(Value.agg #[f,h]).cells= #[f,h]:=rfl;simp[a,k,b.desc,n,e,Instr.fill,c1,c2,r,m,l]
theorem r_index2{E:TypeId}{x y:Operand}{p q v:Value}{k:Nat}(c:Arr2 P T E)(s:ρ x=.agg #[p,q])(o:ρ y=.int .i64 k)(b:[p,q][k]? =some v):(execOp ρ ⟨d,.index T x y,ty,pos,af,g⟩).run P w=.ok (.value v) w:=by
  obtain⟨a,n⟩:=c.plain;obtain⟨j,m,e⟩:∃j,P.info? E=some j/\j.size=1:=by
    have:=c.size;cases hi:P.info? E with
    |none=>simp[hi]at this
    |some i=>simp[hi]at this;exact⟨i,Z,this⟩
  have l:k<2:=by
    rcases Nat.lt_or_ge k 2 with h|h
    · exact h
    · rw[List.getElem?_eq_none (by simpa using h)]at b;cases b
  have r:(#[p,q]:Array Value)[k]? =some v:=by simpa using b
  have f:((k:Int)<2):=by omega
  simp only[execOp,Instr.index,s,o,underlying,asIntOf,part,isAgg,sizeOf,typeInfo];simp[c.desc,m,e,n,f,l];rw[List.getElem?_eq_getElem (by simpa using l)]at b;exact Option.some.inj b
structure PairI(P:Program)(T:TypeId):Prop where
 desc:∃f0 f1,P.underlying T=some (.struct #[f0,f1])/\f0.name≠ "_" /\f1.name≠ "_" /\f0.offset=0/\f1.offset=1/\P.underlying f0.type=some (.int .i64)/\P.underlying f1.type=some (.int .i64)/\P.plainKey f0.type=true/\P.plainKey f1.type=true
 stood:P.stoodInHeld T=false
 guard:P.eqGuardType P.depth T=false
theorem eq_pairI(g:PairI P T)(a b c e:Int):(Op.equalIn 10000 T (.agg #[.int .i64 a,.int .i64 b]) (.agg #[.int .i64 c,.int .i64 e])).run P w=.ok (decide (a=c)&&decide (b=e)) w:=by
  obtain⟨d,f,j,n,q,l,o1,o,p,k,k1⟩:=g.desc;have i:P.fieldsOf T= #[d,f]:=by simp[Program.fieldsOf,j]
  rw[show(10000:Nat)=9999+1 from rfl,run_equalIn_agg w 9999 T _ _ (by rw[i];exact j) g.stood,i];simp only[Op.eqFields,n,q,ne_eq,not_false_eq_true,if_true,l,o1,Sem.run_bind];rw[run_part_plain w k (xs:= #[.int .i64 a,.int .i64 b]) (off:=0) (v:=.int .i64 a) rfl];simp only[Result.andThen_ok];rw[run_part_plain w k (xs:= #[.int .i64 c,.int .i64 e]) (off:=0) (v:=.int .i64 c) rfl];simp only[Result.andThen_ok];rw[show(9999:Nat)=9998+1 from rfl,run_equalIn_int w 9998 d.type .i64 .i64 a c o];simp only[Result.andThen_ok,Sem.run_ite,Sem.run_bind];by_cases h:a=c
  · subst h;simp only[beq_self_eq_true,Bool.not_true,Bool.false_eq_true,if_false];rw[run_part_plain w k1 (xs:= #[.int .i64 a,.int .i64 b]) (off:=1) (v:=.int .i64 b) rfl];simp only[Result.andThen_ok];rw[run_part_plain w k1 (xs:= #[.int .i64 a,.int .i64 e]) (off:=1) (v:=.int .i64 e) rfl];simp only[Result.andThen_ok];rw[run_equalIn_int w 9998 f.type .i64 .i64 b e p];by_cases m:b=e<;>simp[m]
  · simp[h]
theorem r_eqlP{T2:TypeId}{a b c e:Int}(f:PairI P T)(h:ρ x=.agg #[.int .i64 a,.int .i64 b])(i:ρ y=.agg #[.int .i64 c,.int .i64 e]):(execOp ρ ⟨d,.binOp .eql T x y T2,ty,pos,af,g⟩).run P w=.ok (.value (.bool (decide (a=c)&&decide (b=e)))) w:=by
 simp only[execOp,h,i,Sem.run_bind,run_eqGuard_agg w .eql T x y _ _ f.guard,Result.andThen_ok,run_eql_struct,eq_pairI f];simp
theorem r_neqP{T2:TypeId}{a b c e:Int}(f:PairI P T)(h:ρ x=.agg #[.int .i64 a,.int .i64 b])(i:ρ y=.agg #[.int .i64 c,.int .i64 e]):(execOp ρ ⟨d,.binOp .neq T x y T2,ty,pos,af,g⟩).run P w=.ok (.value (.bool (!(decide (a=c)&&decide (b=e))))) w:=by
 simp only[execOp,h,i,Sem.run_bind,run_eqGuard_agg w .neq T x y _ _ f.guard,Result.andThen_ok,run_neq_struct,eq_pairI f];simp
end
section
variable{σ:Type}{n:Nat}{e QB:Nat->Value}{mod:Nat->Bool}{live:σ->List (Nat×Value)}{J:σ->World->Prop}{w:World}
theorem bL(s:σ)(a:J s w)(c:Holds e (live s):=by repeat (first|exact U|refine⟨rfl,?_⟩))
 (b:F6 mod e QB:=by repeat (first|(with_reducible exact F6.refl _ _)|(with_reducible exact F6.hav _ _ _)|(with_reducible refine F6.on ?_)|((with_reducible refine F6.hin ?_ ?_);rfl)|(with_reducible refine F6.un ?_)|((with_reducible refine F6.os ?_ ?_);rfl)|((with_reducible refine F6.uc ?_ ?_);rfl))):
 JP n mod QB live J (act n e) w:=⟨s,e,rfl,b,c,a⟩
theorem jf{b:σ->Nat}{c:σ}(s:σ)(d:J s w)(a:b s<b c:=by dsimp only;omega)(g:Holds e (live s):=by repeat (first|exact U|refine⟨rfl,?_⟩))
 (f:F6 mod e QB:=by repeat (first|(with_reducible exact F6.refl _ _)|(with_reducible exact F6.hav _ _ _)|(with_reducible refine F6.on ?_)|((with_reducible refine F6.hin ?_ ?_);rfl)|(with_reducible refine F6.un ?_)|((with_reducible refine F6.os ?_ ?_);rfl)|((with_reducible refine F6.uc ?_ ?_);rfl))):
 JL n mod QB live J b c (act n e) w:=⟨s,e,rfl,f,g,d,a⟩
end
section
variable{P:Program}{Q:Exit->Act->World->Prop}{n:Nat}{env:Nat->Value}{w:World}
theorem wc_rounds{c:Code}(m:Nat)(h:WC P c (Exit.then (Code.rounds P c Q m) Q) n env w):WC P (Code.loop c) Q n env w:=⟨wp_loop_rounds (m+1) h.out⟩
theorem Uc{c:Code}{m:Nat}(h:WC P c (Exit.then (Code.rounds P c Q m) Q) n env w):Exit.then (Code.rounds P c Q (m+1)) Q .normal (act n env) w:=h.out
end
theorem SH.cn{w0 w:World}{M K:BS}{hp:Nat->Chunk}(h:SH w0 M K w hp)(l:List (Nat×Chunk))(a:YL hp l:=by repeat (first|exact U|refine⟨rfl,?_⟩)):SH w0 M K w (hset l):=h.canon l a
section
variable{α β σ ρ:Type}
theorem drop_lt{l:List α}{k:Nat}(h:decide ((k:Int)<(l.length:Int))=true):∃x,l[k]? =some x/\l.drop k=x::l.drop (k+1):=by
 have a:k<l.length:=by have:=of_decide_eq_true h;omega
 exact⟨l[k],List.getElem?_eq_getElem a,List.drop_eq_getElem_cons a⟩
theorem drop_ge{l:List α}{k:Nat}(h:decide ((k:Int)<(l.length:Int))=false):l.drop k=[]:=by
 have:=of_decide_eq_false h;exact List.drop_eq_nil_of_le V
theorem jC{body:α->σ->(σ->ρ)->ρ}{k:σ->ρ}{x:α}{l:List α}{s:σ}:each body k (x::l) s=body x s (each body k l):=rfl
theorem vw{body:α->σ->(σ->ρ)->ρ}{k:σ->ρ}{s:σ}:each body k [] s=k s:=rfl
theorem zl{body:Int->α->σ->(σ->ρ)->ρ}{k:σ->ρ}{x:α}{l:List α}{s:σ}{i:Int}:fO body k i (x::l) s=body i x s (fO body k (i+1) l):=rfl
theorem QD{body:Int->α->σ->(σ->ρ)->ρ}{k:σ->ρ}{s:σ}{i:Int}:fO body k i [] s=k s:=rfl
theorem upto_lt{body:Int->σ->(σ->ρ)->ρ}{k:σ->ρ}{s:σ}{i:Int}{j m:Nat}(h:j<m):upto body k i (m-j) s=body i s (upto body k (i+1) (m-(j+1))):=by
 rw[show m-j=(m-(j+1))+1 by omega];rfl
theorem upto_ge{body:Int->σ->(σ->ρ)->ρ}{k:σ->ρ}{s:σ}{i:Int}{j m:Nat}(h:m<=j):upto body k i (m-j) s=k s:=by
 rw[show m-j=0 by omega];rfl
theorem oW{body:σ->(σ->Option β)->Option β}{m:Nat}{s:σ}{r:β}(h:again body m s=some r):∃a,m=a+1/\body s (again body a)=some r:=by
 cases m with
 |zero=>cases h
 |succ m=>exact⟨m,rfl,h⟩
theorem eu{l:List α}{k:Nat}{i:Int}{x:α}(a:i=(k:Int))(h:l[k]? =some x):l[i.toNat]? =some x:=by subst a;simpa using h
theorem gZ{k:Nat}{i:Int}(a:i=(k:Int)):0<=i:=by omega
theorem fA{l:List α}{k:Nat}{i:Int}(c:l.length<=9223372036854775807)(b:i=(k:Int))(a:decide (i<(l.length:Int))=true):lK (i+1):=by
 have:=of_decide_eq_true a;exact⟨by omega,by omega⟩
end
open Go.RowKit
section
variable{P:Program}{ops:Array Oper}{C:World->Prop}{Q:Exit->Act->World->Prop}{n:Nat}{env:Nat->Value}{w w':World}{rest:List Oper}
 {d:Option Nat} {op:Op} {ty:TypeId} {pos:String} {af:Array Edge} {v:Value} {g:Option (Nat×Bool)} {T:TypeId} {ρ:Operand->Value}
def BndN(o:Option Value)(a b:Nat):Prop:=(o=none/\a=b)\/o=some (.int .i64 a)
theorem addr_zero(g:Nat):(⟨g,0,none⟩:Addr).add 0=⟨g,0,none⟩:=rfl
theorem zG{x:Operand}{j:Option Operand}{e:Operand}{E:TypeId}{l b len cap:Nat}{ad:Option Addr}(n:SliceOf P T E l)(p:ρ x=.slice ad len cap)(o:ad=none\/∃g,ad=some ⟨g,0,none⟩)(f:BndN (j.map ρ) 0 0)(a:ρ e=.int .i64 b)(m:b<=cap):
    (execOp ρ ⟨d,.slice T x j (some e) none,ty,pos,af,g⟩).run P w=.ok (.value (.slice ad b cap)) w:=by
  obtain⟨i,h,k⟩:∃i,P.info? E=some i/\i.size=l:=by
    have:=n.info;cases e:P.info? E with
    |none=>simp[e]at this
    |some i=>simp[e]at this;exact⟨i,Z,this⟩
  have c:(Instr.sliceBounds true len cap (j.map ρ) ((some e).map ρ) none).run P w=.ok (0,b,cap) w:=by
    have q:(b:Int)<=(cap:Int):=by omega
    rcases f with⟨e1,_⟩|e1
    · simp[Instr.sliceBounds,e1,a,Instr.sliceBound,asIntOf,m]
    · simp[Instr.sliceBounds,e1,a,Instr.sliceBound,asIntOf,m]
  simp only[execOp,Instr.sliceAt,Instr.slice,underlying,p];simp only[Option.map_some,a]at c;rcases o with rfl|⟨g,rfl⟩<;>simp[n.desc,c,sizeOf,typeInfo,h,k,a,addr_zero]
theorem nX{x:Operand}{q c n:Option Operand}{E:TypeId}{e gg a b m len cap:Nat}(v:SliceOf P T E e)(z:ρ x=.slice (some ⟨gg,0,none⟩) len cap)(f:BndN (q.map ρ) a 0)(o:BndN (c.map ρ) b len)(s:(n.map ρ=none/\m=cap)\/(n.map ρ=some (.int .i64 m)/\c.map ρ=some (.int .i64 b)))
    (l:a<=b) (h:b<=m) (r:m<=cap):
    (execOp ρ ⟨d,.slice T x q c n,ty,pos,af,g⟩).run P w=.ok (.value (.slice (some (if m=a then⟨gg,0,none⟩else⟨gg,a*e,none⟩)) (b-a) (m-a))) w:=by
  obtain⟨i,t,u⟩:∃i,P.info? E=some i/\i.size=e:=by
    have:=v.info;cases c:P.info? E with
    |none=>simp[c]at this
    |some i=>simp[c]at this;exact⟨i,Z,this⟩
  have j:(Instr.sliceBounds true len cap (q.map ρ) (c.map ρ)<|n.map ρ).run P w=.ok (a,b,m) w:=by
    have B:(0:Int)<=(a:Int):=Int.natCast_nonneg a;have A:(0:Int)<=(b:Int):=Int.natCast_nonneg b;have k:b<=cap:=by omega
    have p:a<=m:=by omega
    rcases s with⟨g1,g2⟩|⟨g1,f1⟩
    · subst g2;rcases f with⟨e1,e2⟩|e1<;>rcases o with⟨f1,f2⟩|f1<;>(try subst e2)<;>(try subst f2)<;>
        simp[Instr.sliceBounds,e1,f1,g1,Instr.sliceBound,asIntOf,l,h,k]
    · rcases f with⟨e1,e2⟩|e1<;>(try subst e2)<;>
        simp[Instr.sliceBounds,e1,f1,g1,Instr.sliceBound,asIntOf,l,h,r,p]
  have y:(⟨gg,0,none⟩:Addr).add (a*e)=⟨gg,a*e,none⟩:=by
    unfold Addr.add;split
    · next hz=>rw[hz]
    · simp
  simp only[execOp,Instr.sliceAt,Instr.slice,underlying,z];simp[v.desc,j,sizeOf,typeInfo,t,u,y];split<;>rfl
structure Raw(w:World)(gg cap sz:Nat)(E:TypeId)(cur:List Value):Prop where
 blk:w.heap[gg]? =some (.cells cur.toArray E (0,0))
 len:cur.length=cap*sz
 le:cap<=maxLen
theorem addr_add(gg o k:Nat):(⟨gg,o,none⟩:Addr).add k=⟨gg,o+k,none⟩:=by
  unfold Addr.add;split
  · next hz=>rw[hz];rfl
  · rfl
theorem O3{x y:Operand}{E:TypeId}{b o gg cap a m c j:Nat}{e:List Value}{ad:Addr}(G:jX P T E b o)(r:Raw w gg cap b E e)(O:ev n env x=.slice (some ⟨gg,0,none⟩) a cap)(K:ev n env y=.slice (some ad) m c)
    (A:m=0\/ad=⟨gg,j*b,none⟩) (I:j+m<=cap) (v:a+m<=cap) (M:∀u∈(e.drop (j*b)).take (m*b),u.oneCell'=true)
    (h:∀w',bI (fun x=>x=gg) w w'->Raw w' gg cap b E (e.take (a*b)++(e.drop (j*b)).take (m*b)++e.drop (a*b+m*b))->WL P ops Q rest n (gm env d (.slice (some ⟨gg,0,none⟩) (a+m) cap)) w'):
    WL P ops Q (⟨d,.call {callee:=.builtin .append,args:= #[x,y],argTypes:= #[T,T]},ty,pos,af,none⟩::rest) n env w:=by
  obtain⟨i,z,J,S,B,R,N⟩:=G.info;have L:j*b+m*b<=cap*b:=by rw[<-Nat.add_mul];exact Nat.mul_le_mul_right _ I
  have s:a*b+m*b<=cap*b:=by rw[<-Nat.add_mul];exact Nat.mul_le_mul_right _ v
  have l:=r.len;have f:((e.drop<|j*b).take<|m*b).length=m*b:=by rw[List.length_take,List.length_drop];omega
  have p:∀k u,((e.drop<|j*b).take<|m*b)[k]? =some u->w.cell? (ad.add k)=some u:=by
    intro k u t;rcases A with rfl|rfl
    · simp at t
    · rw[addr_add];have C:k<m*b:=by
        rcases Nat.lt_or_ge k (m*b)with h|h
        · exact h
        · rw[List.getElem?_eq_none V]at t;cases t
      rw[List.getElem?_take,if_pos C,List.getElem?_drop]at t;simp[World.cell?,r.blk,t]
  have g:=run_append_room (P:=P) w T ty E i G.desc J gg a cap e.toArray r.blk ad m c _ (by rw[B];exact f) p M v (by rw[B,f];simpa[l]using s);have q:(execOp (ev n env) ⟨d,.call {callee:=.builtin .append,args:= #[x,y],argTypes:= #[T,T]},ty,pos,af,none⟩).run P w=.ok (.value<|.slice (some ⟨gg,0,none⟩) (a+m) cap) (uH w gg<|.cells (e.take (a*b)++(e.drop<|j*b).take (m*b)++e.drop (a*b+m*b)).toArray E (0,0)):=by
    rw[B,f,Gf r.blk]at g;simp only[execOp,resolve,invoke,builtin,Sem.run_bind,Sem.run_pure,Result.andThen_ok,List.map_toArray,List.map_cons,List.map_nil,O,K,g]
  refine F q<|h _ (bI.uH _ _ _) ⟨tV<|iD r.blk,?_,r.le⟩;rw[List.length_append,List.length_append,f,List.length_take,List.length_drop,l];omega
def YR(P:Program)(E:TypeId):Prop:=∃z,(P.info? E).map (·.zero)=some (some z)/\z.cells.all (·.oneCell')=true
theorem WM{z:Array Value}{k:Nat}(h:z.all (·.oneCell')=true):∀u∈(Builtin.zeroCells z k).toList,u.oneCell'=true:=by
  intro u c;simp only[Builtin.zeroCells,Array.toList_map,List.mem_map]at c;obtain⟨i,e,rfl⟩:=c;have b:i<k*z.size:=by simpa using e
  have d:0<z.size:=by
    rcases Nat.eq_zero_or_pos z.size with h0|h0
    · rw[h0,Nat.mul_zero]at b;omega
    · exact h0
  have a:i%z.size<z.size:=Nat.mod_lt _ d;rw[getElem!_pos z (i%z.size) a];exact(Array.all_eq_true.1 h) _ a
theorem SQ{x:Operand}{E:TypeId}{a l gg cap m k c:Nat}{b:List Value}(G:jX P T E a l)(y:YR P E)(q:Raw w gg cap a E b)(J:ev n env x=.slice (some ⟨gg,m*a,none⟩) k c)(L:0<k)(A:m+k<=cap)
    (h:∀w' f,bI (fun x=>x=gg) w w'->Raw w' gg cap a E f->f.take (m*a)=b.take (m*a)->WL P ops Q rest n (gm env d (.tuple #[])) w'):
    WL P ops Q (⟨d,.call {callee:=.builtin .clear,args:= #[x],argTypes:= #[T]},ty,pos,af,none⟩::rest) n env w:=by
  obtain⟨i,z,C,I,M,K,u⟩:=G.info;obtain⟨t,o,p⟩:=y;have B:t=z:=by simp[C,I]at o;exact o.symm
  subst B;have v:m*a+k*a<=cap*a:=by rw[<-Nat.add_mul];exact Nat.mul_le_mul_right _ A
  have g:=q.len;have j:(Builtin.zeroCells t.cells k).toList.length=k*a:=by rw[Array.length_toList,size_zeroCells,u]
  have e:=run_storeCells_at (P:=P) gg (m*a) E (Builtin.zeroCells t.cells k).toList 0 b.toArray w q.blk (by rw[j];simpa[g]using v) (WM p);rw[Gf q.blk]at e;obtain⟨s,rfl⟩:∃s,k=s+1:=⟨k-1,by omega⟩;have r:(execOp (ev n env) ⟨d,.call {callee:=.builtin .clear,args:= #[x],argTypes:= #[T]},ty,pos,af,none⟩).run P w=.ok (.value<|.tuple #[]) (uH w gg<|.cells (b.take (m*a)++(Builtin.zeroCells t.cells<|s+1).toList++b.drop (m*a+(s+1)*a)).toArray E (0,0)):=by
    rw[j]at e;simp only[Nat.add_zero]at e;simp only[execOp,resolve,invoke,builtin,Builtin.clear_,underlying,zeroValue,typeInfo,Sem.run_bind,Sem.run_pure,Result.andThen_ok,List.map_toArray,List.map_cons,List.map_nil,J];simp[G.desc,C,I,e]
  refine F r<|h _ _ (bI.uH _ _ _) ⟨tV<|iD q.blk,?_,q.le⟩ ?_
  · rw[List.length_append,List.length_append,j,List.length_take,List.length_drop,g];omega
  · rw[List.append_assoc,List.take_append_of_le_length (by rw[List.length_take];omega),List.take_take,Nat.min_self]
end
theorem TM{α:Type}{R:kD α}{E:TypeId}{w:World}{A:BS}{v:Value}{l:List α}(h:cz R E w A v l)(j:0<l.length):
    ∃gg cap a,v=.slice (some ⟨gg,0,none⟩) l.length cap/\Raw w gg cap R.sz E a/\l.length<=cap/\∀i (h:i<l.length),R.rd w (fun b=>A b\/b=gg) ((a.drop (i*R.sz)).take R.sz) l[i]:=by
  obtain⟨xs,f,g⟩:=h;rcases f.2 with⟨rfl,hn⟩|⟨gg,cap,a,rfl,e1,e2,e3,e4,e5,e6⟩
  · omega
  refine⟨gg,cap,a.toList,Z,⟨by simpa using e2,by simpa using e5,e4⟩,e3,fun i d=>?_⟩;have c:(i+1)*R.sz<=l.length*R.sz:=Nat.mul_le_mul_right _ d;rw[Nat.add_mul]at c;have e:=g i d;rw[<-e6,List.drop_take,List.take_take,Nat.min_eq_left V]at e;exact e
theorem YS{α:Type}{R:kD α}{w:World}{A:BS}{l:List α}{a:List Value}(h:∀i (h:i<l.length),R.rd w A ((a.drop (i*R.sz)).take R.sz) l[i]){j m:Nat}(g:j+m<=l.length):∀u∈(a.drop (j*R.sz)).take (m*R.sz),u.oneCell'=true:=by
 intro u f;obtain⟨k,d,rfl⟩:=List.getElem_of_mem f;have c:k<m*R.sz:=by rw[List.length_take]at d;omega
 have hp:=R.pos;have n:k / R.sz<m:=Nat.div_lt_of_lt_mul (by rw[Nat.mul_comm];exact c);refine R.one (h (j+k / R.sz) V) _ ?_;rw[List.mem_iff_getElem?];refine⟨k%R.sz,?_⟩;have b:k%R.sz<R.sz:=Nat.mod_lt _ hp;rw[List.getElem?_take,if_pos b,List.getElem?_drop,List.getElem_take,List.getElem_drop];have e:(j+k / R.sz)*R.sz+k%R.sz=j*R.sz+k:=by
  rw[Nat.add_mul,Nat.add_assoc,Nat.mul_comm (k / R.sz),Nat.div_add_mod]
 rw[e,List.getElem?_eq_getElem]
theorem raw_del{α:Type}{R:kD α}{E:TypeId}{w w':World}{A:BS}{l:List α}{gg cap i j:Nat}{c d:List Value}(t:Raw w' gg cap R.sz E d)(z:Raw w gg cap R.sz E c)(K:bI (fun x=>x=gg) w w')(p:i<=j)(y:j<=l.length)(B:l.length<=cap)
    (g:∀k (h:k<l.length),R.rd w (fun b=>A b\/b=gg) ((c.drop (k*R.sz)).take R.sz) l[k])
    (v:d.take ((i+(l.length-j))*R.sz)=c.take (i*R.sz)++(c.drop (j*R.sz)).take ((l.length-j)*R.sz)):
    cz R E w' A (.slice (some ⟨gg,0,none⟩) (i+(l.length-j)) cap) (l.take i++l.drop j):=by
  have e:(l.take i++l.drop j).length=i+(l.length-j):=by rw[List.length_append,List.length_take,List.length_drop];omega
  have G:=z.len;have L:l.length*R.sz<=cap*R.sz:=Nat.mul_le_mul_right _ B;have M:j*R.sz<=l.length*R.sz:=Nat.mul_le_mul_right _ y;have J:i*R.sz<=j*R.sz:=Nat.mul_le_mul_right _ p;have u:(l.length-j)*R.sz=l.length*R.sz-j*R.sz:=Nat.sub_mul _ _ _;have m:(c.take<|i*R.sz).length=i*R.sz:=by rw[List.length_take];omega
  refine⟨c.take (i*R.sz)++(c.drop<|j*R.sz).take ((l.length-j)*R.sz),⟨?_,.inr ⟨gg,cap,d.toArray,?_,Nat.zero_le _,t.blk,?_,t.le,?_,?_⟩⟩,?_⟩
  · rw[e,List.length_append,m,List.length_take,List.length_drop,Nat.add_mul];omega
  · rw[e]
  · rw[e];omega
  · simpa using t.len
  · rw[e];exact v
  · intro k r;rw[e]at r;have n:=fun cs a(h:R.rd w (fun b=>A b\/b=gg) cs a)=>R.go (A':=fun b=>A b\/b=gg) h K (fun x N _=>.inr N) fun _ h _=>h;by_cases s:k<i
    · have f:(k+1)*R.sz<=i*R.sz:=Nat.mul_le_mul_right _ s;rw[Nat.add_mul]at f;have q:=n _ _<|g k V;rw[List.getElem_append_left (by rw[List.length_take];omega),List.getElem_take,List.drop_append_of_le_length V,List.take_append_of_le_length (by rw[List.length_drop];omega),List.drop_take,List.take_take,Nat.min_eq_left V];exact q
    · have q:=n _ _<|g (j+(k-i)) V;have f:(k-i+1)*R.sz<=(l.length-j)*R.sz:=Nat.mul_le_mul_right _ V;rw[Nat.add_mul]at f;have I:i*R.sz<=k*R.sz:=Nat.mul_le_mul_right _ V;have o:(k-i)*R.sz=k*R.sz-i*R.sz:=Nat.sub_mul _ _ _;rw[List.getElem_append_right (by rw[List.length_take];omega)];have C:(l.drop j)[k-(l.take i).length]'(by rw[List.length_take,List.length_drop];omega)=l[j+(k-i)]'V:=by
        rw[List.getElem_drop];congr 1;rw[List.length_take];omega
      rw[C,List.drop_append,List.drop_eq_nil_of_le V,List.nil_append,m,<-o,List.drop_take,List.take_take,Nat.min_eq_left V,List.drop_drop,<-Nat.add_mul];exact q
theorem Raw.keep{w w':World}{gg cap b:Nat}{E:TypeId}{a:List Value}{N:BS}(h:Raw w gg cap b E a)(c:bI N w w')(hn:¬N gg):Raw w' gg cap b E a:=⟨c.blk h.blk hn,h.len,h.le⟩
section
variable{P:Program}{Q:Exit->Act->World->Prop}{n:Nat}{env:Nat->Value}{w w' w0:World}{M K:BS}{hp:Nat->Chunk}
theorem O4{id:Nat}(k:Nat){l:List Oper}(c:P.follows .mixedOrders=true)(d:Region.lexTailB .any l.toArray k=true)
  (e:∀b,Grow w b->WK P l.toArray b (fun a=>wpList P l.toArray Q (l.drop k) a b) (l.take k) n env):WC P (Code.region id l.toArray true) Q n env w:=
 ⟨wp_region_still_tail k c d (tX (e _ (Grow.drew w)).out)⟩
theorem SH.given{α:Type}{R:kD α}{E:TypeId}{v u:Value}{l c:List α}(h:SH w0 M K w hp)(i:Nat)(d:hp i=.own R E v l)(ho:cz R E w' (fun b=>M b\/rest hp i b) u c)(e:bI (ob v) w w')(hn:∀b,ob u b->b<w.heap.size->ob v b):SH w0 M K w' (bU hp i (.own R E u c)):=by
  refine h.step i e (fun b a _=>by rw[d];exact a) (fun b a f=>by rw[d];exact hn b a f) ?_;refine cz.go ho (bI.refl BE w') (fun _ h=>h.elim) (fun _ h=>h.elim) fun b a _=>?_;rcases a with a|a|a
  · exact .inl<|.inl a
  · exact .inl<|.inr a
  · exact .inr a
theorem SH.giveO{α:Type}{R:kD α}{E:TypeId}{v:Value}{l:List α}(h:SH w0 M K w hp)(i:Nat)(a:hp i=.own R E v l):cz R E w (fun b=>M b\/rest hp i b) v l:=
 cz.go (h.bE i a) (bI.refl BE w) (fun _ h=>h.elim) (fun _ h=>h.elim) (fun b c _=>.inl (c.imp id kJ))
theorem SH.Jd{α β:Type}{R:kD α}{R':kD β}{E:TypeId}{v u:Value}{l:List α}{d:List β}(h:SH w0 M K w hp)(i j:Nat)(e:hp i=.rd R v l)(c:hp j=.own R' E u d):bZ R w (fun b=>M b\/ob u b) v l:=
 (h.bJ i e).sub (fun b a _=>a.elim .inl (fun a=>.inr ⟨j,by rw[c];exact a⟩)) (fun b a _=>a.elim .inl (fun a=>.inr ⟨j,by rw[c];exact a⟩))
theorem bZ.Wx{α β:Type}{R:kD α}{R':kD β}{E:TypeId}{v u:Value}{l:List α}{d:List β}{i:Nat}(h:bZ R w (fun b=>SH.A M hp b\/ob u b) v l):bZ R w (SH.A M (bU hp i (.own R' E u d))) v l:=by
  have c:∀b,SH.A M (bU hp i<|.own R' E u d) b->SH.A M hp b\/ob u b:=by
    rintro b(a|⟨j,a⟩)
    · exact .inl<|.inl a
    · by_cases e:j=i
      · subst e;rw[df]at a;exact .inr a
      · rw[fe e]at a;exact .inl (.inr ⟨j,a⟩)
  exact h.sub (fun b a _=>c b a) fun b a _=>c b a
theorem del_len{i j l cap a:Nat}{b:List Value}(n:b.length=cap*a)(d:i<=j)(k:j<=l)(f:l<=cap):
  ((b.take (i*a)++(b.drop (j*a)).take ((l-j)*a)++b.drop (i*a+(l-j)*a)).take ((i+(l-j))*a))=b.take (i*a)++(b.drop (j*a)).take ((l-j)*a):=by
 have g:i*a<=j*a:=Nat.mul_le_mul_right _ d;have m:j*a+(l-j)*a=l*a:=by rw[<-Nat.add_mul];congr 1;omega
 have h:l*a<=cap*a:=Nat.mul_le_mul_right _ f;have e:(b.take<|i*a).length=i*a:=by rw[List.length_take];omega
 have c:((b.drop<|j*a).take ((l-j)*a)).length=(l-j)*a:=by rw[List.length_take,List.length_drop];omega
 rw[Nat.add_mul,List.take_append_of_le_length (by rw[List.length_append,e,c];omega),List.take_of_length_le (by rw[List.length_append,e,c];omega)]
def del1{α:Type}(l:List α)(i j:Int):Option (List α):=if 0<=i/\i<j/\j<=l.length then some (l.take i.toNat++l.drop j.toNat)else none
theorem o_del{α:Type}{l r:List α}{i j:Int}(h:del1 l i j=some r):∃a b:Nat,i=a/\j=b/\a<b/\b<=l.length/\r=l.take a++l.drop b:=by
  unfold del1 at h;by_cases hp:0<=i/\i<j/\j<=l.length
  · rw[if_pos hp]at h;cases h;exact⟨i.toNat,j.toNat,by omega,by omega,by omega,by omega,Z⟩
  · rw[if_neg hp]at h;cases h
end
open Go.RowKit
def selK(K:Act->World->Prop)(Q:Exit->Act->World->Prop):Exit->Act->World->Prop
 | .normal,a,w=>K a w
 |e,a,w=>Q e a w
section
variable{P:Program}{ops:Array Oper}
variable{Q:Exit->Act->World->Prop}{n:Nat}{env:Nat->Value}{w w0:World}{M K:BS}{hp:Nat->Chunk}
structure WH(P:Program)(ops:Array Oper)(ws:World)(Q:Exit->Act->World->Prop)(fuel:Nat)(listed:Array Bool)(n:Nat)(env:Nat->Value)(w:World):Prop where
 out:wpAnyH P .any ops (NoPanic Q) (Grow ws) fuel listed (act n env) w
theorem tL{id:Nat}{l:List Oper}(a:P.follows .mixedOrders=true)(b:SH w0 M K w hp)
  (h:∀w,SH w0 M K w hp->WH P l.toArray w Q l.length (Array.replicate l.length false) n env w):WC P (Code.region id l.toArray true) Q n env w:=
 ⟨wp_region_noPanic (wp_region_held (S:=Grow w.drew) a (h _ (b.grow (Grow.drew w))).out)⟩
theorem Xm{S S':World->Prop}(c:∀w,S' w->S w):∀(fuel:Nat) (listed:Array Bool) (a:Act) (w:World),wpAnyH P .any ops Q S' fuel listed a w->wpAnyH P .any ops Q S fuel listed a w
 |0,_,_,_,h=>h
 |fuel+1,_,_,_,h=>⟨h.1,fun i d=>wpOp_mono (fun a' w' b=>⟨c _ b.1,Xm c fuel _ a' w' b.2⟩) (h.2 i d)⟩
variable{d:Option Nat}{op:Op}{ty:TypeId}{pos:String}{af:Array Edge}{v:Value}{g:Option (Nat×Bool)}{i fuel:Nat}{listed:Array Bool}
theorem bz:Region.wanted ⟨d,op,ty,pos,af,none⟩ (yielded ops (act n env).tmps)=true:=rfl
theorem wh_first{ws:World}{o:Oper}(a:Grow ws w)(d:ops[i]? =some o)(e:Region.noSelect ops=true)(b:Region.free .any ops listed i=true)(c:(Region.ready .any ops listed).contains i=true)
  (f:YieldsIf P ops (Grow ws) o v (act n env)) (h:WH P ops ws Q fuel (listed.setIfInBounds i true) n (gm env o.dst v) w):WH P ops ws Q (fuel+1) listed n env w:=by
 refine⟨wpAnyH_take d e b c (fun _ _ _ h=>h) f a ?_⟩;rw[CO];exact h.out
theorem wh_ok{ws:World}(i:Nat)(b:Grow ws w)(k:ops[i]? =some ⟨d,op,ty,pos,af,g⟩)(m:Region.wanted ⟨d,op,ty,pos,af,g⟩ (yielded ops (act n env).tmps)=true)(l:Region.noSelect ops=true)(e:Region.free .any ops listed i=true)(j:(Region.ready .any ops listed).contains i=true)
  (c:∀a,Grow ws a->(execOp (ev n env) ⟨d,op,ty,pos,af,g⟩).run P a=.ok (.value v) a) (h:WH P ops ws Q fuel (listed.setIfInBounds i true) n (gm env d v) w):WH P ops ws Q (fuel+1) listed n env w:=
 wh_first (o:=⟨d,op,ty,pos,af,g⟩) b k l e j (.inl ⟨m,fun a f=>by rw[gJ];exact c a f⟩) h
theorem wh_done{ws:World}(a:Region.ready .any ops listed=[])(h:Q .normal (act n env) w):WH P ops ws Q fuel listed n env w:=⟨wpAnyH_done a (NoPanic.normal h) fuel⟩
def after(P:Program)(ops:Array Oper)(ws:World)(Q:Exit->Act->World->Prop)(fuel:Nat)(listed:Array Bool):Exit->Act->World->Prop:=
 selK (fun a' w'=>Grow ws w'/\wpAnyH P .any ops (NoPanic Q) (Grow ws) fuel listed a' w') (NoPanic Q)
theorem dV{ws:World}(a:Grow ws w)(h:WH P ops ws Q fuel listed n env w):after P ops ws Q fuel listed .normal (act n env) w:=⟨a,h.out⟩
theorem ET{K:Act->World->Prop}{Q1:Exit->Act->World->Prop}(l:ops[i]? =some ⟨d,op,ty,pos,af,g⟩)(k:Region.wanted ⟨d,op,ty,pos,af,g⟩ (yielded ops (act n env).tmps)=true)
    (h:WL P ops (selK K Q1) [⟨d,op,ty,pos,af,none⟩] n env w):wpOp P ops Q1 i K (act n env) w:=by
  unfold wpOp;simp only[l,k,if_true];have b:=h.out;unfold wpList at b;rw[if_pos (show Region.wanted _ _=true from rfl)]at b;rcases b with b|⟨ha,hl⟩
  rotate_left
  · exact .inr ⟨ha,let ⟨a,w,h⟩:=hl;⟨a,w,h⟩⟩
  refine .inl ?_;unfold Oper.wp at b⊢;have e:(execOp (act n env).eval ⟨d,op,ty,pos,af,g⟩)=execOp (act n env).eval ⟨d,op,ty,pos,af,none⟩:=by unfold execOp;rfl
  rw[e];generalize (execOp (act n env).eval ⟨d,op,ty,pos,af,none⟩).run P w=r at b⊢;cases r with
  |ok nx w'=>
    cases nx with
    |value v=>exact b
    |skip=>exact b
    |defer d=>exact b
    |enter f args=>
      refine Calls.mono b fun e m j=>?_;cases e with
      |returned v=>exact j
      |panicked c=>exact j
      |outgrown=>exact j
    |row r args=>exact b
    |_=>exact b
  |halt x w'=>
    cases x<;>exact b
theorem wh_eff{ws:World}(i:Nat)(e:Region.ready .any ops listed=[i])(b:ops[i]? =some ⟨d,op,ty,pos,af,g⟩)(c:Region.wanted ⟨d,op,ty,pos,af,g⟩ (yielded ops (act n env).tmps)=true)
  (h:WL P ops (after P ops ws Q fuel (listed.setIfInBounds i true)) [⟨d,op,ty,pos,af,none⟩] n env w):WH P ops ws Q (fuel+1) listed n env w:=by
 refine⟨wpAnyH_all e zq3 fun k a=>?_⟩;obtain rfl:k=i:=by simpa using a
 exact ET b c h
theorem Gg{ws:World}{l:Option Nat}{b:Op}{e:TypeId}{a:String}{c:Array Edge}{o:Option (Nat×Bool)}(i j:Nat)(p:Region.ready .any ops listed=[i,j])(r:ops[i]? =some ⟨d,op,ty,pos,af,g⟩)(s:Region.wanted ⟨d,op,ty,pos,af,g⟩ (yielded ops (act n env).tmps)=true)
    (q:ops[j]? =some ⟨l,b,e,a,c,o⟩) (m:Region.wanted ⟨l,b,e,a,c,o⟩ (yielded ops (act n env).tmps)=true)
    (h:WL P ops (after P ops ws Q fuel (listed.setIfInBounds i true)) [⟨d,op,ty,pos,af,none⟩] n env w) (t:WL P ops (after P ops ws Q fuel (listed.setIfInBounds j true)) [⟨l,b,e,a,c,none⟩] n env w):WH P ops ws Q (fuel+1) listed n env w:=by
  refine⟨wpAnyH_all p zq3 fun k f=>?_⟩;rcases List.mem_cons.1 f with rfl|f
  · exact ET r s h
  · obtain rfl:k=j:=by simpa using f
    exact ET q m t
theorem wh_base{ws:World}(a:Grow ws w)(h:WH P ops w Q fuel listed n env w):WH P ops ws Q fuel listed n env w:=⟨Xm (fun _ h=>a.trans h) _ _ _ _ h.out⟩
variable{w':World}{rest:List Oper}{T:TypeId}{x y:Operand}
theorem wL{α:Type}{R:kD α}{E:TypeId}{f c:Nat}{a:Array (Nat×Operand)}{len:Nat}{vs:List Value}{xs:List α}(h:SH w0 M K w hp)(i:Nat)(q:jX P T E f c)(t:R.sz=f)
  (x:(a.toList.map fun p=>(p.1,ev n env p.2))=vs.zipIdx.map fun p=>(p.2,p.1)) (e:vs.length=len) (r:Hr R w (SH.A M hp) vs xs) (j:Nat.ble (len*f) 16777216=true)
  (k:∀w' u,SH w0 M K w' (bU hp i (.own R E u xs))->Grow w w'->(∀b,ob u b->w.heap.size<=b)->WL P ops Q rest n (gm env d u) w'):
  WL P ops Q (⟨d,.buildSlice T len a,ty,pos,af,none⟩::rest) n env w:=by
 obtain⟨u,w',v,o,s,m⟩:=run_bs (d:=d) (ty:=ty) (pos:=pos) (af:=af) (g:=none) q t x e r h.lt<|Nat.le_of_ble_eq_true j;exact F v<|k w' u (h.vU i o s fun b l=>Nat.le_of_eq<|m b l) o fun b l=>Nat.le_of_eq<|m b l
theorem bI.fresh{a b c:World}{N:BS}(h:Grow a b)(k:bI N b c)(hN:∀x,N x->a.heap.size<=x):Grow a c:=h.step k (fun x d e=>by have:=hN x d;omega)
end
open Go.RowKit Go.Deep
def wM{α:Type}(P:Program)(T:TypeId)(R:kD α):Prop:=
 ∀(a:Type) (enc:TypeId×Value->a) (w:World) (b:Nat->Bool) (c:Bool) (fuel:Nat) (cs:List Value) (x:DataW a×List MemPlace),DataW.trod enc P w 0 b c fuel T cs=some x->∃d,R.rd w BE cs d
theorem opens_int{P:Program}{T:TypeId}(d:P.underlying T=some (.int .i64)):wM P T dh:=by
 intro a enc w b c fuel cs x h;obtain⟨n,rfl,_,e⟩:=DataW.trod_int d h;exact⟨n,Z⟩
theorem opens_bool{P:Program}{T:TypeId}(e:P.underlying T=some .bool):wM P T rBool:=by
 intro a enc w c d fuel cs x h;obtain⟨b,rfl,_⟩:=DataW.trod_bool e h;exact⟨b,Z⟩
theorem wN{α:Type}{P:Program}{T E:TypeId}{R:kD α}(X:P.underlying T=some (.slice E))(N:P.cellsOf E=R.sz)(h:wM P E R):wM P T (sU R):=by
  intro g enc w t z fuel cs x hx;rcases open_slice X hx with⟨rfl,rfl⟩|⟨a,len,cap,m,n,D,Pl,rfl,_,hl,hm,hmm,rfl,hel⟩
  · exact⟨[],_,Z,dR.nil⟩
  · have a0:len<=m:=by rw[hmm];split<;>omega
    have C:∀i,i<len->∃d:α,∃b o cells c r,a=⟨b,o,none⟩/\w.heap[b]? =some (.cells cells c r)/\R.rd w BE ((cells.toList.drop<|o+i*R.sz).take R.sz) d:=by
      intro i p;obtain⟨l,Q,h2⟩:=hel i V;obtain⟨d,hd⟩:=h g enc w t z n l _ h2;refine⟨d,?_⟩;rw[N]at Q;obtain⟨_,O,s⟩:=World.cells?_some Q;have hp:=R.pos;have G:a.spot=none:=by
        obtain⟨B,g1,_⟩:=hel 0 V;rw[N]at g1;obtain⟨_,S,q⟩:=World.cells?_some g1;have M:=q 0 hp;rw[Nat.zero_mul,add_add,Nat.zero_add]at M;have:∃v,B[0]? =some v:=⟨B[0]'V,List.getElem?_eq_getElem V⟩;obtain⟨v,K⟩:=this;rw[K]at M;have:=World.cell?_spot M;simpa[Addr.add]using this
      obtain⟨b,o,sp⟩:=a;simp only at G;subst G;have A:∀k,(⟨b,o,none⟩:Addr).add k=⟨b,o+k,none⟩:=by
        intro k;unfold Addr.add;split<;>simp_all
      have I:∀j,j<R.sz->w.cell? ⟨b,o+i*R.sz+j,none⟩=l[j]? :=by
        intro j y;have:=s j y;rw[add_add,A]at this;rw[<-this,Nat.add_assoc]
      have J:=I 0 hp;have K:l[0]? =some (l[0]'V):=List.getElem?_eq_getElem V;rw[K]at J;unfold World.cell? at J;cases u:w.heap[b]? with
      |none=>simp[u]at J
      |some ob=>
        cases ob with
        |cells cells c r=>
          refine⟨b,o,cells,c,r,Z,u,?_⟩;have e:(cells.toList.drop<|o+i*R.sz).take R.sz=l:=by
            apply List.ext_getElem?;intro j;rw[List.getElem?_take,List.getElem?_drop];by_cases y:j<R.sz
            · rw[if_pos y,<-I j y];simp[World.cell?,u]
            · rw[if_neg y,List.getElem?_eq_none V]
          rw[e];exact hd
        |_=>simp[u]at J
    obtain⟨f,hf⟩:∃f:(i:Nat)->i<len->α,∀i p,∃b o cells c r,a=⟨b,o,none⟩/\w.heap[b]? =some (.cells cells c r)/\R.rd w BE ((cells.toList.drop<|o+i*R.sz).take R.sz) (f i p):=
      ⟨fun i p=>Classical.choose (C i p),fun i p=>Classical.choose_spec (C i p)⟩
    refine⟨List.ofFn fun i:Fin len=>f i.val i.isLt,_,Z,some a,cap,by simp,by simpa using hl,hm,(fun h=>by cases h),?_⟩;intro i p;have L:i<len:=by simpa using p
    obtain⟨b,o,cells,c,r,rfl,u,hr⟩:=hf i L;refine⟨b,o,cells,c,r,Z,fun h=>h,u,?_⟩;simpa using hr
theorem zm{a:Type}{enc:TypeId×Value->a}{P:Program}{w:World}{b:Nat->Bool}{c:Bool}{T:TypeId}{j:Array Field}{fuel:Nat}{cs:List Value}{x:DataW a×List MemPlace}(k:P.underlying T=some (.struct j))(h:DataW.trod enc P w 0 b c fuel T cs=some x):
    cs.length=P.cellsOf T/\∃n:Nat,∀(i:Nat) (f:Field),j[i]? =some f->∃y:DataW a×List MemPlace,DataW.trod enc P w 0 b c n f.type ((cs.drop f.offset).take (P.cellsOf f.type))=some y:=by
  obtain⟨xs,n,_,_,m,d,l⟩:=DataW.trod_struct k h;refine⟨m,n,fun i f e=>?_⟩;have:=l i f e;have g:i<xs.length:=by
    rw[d];rcases Nat.lt_or_ge i j.size with h1|h1
    · exact h1
    · rw[Array.getElem?_eq_none h1]at e;cases e
  rw[List.getElem?_eq_getElem g]at this;exact⟨_,this⟩
theorem fG{α:Type}{a:Type}{enc:TypeId×Value->a}{P:Program}{w:World}{b:Nat->Bool}{c:Bool}{g:Array Field}{n:Nat}{cs:List Value}{R:kD α}{i:Nat}{f:Field}
  (h:∀(i:Nat) (f:Field),g[i]? =some f->∃y:DataW a×List MemPlace,DataW.trod enc P w 0 b c n (Field.type f) ((cs.drop f.offset).take (P.cellsOf f.type))=some y) (k:g[i]? =some f) (j:P.cellsOf f.type=R.sz) (l:wM P f.type R):
  ∃d,R.rd w BE ((cs.drop f.offset).take R.sz) d:=by
 obtain⟨y,e⟩:=h i f k;rw[j]at e;exact l a enc w b c n _ _ e
theorem cells_one{l:List Value}{o:Nat}{v:Value}(h:(l.drop o).take 1=[v]):l[o]? =some v:=by
 have:=congrArg (fun l=>l[0]?) h;simpa[List.getElem?_take,List.getElem?_drop]using this
theorem tY{α:Type}{l:List α}{n:Nat}(h:l.length=n+1):∃a t,l=a::t/\t.length=n:=by
 cases l with
 |nil=>simp at h
 |cons a t=>exact⟨a,t,rfl,by simpa using h⟩
theorem nobody{w:World}:∀b,BE b->b<w.heap.size:=fun _ h=>h.elim
open Go.RowKit Go.MapKept
def aget(z:Value)(jP:List (Int×Value))(k:Int):Value:=match jP with|[]=>z|p::r=>if k=p.1 then p.2 else aget z r k
def Ud(jP:List (Int×Value))(k:Int)(v:Value):List (Int×Value):=match jP with|[]=>[(k,v)]|p::r=>if k=p.1 then(p.1,v)::r else p::Ud r k v
def ahas(jP:List (Int×Value))(k:Int):Bool:=match jP with|[]=>false|p::r=>if k=p.1 then true else ahas r k
def Ng(jP:List (Int×Value))(k:Int)(i:Nat):Option (Nat×Value):=match jP with|[]=>none|p::r=>if k=p.1 then some (i,p.2)else Ng r k (i+1)
theorem Em{jP:List (Int×Value)}{k:Int}:∀{a:List MapEntry} {i:Nat},a.map (fun e=>(e.key,e.val))=jP.map (fun p=>(Value.int .i64 p.1,p.2))->
    Instr.findNow (.int .i64) (.int .i64 k) a i=some (Ng jP k i):=by
  induction jP with
  |nil=>intro a i h;cases a with|nil=>rfl|cons e r=>simp at h
  |cons p r ih=>
    intro a i h;cases a with
    |nil=>simp at h
    |cons e s=>
      simp only[List.map_cons,List.cons.injEq,Prod.mk.injEq]at h;obtain⟨⟨c,f⟩,d⟩:=h;unfold Instr.findNow Ng;by_cases b:k=p.1
      · simp[Instr.sameNow,c,f,b]
      · have:(k==p.1)=false:=by simpa using b
        simp[Instr.sameNow,c,this,b,ih d]
theorem Ue{z:Value}{k:Int}:∀{jP:List (Int×Value)} {i:Nat},aget z jP k=match Ng jP k i with|some (_,v)=>v|none=>z
  |[],i=>rfl
  |p::r,i=>by
    unfold aget Ng;by_cases a:k=p.1
    · simp[a]
    · simp only[a,if_false];exact Ue
theorem QE{k:Int}{v:Value}:∀{jP:List (Int×Value)} {i:Nat},Ng jP k i=none->Ud jP k v=jP++[(k,v)]
  |[],i,_=>rfl
  |p::r,i,h=>by
    unfold Ng at h;unfold Ud;by_cases a:k=p.1
    · simp[a]at h
    · simp only[a,if_false]at h⊢;rw[QE h];rfl
theorem QF{k:Int}{v u:Value}:∀{jP:List (Int×Value)} {i j:Nat},Ng jP k i=some (j,u)->i<=j/\∃p,jP[j-i]? =some p/\p.1=k/\Ud jP k v=jP.set (j-i) (k,v)
  |[],i,j,h=>by cases h
  |p::r,i,j,h=>by
    unfold Ng at h;unfold Ud;by_cases a:k=p.1
    · simp only[a,if_true,Option.some.injEq,Prod.mk.injEq]at h;obtain⟨rfl,_⟩:=h;refine⟨Nat.le_refl _,p,by simp,a.symm,?_⟩;simp[a]
    · simp only[a,if_false]at h⊢;obtain⟨e,q,d,b,c⟩:=QF (v:=v) h;refine⟨by omega,q,?_,b,?_⟩
      · rw[show j-i=(j-(i+1))+1 by omega];simpa using d
      · rw[show j-i=(j-(i+1))+1 by omega,c];simp
section
variable{P:Program}{ops:Array Oper}{Q:Exit->Act->World->Prop}{n:Nat}{env:Nat->Value}{w w' w0:World}{M K:BS}{hp:Nat->Chunk}{rest:List Oper}
 {d:Option Nat} {op:Op} {ty:TypeId} {pos:String} {af:Array Edge} {v:Value} {g:Option (Nat×Bool)} {T:TypeId} {ρ:Operand->Value}
structure MapOf(P:Program)(T:TypeId)(z:Value):Prop where
  desc:∃K E,P.underlying T=some (.map K E)/\P.underlying K=some (.int .i64)/\(P.info? E).map (·.zero)=some (some z)
theorem r_makeMap:(execOp ρ ⟨d,.makeMap T none,ty,pos,af,g⟩).run P w=.ok (.value (.map (some w.heap.size))) (w.alloc (.map #[] 0)):=by
 simp[execOp,Instr.makeMap,World.alloc,-World.alloc_eq]
theorem ckInt{e:Bool}{K:TypeId}{k:Int}(a:P.underlying K=some (.int .i64)):(Instr.checkKey e 10000 K (.int .i64 k)).run P w=.ok () w:=
 run_checkKey a (by trivial) e 9999
theorem Jc.push{b:Array MapEntry}{c:Nat}(h:Jc b c)(k v:Value):Jc (b.push {key:=k,val:=v,born:=c}) (c+1):=by
  refine⟨fun e a=>?_,?_⟩
  · simp only[Array.toList_push,List.mem_append,List.mem_singleton]at a;rcases a with a|rfl
    · exact Nat.lt_succ_of_lt<|h.1 e a
    · exact Nat.lt_succ_self c
  · rw[Array.toList_push,List.map_append,List.nodup_append];refine⟨h.2,by simp,fun x d y f=>?_⟩;simp only[List.map_cons,List.map_nil,List.mem_singleton]at f;obtain⟨e,a,rfl⟩:=List.mem_map.1 d;have:=h.1 e a;omega
theorem Jc.modify{a:Array MapEntry}{c:Nat}(h:Jc a c)(j:Nat)(k v:Value):Jc (a.modify j fun e=>{e with key:=k,val:=v}) c:=by
  have e:(a.modify j fun e=>{e with key:=k,val:=v}).toList.map (·.born)=a.toList.map (·.born):=by
    apply List.ext_getElem?;intro i;simp only[List.getElem?_map,Array.getElem?_toList,Array.getElem?_modify];by_cases d:j=i
    · subst d;cases a[j]? <;>simp
    · simp[d]
  refine⟨fun x f=>?_,by rw[e];exact h.2⟩;have:x.born∈(a.modify j fun e=>{e with key:=k,val:=v}).toList.map (·.born):=List.mem_map.2 ⟨x,f,Z⟩;rw[e]at this;obtain⟨y,g,b⟩:=List.mem_map.1 this;rw[<-b];exact h.1 y g
theorem r_lookup{z:Value}{x y:Operand}{b:Nat}{k:Int}{jP:List (Int×Value)}(s:MapOf P T z)(u:ρ x=.map (some b))(q:ρ y=.int .i64 k)(f:Gd w b jP):
  (execOp ρ ⟨d,.lookup T x y false,ty,pos,af,g⟩).run P w=.ok (.value (aget z jP k)) w:=by
 obtain⟨K,E,m,j,h⟩:=s.desc;obtain⟨A,a,f,r,v⟩:=f;obtain⟨i,c,t⟩:∃i,P.info? E=some i/\i.zero=some z:=by
  cases c:P.info? E with
  |none=>simp[c]at h
  |some i=>simp[c]at h;exact⟨i,Z,h⟩
 have n:=Em (k:=k) (i:=0) r;have o:(getObj b).run P w=.ok (.map A a) w:=by simp[getObj,Sem.run,f]
 rw[Ue (z:=z) (k:=k) (jP:=jP) (i:=0)];simp only[execOp,Instr.lookup,underlying,u,q];have l:=fun e=>ckInt (P:=P) (w:=w) (e:=e) (K:=K) (k:=k) j;simp only[Sem.run_bind,run_program,Result.andThen_ok,m,Sem.run_pure,o,l,Instr.findKey,underlying,j,n];cases ha:Ng jP k 0 with
 |none=>simp[zeroValue,typeInfo,c,t]
 |some p=>simp
theorem YT{z:Value}{x y u:Operand}{b:Nat}{k:Int}{jP:List (Int×Value)}(hT:MapOf P T z)(hx:ev n env x=.map (some b))(S:ev n env y=.int .i64 k)(X:ev n env u=v)(c:Gd w b jP)
    (h:∀w',bI (fun x=>x=b) w w'->Gd w' b (Ud jP k v)->WL P ops Q rest n (gm env d undef) w'):
    WL P ops Q (⟨d,.mapUpdate T x y u,ty,pos,af,none⟩::rest) n env w:=by
  obtain⟨K,E,M,I,h3⟩:=hT.desc;obtain⟨f,a,c,m,t⟩:=c;have A:=Em (k:=k) (i:=0) m;have O:(getObj b).run P w=.ok (.map f a) w:=by simp[getObj,Sem.run,c]
  have s:=iD c;have L:=fun e=>ckInt (P:=P) (w:=w) (e:=e) (K:=K) (k:=k) I;have g:f.toList.length=jP.length:=by have:=congrArg List.length m;simpa using this
  cases ha:Ng jP k 0 with
  |none=>
    refine yS (w':=uH w b<|.map (f.push {key:=.int .i64 k,val:=v,born:=a})<|a+1) ?_<|h _ (bI.uH _ _ _) ⟨_,_,tV s,?_,t.push _ _⟩
    · rw[ha]at A;simp only[execOp,Instr.mapUpdate,underlying,hx,S,X];simp only[Sem.run_bind,run_program,Result.andThen_ok,M,Sem.run_pure,O,L,Instr.findKey,underlying,I,A,run_setObj_map _ c];rfl
    · rw[QE ha];simp[m]
  |some p=>
    obtain⟨j,u0⟩:=p;obtain⟨_,q,B,J,hset⟩:=QF (v:=v) ha;simp only[Nat.sub_zero]at B hset;have G:j<f.size:=by
      have o:j<jP.length:=by
        rcases Nat.lt_or_ge j jP.length with o|o
        · exact o
        · rw[List.getElem?_eq_none o]at B;cases B
      simpa[<-g]using o
    have r:f[j].key=.int .i64 k:=by
      have N:=congrArg (fun l=>l[j]?) m;simp[B,G]at N;rw[N.1,J]
    refine yS (w':=uH w b<|.map (f.modify j fun e=>{e with key:=.int .i64 k,val:=v}) a) ?_<|h _ (bI.uH _ _ _) ⟨_,_,tV s,?_,t.modify _ _ _⟩
    · rw[ha]at A;have C:(Instr.keyThatStays (.int .i64 k)<|.int .i64 k).run P w=.ok (.int .i64 k) w:=by simp[Instr.keyThatStays,Instr.sameBits]
      simp only[execOp,Instr.mapUpdate,underlying,hx,S,X];simp only[Sem.run_bind,run_program,Result.andThen_ok,M,Sem.run_pure,O,L,Instr.findKey,underlying,I,A,Array.getElem?_eq_getElem G,Option.map_some,Option.getD_some,r,C,run_setObj_map _ c];rfl
    · rw[hset,List.map_set,<-m];apply List.ext_getElem?;intro i;simp only[List.getElem?_map,Array.getElem?_toList,Array.getElem?_modify,List.getElem?_set,List.length_map,Array.length_toList];by_cases R:j=i
      · subst R;simp[G]
      · simp[R]
theorem wl_insert{z:Value}{x y u:Operand}{b:Nat}{k:Int}{jP:List (Int×Value)}(hT:MapOf P T z)(hx:ev n env x=.map (some b))(S:ev n env y=.int .i64 k)(X:ev n env u=v)(c:Gd w b jP)
    (h:∀w',bI (fun x=>x=b) w w'->Gd w' b (Ud jP k v)->WL P ops Q rest n (gm env d undef) w'):
    WL P ops Q (⟨d,.insert T x y u,ty,pos,af,none⟩::rest) n env w:=by
  obtain⟨K,E,M,I,h3⟩:=hT.desc;obtain⟨f,a,c,m,t⟩:=c;have A:=Em (k:=k) (i:=0) m;have O:(getObj b).run P w=.ok (.map f a) w:=by simp[getObj,Sem.run,c]
  have s:=iD c;have L:=fun e=>ckInt (P:=P) (w:=w) (e:=e) (K:=K) (k:=k) I;have g:f.toList.length=jP.length:=by have:=congrArg List.length m;simpa using this
  cases ha:Ng jP k 0 with
  |none=>
    refine yS (w':=uH w b<|.map (f.push {key:=.int .i64 k,val:=v,born:=a})<|a+1) ?_<|h _ (bI.uH _ _ _) ⟨_,_,tV s,?_,t.push _ _⟩
    · rw[ha]at A;simp only[execOp,Instr.mapUpdate,underlying,hx,S,X];simp only[Sem.run_bind,run_program,Result.andThen_ok,M,Sem.run_pure,O,L,Instr.findKey,underlying,I,A,run_setObj_map _ c];rfl
    · rw[QE ha];simp[m]
  |some p=>
    obtain⟨j,u0⟩:=p;obtain⟨_,q,B,J,hset⟩:=QF (v:=v) ha;simp only[Nat.sub_zero]at B hset;have G:j<f.size:=by
      have o:j<jP.length:=by
        rcases Nat.lt_or_ge j jP.length with o|o
        · exact o
        · rw[List.getElem?_eq_none o]at B;cases B
      simpa[<-g]using o
    have r:f[j].key=.int .i64 k:=by
      have N:=congrArg (fun l=>l[j]?) m;simp[B,G]at N;rw[N.1,J]
    refine yS (w':=uH w b<|.map (f.modify j fun e=>{e with key:=.int .i64 k,val:=v}) a) ?_<|h _ (bI.uH _ _ _) ⟨_,_,tV s,?_,t.modify _ _ _⟩
    · rw[ha]at A;have C:(Instr.keyThatStays (.int .i64 k)<|.int .i64 k).run P w=.ok (.int .i64 k) w:=by simp[Instr.keyThatStays,Instr.sameBits]
      simp only[execOp,Instr.mapUpdate,underlying,hx,S,X];simp only[Sem.run_bind,run_program,Result.andThen_ok,M,Sem.run_pure,O,L,Instr.findKey,underlying,I,A,Array.getElem?_eq_getElem G,Option.map_some,Option.getD_some,r,C,run_setObj_map _ c];rfl
    · rw[hset,List.map_set,<-m];apply List.ext_getElem?;intro i;simp only[List.getElem?_map,Array.getElem?_toList,Array.getElem?_modify,List.getElem?_set,List.length_map,Array.length_toList];by_cases R:j=i
      · subst R;simp[G]
      · simp[R]
theorem aidx_has{k:Int}:∀{jP:List (Int×Value)} {i:Nat},ahas jP k=(Ng jP k i).isSome
  |[],i=>rfl
  |p::r,i=>by
    unfold ahas Ng;by_cases a:k=p.1
    · simp[a]
    · simp only[a,if_false];exact aidx_has
theorem r_lookup2{z:Value}{x y:Operand}{b:Nat}{k:Int}{jP:List (Int×Value)}(s:MapOf P T z)(u:ρ x=.map (some b))(q:ρ y=.int .i64 k)(f:Gd w b jP):
  (execOp ρ ⟨d,.lookup T x y true,ty,pos,af,g⟩).run P w=.ok (.value (.tuple #[aget z jP k,.bool (ahas jP k)])) w:=by
 obtain⟨K,E,m,j,h⟩:=s.desc;obtain⟨A,a,f,r,v⟩:=f;obtain⟨i,c,t⟩:∃i,P.info? E=some i/\i.zero=some z:=by
  cases c:P.info? E with
  |none=>simp[c]at h
  |some i=>simp[c]at h;exact⟨i,Z,h⟩
 have n:=Em (k:=k) (i:=0) r;have o:(getObj b).run P w=.ok (.map A a) w:=by simp[getObj,Sem.run,f]
 rw[Ue (z:=z) (k:=k) (jP:=jP) (i:=0),aidx_has (i:=0)];simp only[execOp,Instr.lookup,underlying,u,q];have l:=fun e=>ckInt (P:=P) (w:=w) (e:=e) (K:=K) (k:=k) j;simp only[Sem.run_bind,run_program,Result.andThen_ok,m,Sem.run_pure,o,l,Instr.findKey,underlying,j,n];cases ha:Ng jP k 0 with
 |none=>simp[zeroValue,typeInfo,c,t]
 |some p=>simp
def lk{α:Type}(k:Int):List (Int×α)->Option α
 |[]=>none
 |p::r=>if k=p.1 then some p.2 else lk k r
theorem TN{α:Type}{f:α->Value}{z:α}{k:Int}:∀(l:List (Int×α)),aget (f z) (l.map fun p=>(p.1,f p.2)) k=f ((lk k l).getD z)
  |[]=>rfl
  |p::r=>by
    show(if k=p.1 then f p.2 else aget _ _ k)=f ((if k=p.1 then some p.2 else lk k r).getD z);by_cases h:k=p.1
    · simp[h]
    · simp only[h,if_false];exact TN r
theorem ahas_lk{α:Type}{f:α->Value}{k:Int}:∀(l:List (Int×α)),ahas (l.map fun p=>(p.1,f p.2)) k=(lk k l).isSome
  |[]=>rfl
  |p::r=>by
    show(if k=p.1 then true else ahas _ k)=(if k=p.1 then some p.2 else lk k r).isSome;by_cases h:k=p.1
    · simp[h]
    · simp only[h,if_false];exact ahas_lk r
theorem r_lk2{α:Type}{f:α->Value}{zz:α}{z:Value}{x y:Operand}{b:Nat}{k:Int}{jP:List (Int×Value)}(l:List (Int×α))(h:SH w0 M K w hp)(i:Nat)(a:hp i=.mp b jP)(j:MapOf P T z)(n:ρ x=.map (some b))(c:ρ y=.int .i64 k)(m:z=f zz)(e:jP=l.map fun p=>(p.1,f p.2)):
  (execOp ρ ⟨d,.lookup T x y true,ty,pos,af,g⟩).run P w=.ok (.value (.tuple #[f ((lk k l).getD zz),.bool (lk k l).isSome])) w:=by
 have:=r_lookup2 (d:=d) (ty:=ty) (pos:=pos) (af:=af) (g:=g) j n c<|h.mpAt i a;rw[m,e,TN,ahas_lk]at this;exact this
theorem r_lk1{α:Type}{f:α->Value}{zz:α}{z:Value}{x y:Operand}{b:Nat}{k:Int}{jP:List (Int×Value)}(l:List (Int×α))(h:SH w0 M K w hp)(i:Nat)(a:hp i=.mp b jP)(j:MapOf P T z)(n:ρ x=.map (some b))(c:ρ y=.int .i64 k)(m:z=f zz)(e:jP=l.map fun p=>(p.1,f p.2)):
  (execOp ρ ⟨d,.lookup T x y false,ty,pos,af,g⟩).run P w=.ok (.value (f ((lk k l).getD zz))) w:=by
 have:=r_lookup (d:=d) (ty:=ty) (pos:=pos) (af:=af) (g:=g) j n c<|h.mpAt i a;rw[m,e,TN]at this;exact this
theorem LW(h:SH w0 M K w hp)(i:Nat)(k:∀w' b,SH w0 M K w' (bU hp i (.mp b []))->WL P ops Q rest n (gm env d (.map (some b))) w'):WL P ops Q (⟨d,.makeMap T none,ty,pos,af,none⟩::rest) n env w:=
 F r_makeMap (k _ _ (h.learn i (Grow.alloc _ _) (fun b a=>Nat.le_of_eq a.symm) ⟨#[],0,LV _ _,rfl,by simp[Jc]⟩))
theorem SH.mpSet{b:Nat}{jP wD:List (Int×Value)}(h:SH w0 M K w hp)(i:Nat)(c:hp i=.mp b jP)(d:bI (fun x=>x=b) w w')(e:Gd w' b wD):SH w0 M K w' (bU hp i (.mp b wD)):=
 h.step i d (fun x a _=>by rw[c];exact a) (fun x a _=>by rw[c];exact a) e
theorem tZ{z:Value}{x y u:Operand}{b:Nat}{k:Int}{jP wD:List (Int×Value)}(h:SH w0 M K w hp)(i:Nat)(a:hp i=.mp b jP)(l:MapOf P T z)(o:ev n env x=.map (some b))(f:ev n env y=.int .i64 k)(j:ev n env u=v)(g:Ud jP k v=wD)
  (e:∀w',SH w0 M K w' (bU hp i (.mp b wD))->WL P ops Q rest n (gm env d undef) w'):WL P ops Q (⟨d,.insert T x y u,ty,pos,af,none⟩::rest) n env w:=
 wl_insert l o f j (h.mpAt i a) fun w' c m=>e w' (h.mpSet i a c (g▸m))
theorem Kq{z:Value}{x y u:Operand}{b:Nat}{k:Int}{jP wD:List (Int×Value)}(h:SH w0 M K w hp)(i:Nat)(a:hp i=.mp b jP)(l:MapOf P T z)(o:ev n env x=.map (some b))(f:ev n env y=.int .i64 k)(j:ev n env u=v)(g:Ud jP k v=wD)
  (e:∀w',SH w0 M K w' (bU hp i (.mp b wD))->WL P ops Q rest n (gm env d undef) w'):WL P ops Q (⟨d,.mapUpdate T x y u,ty,pos,af,none⟩::rest) n env w:=
 YT l o f j (h.mpAt i a) fun w' c m=>e w' (h.mpSet i a c (g▸m))
end
theorem SH.Xn{w:World}{M K:BS}{hp:Nat->Chunk}{w0:World}{b:Nat}{cs:List Value}(h:SH w0 M K w hp)(i:Nat)(ho:∃E,w.heap[b]? =some (.cells cs.toArray E (0,0)))(hn:∀b,¬iE hp b):SH w0 M K w (bU hp i (.pt b 0 cs)):=by
 obtain⟨E,ho⟩:=ho;exact h.know i (fun _ h=>h) ⟨hn b,_,_,_,ho,by simp⟩
open Go.RowKit
def hasB(s:Str)(c:UInt8):Bool:=decide (0<=Go.Lib.indexByte s c)
section
variable{P:Program}{ops:Array Oper}{Q:Exit->Act->World->Prop}{n:Nat}{env:Nat->Value}{w:World}{rest:List Oper}
 {d:Option Nat} {ty:TypeId} {pos:String} {af:Array Edge} {v:Value} {x:Operand}
theorem LY{f:FuncId}(c:List Value){xs:Array Operand}{z:Array TypeId}{args:List Value}{j dj:Nat}{b a:Bool}(i:Bool)(o:(ops[j]?).bind (·.dst)=some dj)(m:ev n env (.tmp dj)=gv i (.bool b))(u:OZ P f)(y:(i&&(b==a))=true->ev n env x=.func (.func f) #[] c.toArray)
    (q:(i&&(b==a))=true->xs.toList.map (ev n env)++c=args) (r:Calls P f args.toArray w (fun e w'=>Grow w w'/\e=.returned v))
    (k:∀w',Grow w w'->WL P ops Q rest n (gm env d (gv (i&&(b==a)) v)) w'):
    WL P ops Q (⟨d,.call {callee:=.value x,args:=xs,argTypes:=z},ty,pos,af,some (j,a)⟩::rest) n env w:=by
  by_cases g:(i&&(b==a))=true
  · have p:=gl g;have s:=gr g;rw[dZ p]at m;have A:b=a:=by simpa using s
    subst A;refine Ho o m<|bT u (y g) (by simpa using q g) r ?_;rintro e w'⟨t,rfl⟩;refine⟨_,Z,?_⟩;have:=k w' t;rw[dZ g]at this;exact this
  · have l:(i&&(b==a))=false:=by simpa using g
    have h:=k w<|bI.refl _ _;rw[l]at h;cases i with
    |true=>exact bN o m (by simpa using l) h
    |false=>exact wl_offU o m h
theorem Uf{f:FuncId}(a:List Value){xs:Array Operand}{q:Array TypeId}{args:List Value}{j dj:Nat}{b c:Bool}(o:(ops[j]?).bind (·.dst)=some dj)(m:ev n env (.tmp dj)=.bool b)(l:OZ P f)(p:(b==c)=true->ev n env x=.func (.func f) #[] a.toArray)
    (g:(b==c)=true->xs.toList.map (ev n env)++a=args) (i:Calls P f args.toArray w (fun e w'=>Grow w w'/\e=.returned v))
    (k:∀w',Grow w w'->WL P ops Q rest n (gm env d (gv (b==c) v)) w'):
    WL P ops Q (⟨d,.call {callee:=.value x,args:=xs,argTypes:=q},ty,pos,af,some (j,c)⟩::rest) n env w:=
  LY a true o m l (fun h=>p (by simpa using h)) (fun h=>g (by simpa using h)) i (by simpa using k)
end
open Go.RowKit
section
variable{P:Program}{ops:Array Oper}{Q:Exit->Act->World->Prop}{n:Nat}{env:Nat->Value}{w w' w0:World}{M K:BS}{hp:Nat->Chunk}{rest:List Oper}
 {d:Option Nat} {op:Op} {ty:TypeId} {pos:String} {af:Array Edge} {v:Value} {g:Option (Nat×Bool)} {T:TypeId} {ρ:Operand->Value}
theorem r_cap{x:Operand}{T E:TypeId}{b:Nat}{a:Option Addr}{l c:Nat}(f:SliceOf P T E b)(e:ρ x=.slice a l c):
  (execOp ρ ⟨d,.call {callee:=.builtin .cap,args:= #[x],argTypes:= #[T]},ty,pos,af,g⟩).run P w=.ok (.value (.int .i64 c)) w:=by
 simp[execOp,resolve,invoke,builtin,Builtin.cap_,e,underlying,f.desc,goInt]
theorem J9(w:World)(t r ty e:TypeId)(i:TypeInfo)(z:Value)(u:P.underlying t=some (.slice e))(p:P.underlying r=some (.int .i64))(y:P.info? e=some i)(B:i.zero=some z)(I:0<i.size)
  (b:Addr) (a c:Nat) (d:List Value) (m:d.length=a*i.size) (holds:∀j v,d[j]? =some v->w.cell? (b.add j)=some v)
  (n:Nat) (G:0<n) (E:c<a+n) (C:((a+n:Nat):Int)<=9223372036854775807) (s:Builtin.nextslicecap (a+n) c*i.bytes<=281474976710656) (A:n*i.bytes<=281474976710656):
  (Builtin.append_ #[t,r] ty #[.slice (some b) a c,.int .i64 n]).run P w=
   .ok (.slice (some ⟨w.heap.size,0,none⟩) (a+n) (grownCap w (a+n) c e))
    (w.drew.alloc (.cells (d.toArray++Builtin.zeroCells z.cells n++Builtin.zeroCells z.cells (grownCap w (a+n) c e-(a+n))) e)):=by
 have hn:¬(a+n<=c):=by omega
 have k:n≠0:=by omega
 have l:¬(9223372036854775807<((a:Int)+(n:Int))):=by omega
 have h:¬(281474976710656<Builtin.nextslicecap (a+n) c*i.bytes):=by omega
 have x:IntKind.i64.wrap (n:Int)=n:=by rw[IntKind.wrap_i64];omega
 have g:¬(281474976710656<(n:Int)*(i.bytes:Int)):=by
  rw[<-Int.natCast_mul];omega
 have f:¬((n:Int)<0):=by omega
 have o:¬(n*i.size=0):=Nat.mul_ne_zero k V;have q:=run_firstCells_some (P:=P) w.drew i.size a b a c d m (by simpa using holds);simp[Builtin.append_,run_underlying u,run_underlying p,sizeOf,typeInfo,zeroValue,y,B,asInt,asIntOf,x,hn,k,f,o,l,h,g,Question.forced,q,newRow,grownCap]
theorem wl_growRaw{x y:Operand}{E s:TypeId}{e c gg cap a k:Nat}{b:List Value}(J:jX P T E e c)(O:P.underlying s=some (.int .i64))(M:Raw w gg cap e E b)(hx:ev n env x=.slice (some ⟨gg,0,none⟩) a cap)(X:ev n env y=.int .i64 (k:Nat))(hs:0<e)(t:a<=cap)(hk:0<k)(R:cap<a+k)
    (hb:(a+k)*c<=140737488355328) (N:a+k<=maxLen)
    (h:∀w' g2 f g,Grow w w'->w.heap.size<=g2->a+k<=f->Raw w' g2 f e E g->g.take (a*e)=b.take (a*e)->WL P ops Q rest n (gm env d (.slice (some ⟨g2,0,none⟩) (a+k) f)) w'):
    WL P ops Q (⟨d,.call {callee:=.builtin .append,args:= #[x,y],argTypes:= #[T,s]},ty,pos,af,none⟩::rest) n env w:=by
  obtain⟨i,z,S,hz,G,m,B⟩:=J.info;have K:a*e<=cap*e:=Nat.mul_le_mul_right _ t;have L:=M.len;have o:(b.take<|a*e).length=a*e:=by rw[List.length_take];omega
  have holds:∀j u,(b.take<|a*e)[j]? =some u->w.cell? ((⟨gg,0,none⟩:Addr).add j)=some u:=by
    intro j u r;rw[addr_add,Nat.zero_add];rw[List.getElem?_take]at r;split at r
    · simp[World.cell?,M.blk,r]
    · cases r
  have I:((a+k:Nat):Int)<=9223372036854775807:=by simp only[maxLen]at N;omega
  have v:Builtin.nextslicecap (a+k) cap<=2*(a+k):=by
    exact nextslicecap_le V
  have q:Builtin.nextslicecap (a+k) cap*i.bytes<=281474976710656:=by
    have:=Nat.mul_le_mul_right i.bytes v;rw[Nat.mul_assoc,m]at this;rw[m];omega
  have A:k*i.bytes<=281474976710656:=by
    rw[m];have:k*c<=(a+k)*c:=Nat.mul_le_mul_right _ V;omega
  have l:=J9 (P:=P) w T s ty E i z J.desc O S hz V ⟨gg,0,none⟩ a cap (b.take (a*e)) (by rw[G];exact o) holds k hk R I q A;have p:(execOp (ev n env) ⟨d,.call {callee:=.builtin .append,args:= #[x,y],argTypes:= #[T,s]},ty,pos,af,none⟩).run P w=.ok (.value<|.slice (some ⟨w.heap.size,0,none⟩) (a+k)<|grownCap w (a+k) cap E) (w.drew.alloc<|.cells ((b.take<|a*e).toArray++Builtin.zeroCells z.cells k++Builtin.zeroCells z.cells (grownCap w (a+k) cap E-(a+k))) E):=by
    simp only[execOp,resolve,invoke,builtin,Sem.run_bind,Sem.run_pure,Result.andThen_ok,List.map_toArray,List.map_cons,List.map_nil,hx,X,l]
  have hge:=grownCap_ge w (a+k) cap E;have C:grownCap w (a+k) cap E<=maxLen:=grownCap_le_maxLen w (a+k) cap E N;refine F p<|h _ _ _ ((b.take<|a*e)++(Builtin.zeroCells z.cells k).toList++(Builtin.zeroCells z.cells<|grownCap w (a+k) cap E-(a+k)).toList) ?_ (Nat.le_refl _) hge ⟨?_,?_,C⟩ ?_
  · exact(Grow.drew w).trans<|Grow.alloc _ _
  · have:=heap_alloc_new w.drew<|.cells ((b.take<|a*e).toArray++Builtin.zeroCells z.cells k++Builtin.zeroCells z.cells (grownCap w (a+k) cap E-(a+k))) E;rw[show((b.take (a*e))++(Builtin.zeroCells z.cells k).toList++(Builtin.zeroCells z.cells (grownCap w (a+k) cap E-(a+k))).toList).toArray=((b.take (a*e)).toArray++Builtin.zeroCells z.cells k++Builtin.zeroCells z.cells (grownCap w (a+k) cap E-(a+k))) by apply Array.ext';simp];exact this
  · rw[List.length_append,List.length_append,o,Array.length_toList,Array.length_toList,size_zeroCells,size_zeroCells,B,<-Nat.add_mul,<-Nat.add_mul];congr 1;omega
  · rw[List.append_assoc,List.take_append_of_le_length V,List.take_of_length_le V]
theorem run_copyN(w:World)(dT r ty e:TypeId)(i:TypeInfo)(g o d l:Nat)(a:Addr)(b k:Nat)(c:Array Value)(t:TypeId)(cs:List Value)
  (n:P.underlying dT=some (.slice e)) (u:P.info? e=some i)
  (s:w.heap[g]? =some (.cells c t (0,0))) (hn:cs.length=Nat.min b d*i.size)
  (f:∀j v,cs[j]? =some v->w.cell? (a.add j)=some v) (h:o+cs.length<=c.size) (q:∀v∈cs,v.oneCell'=true):
  (Builtin.copy_ #[dT,r] ty #[.slice (some ⟨g,o,none⟩) d l,.slice (some a) b k]).run P w=
   .ok (goInt (Nat.min b d)) (w.setRow g (c.toList.take o++cs++c.toList.drop (o+cs.length)).toArray):=by
 have p:=run_loadCells_list (P:=P) w a cs f;have m:=run_storeCells_at P g o t cs 0 c w s (by simpa using h) q;simp[Builtin.copy_,run_underlying n,Builtin.lenOf,Builtin.firstCells,sizeOf,typeInfo,u,<-hn,p,m]
theorem Je{x y:Operand}{E r:TypeId}{b g gg cap o dl dc m c:Nat}{a news:List Value}{ad:Addr}(A:jX P T E b g)(q:Raw w gg cap b E a)(J:ev n env x=.slice (some ⟨gg,o*b,none⟩) dl dc)(C:ev n env y=.slice (some ad) m c)
  (v:news.length=Nat.min m dl*b) (k:∀j u,news[j]? =some u->w.cell? (ad.add j)=some u) (G:∀u∈news,u.oneCell'=true) (p:o+Nat.min m dl<=cap)
  (h:∀w',bI (fun x=>x=gg) w w'->Raw w' gg cap b E (a.take (o*b)++news++a.drop (o*b+news.length))->WL P ops Q rest n (gm env d (.int .i64 (Nat.min m dl:Nat))) w'):
  WL P ops Q (⟨d,.call {callee:=.builtin .copy,args:= #[x,y],argTypes:= #[T,r]},ty,pos,af,none⟩::rest) n env w:=by
 obtain⟨i,z,B,L,t,K,I⟩:=A.info;have f:=q.len;have s:o*b+news.length<=cap*b:=by rw[v,<-Nat.add_mul];exact Nat.mul_le_mul_right _ p
 have e:=run_copyN (P:=P) w T r ty E i gg (o*b) dl dc ad m c a.toArray E news A.desc B q.blk (by rw[t];exact v) k (by simpa[f]using s) G;rw[Gf q.blk]at e;have l:(execOp (ev n env) ⟨d,.call {callee:=.builtin .copy,args:= #[x,y],argTypes:= #[T,r]},ty,pos,af,none⟩).run P w=.ok (.value<|.int .i64 (Nat.min m dl:Nat)) (uH w gg<|.cells (a.take (o*b)++news++a.drop (o*b+news.length)).toArray E (0,0)):=by
  simp only[execOp,resolve,invoke,builtin,Sem.run_bind,Sem.run_pure,Result.andThen_ok,List.map_toArray,List.map_cons,List.map_nil,J,C,e];rfl
 refine F l<|h _ (bI.uH _ _ _) ⟨tV<|iD q.blk,?_,q.le⟩;rw[List.length_append,List.length_append,List.length_take,List.length_drop,f];omega
structure OverFn(P:Program)(f:FuncId)(T B:TypeId):Prop where
 out:∀(args:Array Value) (w:World),(callFunc f args).run P w=((Extern.SlicesOverlaps.overlaps #[T,T] #[B] args).run P w).andThen fun v w'=>.ok (.value v) w'
theorem wl_overlaps{x:Operand}{xs:Array Operand}{A:Array TypeId}{f:FuncId}{E B:TypeId}{j e g1 g2 c2 o1 o2 m1 m2 k1 k2:Nat}{b a:List Value}{s:TypeId}(t:OverFn P f T B)(q:jX P T E j e)(m:w.heap[g1]? =some (.cells b.toArray s (0,0)))(p:Raw w g2 c2 j E a)(k:g1≠g2)(r:0<c2*j)
  (y:ev n env x=.func (.func f) #[] #[]) (l:xs.toList.map (ev n env)=[.slice (some ⟨g1,o1,none⟩) m1 k1,.slice (some ⟨g2,o2,none⟩) m2 k2])
  (h:WL P ops Q rest n (gm env d (.bool false)) w):
  WL P ops Q (⟨d,.call {callee:=.value x,args:=xs,argTypes:=A},ty,pos,af,none⟩::rest) n env w:=by
 obtain⟨i,z,u,G,o,C,v⟩:=q.info;have ho:=Lib.run_overlaps_apart (P:=P) w T B E q.desc j (fun w=>by simp[sizeOf,typeInfo,u,o]) ⟨g1,o1,none⟩ ⟨g2,o2,none⟩ m1 k1 m2 k2 k s E b.length a.length (by simp[World.shape?,m]) (by simp[World.shape?,p.blk]) (by rw[p.len];omega) (by simp[World.frozen?,m]) (by simp[World.frozen?,m]);have g:xs.map (ev n env)= #[.slice (some ⟨g1,o1,none⟩) m1 k1,.slice (some ⟨g2,o2,none⟩) m2 k2]:=by
  apply Array.ext';simpa using l
 have c:=t.out #[.slice (some ⟨g1,o1,none⟩) m1 k1,.slice (some ⟨g2,o2,none⟩) m2 k2] w;rw[ho]at c;refine F ?_ h;simp only[execOp,resolve,y,Deferred.ofValue,invoke];simp[g,c]
end
open Go.RowKit
section
variable{β:Type}
theorem ins_l1{C X:List β}{p s:Nat}(a:X.length=s)(hp:p<=C.length):(C.take p++X++C.drop (p+s)).take (p+s)=C.take p++X:=by
 have h:(C.take p++X).length=p+s:=by simp[a];omega
 rw[<-h,List.take_left]
theorem ins_l2{B a R:List β}{p q:Nat}(c:p<=B.length)(b:a.length=q):(B.take p++a++R).take (p+q)=B.take p++a:=by
 have h:(B.take p++a).length=p+q:=by simp[b];omega
 rw[<-h,List.take_left]
theorem ins_l3{C X a R:List β}{p s q:Nat}(d:X.length=s)(hp:p+s<=C.length)(e:a.length=q):
  ((C.take (p+s)++a++R).take p++X++(C.take (p+s)++a++R).drop (p+s)).take (p+s+q)=C.take p++X++a:=by
 have b:(C.take<|p+s).length=p+s:=by simp;omega
 have f:(C.take (p+s)++a++R).take p=C.take p:=by
  rw[List.append_assoc,List.take_append_of_le_length V,List.take_take,Nat.min_eq_left V]
 have c:(C.take (p+s)++a++R).drop (p+s)=a++R:=by
  rw[List.append_assoc];exact List.drop_left' b
 rw[f,c,<-List.append_assoc];have g:(C.take p++X++a).length=p+s+q:=by simp[d,e];omega
 rw[<-g,List.take_left]
end
theorem raw_ins{α:Type}{R:kD α}{E:TypeId}{w w':World}{A N:BS}{l:List α}{x:α}{gg g2 d i:Nat}{c f m:List Value}(G:Raw w' g2 d R.sz E f)(M:bI (fun y=>y=gg) w w')(t:g2<w.heap.size->g2=gg)(T:i<=l.length)(hc:l.length+1<=d)(a0:l.length*R.sz<=c.length)
    (s:∀k (h:k<l.length),R.rd w (fun b=>A b\/b=gg) ((c.drop (k*R.sz)).take R.sz) l[k]) (O:R.rd w N m x) (hN:∀b,(A b\/b=gg)->b<w.heap.size->N b) (X:gg<w.heap.size)
    (P:f.take (i*R.sz+R.sz+(l.length-i)*R.sz)=c.take (i*R.sz)++m++(c.drop (i*R.sz)).take ((l.length-i)*R.sz)):
    cz R E w' A (.slice (some ⟨g2,0,none⟩) (l.length+1) d) (l.take i++[x]++l.drop i):=by
  have e:(l.take i++[x]++l.drop i).length=l.length+1:=by simp;omega
  have o:=R.len O;have Q:i*R.sz<=l.length*R.sz:=Nat.mul_le_mul_right _ T;have n:(l.length-i)*R.sz=l.length*R.sz-i*R.sz:=Nat.sub_mul _ _ _;have p:(c.take<|i*R.sz).length=i*R.sz:=by rw[List.length_take];omega
  have L:(l.length+1)*R.sz=i*R.sz+R.sz+(l.length-i)*R.sz:=by rw[Nat.add_mul,n];omega
  have u:∀cs a,R.rd w (fun b=>A b\/b=gg) cs a->R.rd w' (fun b=>A b\/ob (.slice (some ⟨g2,0,none⟩) (l.length+1) d) b) cs a:=fun cs a h=>
    R.go h M (fun b g _=>.inr g) (fun b g r=>g.elim .inl (fun g=>.inr (by have:b=g2:=g;subst this;exact t r)))
  have z:R.rd w' (fun b=>A b\/ob (.slice (some ⟨g2,0,none⟩) (l.length+1) d) b) m x:=
    R.go O M (fun b g r=>hN b (.inr g) r) (fun b g r=>hN b (g.elim .inl (fun g=>.inr (by have:b=g2:=g;subst this;exact t r))) r)
  refine⟨c.take (i*R.sz)++m++(c.drop<|i*R.sz).take ((l.length-i)*R.sz),⟨?_,.inr ⟨g2,d,f.toArray,?_,Nat.zero_le _,G.blk,?_,G.le,?_,?_⟩⟩,?_⟩
  · rw[e,L,List.length_append,List.length_append,p,o,List.length_take,List.length_drop,n];omega
  · rw[e]
  · rw[e];omega
  · simpa using G.len
  · rw[e,L];exact P
  · intro k K;rw[e]at K;by_cases B:k<i
    · have q:(k+1)*R.sz<=i*R.sz:=Nat.mul_le_mul_right _ B;rw[Nat.add_mul]at q;have I:=u _ _<|s k V;have v:(l.take i++[x]++l.drop i)[k]'(by rw[e];omega)=l[k]'V:=by
        rw[List.getElem_append_left (by simp;omega),List.getElem_append_left (by simp;omega),List.getElem_take]
      rw[v,List.append_assoc,List.drop_append_of_le_length V,List.take_append_of_le_length (by rw[List.length_drop];omega),List.drop_take,List.take_take,Nat.min_eq_left V];exact I
    · by_cases C:k=i
      · subst C;have v:(l.take k++[x]++l.drop k)[k]'(by rw[e];omega)=x:=by
          rw[List.getElem_append_left (by simp;omega),List.getElem_append_right (by simp;omega)];simp
        rw[v,List.append_assoc];have J:(c.take (k*R.sz)++(m++(c.drop<|k*R.sz).take ((l.length-k)*R.sz))).drop (k*R.sz)=m++(c.drop<|k*R.sz).take ((l.length-k)*R.sz):=by
          exact List.drop_left' p
        rw[J,<-o,List.take_left];exact z
      · obtain⟨j,rfl⟩:∃j,k=i+1+j:=⟨k-i-1,by omega⟩;have I:=u _ _<|s (i+j) V;have v:(l.take i++[x]++l.drop i)[i+1+j]'(by rw[e];omega)=l[i+j]'V:=by
          rw[List.getElem_append_right (by simp;omega),List.getElem_drop];congr 1;simp;omega
        have S:(c.take (i*R.sz)++m).length=i*R.sz+R.sz:=by rw[List.length_append,p,o]
        have J:(c.take (i*R.sz)++m++(c.drop<|i*R.sz).take ((l.length-i)*R.sz)).drop ((i+1+j)*R.sz)=((c.drop<|i*R.sz).take ((l.length-i)*R.sz)).drop (j*R.sz):=by
          rw[show(i+1+j)*R.sz=(c.take (i*R.sz)++m).length+j*R.sz by rw[S,Nat.add_mul,Nat.add_mul,Nat.one_mul]];rw[List.drop_append];have:(c.take (i*R.sz)++m).drop ((c.take (i*R.sz)++m).length+j*R.sz)=[]:=List.drop_eq_nil_of_le V;rw[this,List.nil_append];congr 1;omega
        have q:(j+1)*R.sz<=(l.length-i)*R.sz:=Nat.mul_le_mul_right _ V;rw[Nat.add_mul]at q;rw[v,J,List.drop_take,List.take_take,Nat.min_eq_left V,List.drop_drop,<-Nat.add_mul];exact I
def ins1{α:Type}(l:List α)(i:Int)(m:List α):Option (List α):=if 0<=i/\i<=l.length then some (l.take i.toNat++m++l.drop i.toNat)else none
theorem o_ins{α:Type}{l r m:List α}{i:Int}(h:ins1 l i m=some r):∃a:Nat,i=a/\a<=l.length/\r=l.take a++m++l.drop a:=by
  unfold ins1 at h;by_cases hp:0<=i/\i<=l.length
  · rw[if_pos hp]at h;cases h;exact⟨i.toNat,by omega,by omega,Z⟩
  · rw[if_neg hp]at h;cases h
theorem LZ{w:World}{gg cap c:Nat}{E:TypeId}{b:List Value}(d:Raw w gg cap c E b)(o k:Nat):∀j u,((b.drop o).take k)[j]? =some u->w.cell? ((⟨gg,o,none⟩:Addr).add j)=some u:=by
  intro j u a;rw[addr_add];rw[List.getElem?_take]at a;split at a
  · rw[List.getElem?_drop]at a;simp[World.cell?,d.blk,a]
  · cases a
theorem cz.srcO{α:Type}{R:kD α}{E:TypeId}{w:World}{A:BS}{v:Value}{l:List α}(h:cz R E w A v l):dR R w BE (fun b=>A b\/ob v b) v l:=by
  obtain⟨xs,d,c⟩:=h;rcases d.2 with⟨rfl,hn⟩|⟨g,cap,cur,rfl,e1,e2,e3,e4,e5,e6⟩
  · have:l=[]:=List.eq_nil_of_length_eq_zero hn;subst this;exact dR.nil
  · refine⟨some ⟨g,0,none⟩,cap,Z,e3,e4,(fun h=>by cases h),fun i a=>⟨g,0,cur,E,(0,0),Z,fun h=>h,e2,?_⟩⟩;have:=c i a;rw[<-e6,List.drop_take,List.take_take,Nat.min_eq_left ?_]at this
    · rw[Nat.zero_add];exact this
    · have:(i+1)*R.sz<=l.length*R.sz:=Nat.mul_le_mul_right _ a;rw[Nat.add_mul]at this;omega
section
variable{P:Program}{ops:Array Oper}{Q:Exit->Act->World->Prop}{n:Nat}{env:Nat->Value}{w:World}{rest:List Oper}
 {d:Option Nat} {ty:TypeId} {pos:String} {af:Array Edge} {v:Value} {T:TypeId} {x y:Operand}
theorem wl_appO{α:Type}{R:kD α}{E:TypeId}{e a:Nat}{A:BS}{u:Value}{l m:List α}(h:jX P T E e a)(j:R.sz=e)(s:cz R E w A v l)(f:dR R w BE A u m)(r:ev n env x=v)(C:ev n env y=u)
  (q:∀b,ob v b->A b) (z:(l.length+m.length)*a<=140737488355328) (o:l.length+m.length<=9223372036854775807)
  (k:∀w' c,cz R E w' A c (l++m)->bI (ob v) w w'->(∀b,ob c b->b<w.heap.size->ob v b)->WL P ops Q rest n (gm env d c) w'):
  WL P ops Q (⟨d,.call {callee:=.builtin .append,args:= #[x,y],argTypes:= #[T,T]},ty,pos,af,none⟩::rest) n env w:=by
 obtain⟨c,w',p,B,i,t⟩:=YP (d:=d) (ty:=ty) (pos:=pos) (af:=af) (g:=none) h j r s C f q z o;exact F p<|k w' c B i t
end
theorem ins_av{α β:Type}{R:kD α}{R':kD β}{E f:TypeId}{w0 w:World}{M K:BS}{hp:Nat->Chunk}{i j:Nat}{v u:Value}{l:List α}{m:List β}(h:SH w0 M K w hp)(c:i≠j)(g:hp i=.own R E v l)(d:hp j=.own R' f u m):∀b,((M b\/rest hp i b)\/ob v b)->b<w.heap.size->(M b\/rest hp j b)\/ob u b:=by
  rintro b((a|⟨k,n,a⟩)|a)_
  · exact .inl<|.inl a
  · by_cases e:k=j
    · subst e;rw[d]at a;exact .inr a
    · exact .inl<|.inr ⟨k,e,a⟩
  · exact .inl (.inr ⟨i,c,by rw[g];exact a⟩)
open Go.RowKit
section
variable{P:Program}{ops:Array Oper}
variable{Q:Exit->Act->World->Prop}{n:Nat}{env:Nat->Value}{w w0:World}{M K:BS}{hp:Nat->Chunk}
structure TP(P:Program)(ops:Array Oper)(L:BS)(ws:World)(Q:Exit->Act->World->Prop)(fuel:Nat)(listed:Array Bool)(n:Nat)(env:Nat->Value)(w:World):Prop where
 out:wpAnyH P .any ops (NoPanic Q) (bI L ws) fuel listed (act n env) w
theorem jo{L:BS}{id:Nat}{l:List Oper}(a:P.follows .mixedOrders=true)(b:SH w0 M K w hp)
  (h:∀w,SH w0 M K w hp->TP P l.toArray L w Q l.length (Array.replicate l.length false) n env w):WC P (Code.region id l.toArray true) Q n env w:=
 ⟨wp_region_noPanic (wp_region_held (S:=bI L w.drew) a (h _ (b.grow (Grow.drew w))).out)⟩
variable{d:Option Nat}{op:Op}{ty:TypeId}{pos:String}{af:Array Edge}{v:Value}{g:Option (Nat×Bool)}{i fuel:Nat}{listed:Array Bool}
theorem whk_first{L:BS}{ws:World}{o:Oper}(a:bI L ws w)(d:ops[i]? =some o)(e:Region.noSelect ops=true)(b:Region.free .any ops listed i=true)(c:(Region.ready .any ops listed).contains i=true)
  (f:YieldsIf P ops (bI L ws) o v (act n env)) (h:TP P ops L ws Q fuel (listed.setIfInBounds i true) n (gm env o.dst v) w):TP P ops L ws Q (fuel+1) listed n env w:=by
 refine⟨wpAnyH_take d e b c (fun _ _ _ h=>h) f a ?_⟩;rw[CO];exact h.out
theorem whk_ok{L:BS}{ws:World}(i:Nat)(b:bI L ws w)(k:ops[i]? =some ⟨d,op,ty,pos,af,g⟩)(m:Region.wanted ⟨d,op,ty,pos,af,g⟩ (yielded ops (act n env).tmps)=true)(l:Region.noSelect ops=true)(e:Region.free .any ops listed i=true)(j:(Region.ready .any ops listed).contains i=true)
  (c:∀a,bI L ws a->(execOp (ev n env) ⟨d,op,ty,pos,af,g⟩).run P a=.ok (.value v) a) (h:TP P ops L ws Q fuel (listed.setIfInBounds i true) n (gm env d v) w):TP P ops L ws Q (fuel+1) listed n env w:=
 whk_first (o:=⟨d,op,ty,pos,af,g⟩) b k l e j (.inl ⟨m,fun a f=>by rw[gJ];exact c a f⟩) h
theorem whk_done{L:BS}{ws:World}(a:Region.ready .any ops listed=[])(h:Q .normal (act n env) w):TP P ops L ws Q fuel listed n env w:=⟨wpAnyH_done a (NoPanic.normal h) fuel⟩
def QG(P:Program)(ops:Array Oper)(L:BS)(ws:World)(Q:Exit->Act->World->Prop)(fuel:Nat)(listed:Array Bool):Exit->Act->World->Prop:=
 selK (fun a' w'=>bI L ws w'/\wpAnyH P .any ops (NoPanic Q) (bI L ws) fuel listed a' w') (NoPanic Q)
theorem au{L:BS}{ws:World}(a:bI L ws w)(h:TP P ops L ws Q fuel listed n env w):QG P ops L ws Q fuel listed .normal (act n env) w:=⟨a,h.out⟩
theorem whk_eff{L:BS}{ws:World}(i:Nat)(a:Region.ready .any ops listed=[i])(e:ops[i]? =some ⟨d,op,ty,pos,af,g⟩)(b:Region.wanted ⟨d,op,ty,pos,af,g⟩ (yielded ops (act n env).tmps)=true)
  (h:WL P ops (QG P ops L ws Q fuel (listed.setIfInBounds i true)) [⟨d,op,ty,pos,af,none⟩] n env w):TP P ops L ws Q (fuel+1) listed n env w:=by
 refine⟨wpAnyH_all a zq3 fun k c=>?_⟩;obtain rfl:k=i:=by simpa using c
 exact ET e b h
theorem iU{L:BS}{ws:World}{l:Option Nat}{b:Op}{e:TypeId}{a:String}{c:Array Edge}{o:Option (Nat×Bool)}(i j:Nat)(s:Region.ready .any ops listed=[i,j])(r:ops[i]? =some ⟨d,op,ty,pos,af,g⟩)(q:Region.wanted ⟨d,op,ty,pos,af,g⟩ (yielded ops (act n env).tmps)=true)
    (p:ops[j]? =some ⟨l,b,e,a,c,o⟩) (m:Region.wanted ⟨l,b,e,a,c,o⟩ (yielded ops (act n env).tmps)=true)
    (h:WL P ops (QG P ops L ws Q fuel (listed.setIfInBounds i true)) [⟨d,op,ty,pos,af,none⟩] n env w) (t:WL P ops (QG P ops L ws Q fuel (listed.setIfInBounds j true)) [⟨l,b,e,a,c,none⟩] n env w):TP P ops L ws Q (fuel+1) listed n env w:=by
  refine⟨wpAnyH_all s zq3 fun k f=>?_⟩;rcases List.mem_cons.1 f with rfl|f
  · exact ET r q h
  · obtain rfl:k=j:=by simpa using f
    exact ET p m t
end
theorem bI.DY{a b c:World}{L N:BS}(h:bI L a b)(k:bI N b c)(hN:∀x,N x->a.heap.size<=x):bI L a c:=h.step k (fun x d e=>by have:=hN x d;omega)
theorem bI.same{a b c:World}{L:BS}(h:bI L a b)(k:bI L b c):bI L a c:=h.step k (fun _ d _=>d)
section
variable{P:Program}{ops:Array Oper}{Q:Exit->Act->World->Prop}{n:Nat}{env:Nat->Value}{w w' w0:World}{M K:BS}{hp:Nat->Chunk}{rest:List Oper}
 {d:Option Nat} {op:Op} {ty:TypeId} {pos:String} {af:Array Edge} {v:Value} {g:Option (Nat×Bool)} {T:TypeId} {ρ:Operand->Value} {x y:Operand}
theorem YU{α:Type}{R:kD α}{E:TypeId}{t:Nat}{l:List α}{k:Int}{a a':α}{b off:Nat}{z u:Value}(h:SH w0 M K w hp)(i:Nat)(r:hp i=.own R E u l)(G:ob u b)(hs:R.sz=t)(s:l[k.toNat]? =some a)(hT:One P T z)(c:ev n env x=.pointer (some ⟨b,k.toNat*t+off,none⟩))
    (hy:ev n env y=v) (h1:v.oneCell'=true) (o:Nat.blt off t=true) (hset:∀cs,R.rd w (SH.A M hp) cs a->R.rd w (SH.A M hp) (cs.set off v) a')
    (kk:∀w',SH w0 M K w' (bU hp i (.own R E u (l.set k.toNat a')))->bI (ob u) w w'->WL P ops Q rest n (gm env d undef) w'):
    WL P ops Q (⟨d,.store T x y,ty,pos,af,none⟩::rest) n env w:=by
  subst hs;rw[Nat.blt_eq]at o;have m:k.toNat<l.length:=by
    rcases Nat.lt_or_ge k.toNat l.length with h|h
    · exact h
    · rw[List.getElem?_eq_none h]at s;cases s
  have J:l[k.toNat]=a:=by rw[List.getElem?_eq_getElem m]at s;exact Option.some.inj s
  generalize k.toNat=k at*;have e:∀b,ob u b->SH.A M hp b:=fun b G=>.inr ⟨i,by rw[r];exact G⟩;obtain⟨xs,S,q3⟩:=h.bE i r;rcases S.2 with⟨rfl,hn⟩|⟨g',cap,cur,rfl,e1,e2,e3,e4,e5,e6⟩
  · omega
  have I:b=g':=G;subst I;have L:(k+1)*R.sz<=l.length*R.sz:=Nat.mul_le_mul_right _ m;have a0:l.length*R.sz<=cap*R.sz:=Nat.mul_le_mul_right _ e3;rw[Nat.add_mul]at L;have C:k*R.sz+off<cur.size:=by omega
  have g:=bI.uH w b<|.cells (cur.setIfInBounds (k*R.sz+off) v) E (0,0);refine yS (OX hT c e2 C hy h1) (kk _ (h.step i g (fun x c _=>by rw[r];exact c) (fun x c _=>by rw[r];exact c) ⟨xs.set (k*R.sz+off) v,⟨?_,.inr ⟨b,cap,cur.setIfInBounds (k*R.sz+off) v,?_,e1,?_,?_,e4,?_,?_⟩⟩,?_⟩) (g.weaken (fun x c _=>c)))
  · rw[List.length_set,List.length_set];exact S.1
  · rw[List.length_set]
  · rw[tV (iD e2)]
  · rw[List.length_set];exact e3
  · simpa using e5
  · rw[List.length_set,Array.toList_setIfInBounds,List.take_set,e6]
  · intro f N;have B:f<l.length:=by rwa[List.length_set]at N
    have q:=fun cs a(h:R.rd w (SH.A M hp) cs a)=>R.go (A':=fun x=>(M x\/(SH.av hp i (.own R E (.slice (some ⟨b,0,none⟩) l.length cap) (l.set k a'))) x)\/ob (.slice (some ⟨b,0,none⟩) l.length cap) x) h g (fun x c _=>e x c) (fun x c _=>by
      rcases c with(c|c|c)|c
      · exact .inl c
      · exact .inr<|kJ c
      · exact e x c
      · exact e x c)
    have O:=fun j(X:j<l.length)=>R.go (A':=SH.A M hp) (q3 j X) (bI.refl BE w) (fun _ h=>h.elim) fun x c _=>.inl c;by_cases p:f=k
    · subst p;rw[List.getElem_set_self,MS rfl];exact q _ _<|hset _<|J▸O f m
    · rw[List.getElem_set_ne (Ne.symm p),Ko]
      · exact q _ _<|O f B
      · rcases Nat.lt_or_ge k f with h5|h5
        · left;have:(k+1)*R.sz<=f*R.sz:=Nat.mul_le_mul_right _ h5;rw[Nat.add_mul]at this;omega
        · right;have:(f+1)*R.sz<=k*R.sz:=Nat.mul_le_mul_right _ V;rw[Nat.add_mul]at this;omega
end
open Go.RowKit
section
variable{w0 w:World}{M K:BS}{hp:Nat->Chunk}{α:Type}{R:kD α}
theorem SH.gL(h:SH w0 M K w hp)(i:Nat):SH w0 M K w (bU hp i .no):=h.step i (bI.refl BE w) (fun _ h=>h.elim) (fun _ h=>h.elim) U
variable{P:Program}{T T2 ty:TypeId}{ρ:Operand->Value}{d:Option Nat}{pos:String}{af:Array Edge}{g:Option (Nat×Bool)}{x y:Operand}{v:Value}{A:BS}{o:Option α}
def PtrTo(P:Program)(T:TypeId):Prop:=∃E,P.underlying T=some (.pointer E)
theorem PtrTo.p(a:PtrTo P T):P.underlying T=some (.pointer (P.pointee T)):=by
 obtain⟨E,a⟩:=a;simp[Program.pointee,a]
end
open Go.RowKit
def Chunk.O5:Chunk->Prop
 | .sr .. =>False
 | .pt .. =>False
 | .two a b=>a.O5/\b.O5
 |_=>True
theorem Chunk.re{c:Chunk}{w:World}{M O i j:BS}(e:c.O5)(h:c.holds w M O)(d:∀b,i b\/j b->b<w.heap.size->M b\/O b):c.holds w i j:=by
 induction c with
 |no=>trivial
 |rd R v l=>exact dR.sub h d d
 |sr R v l=>exact e.elim
 |pt b o cs=>exact e.elim
 |blk b cs=>exact h
 |own R E v l=>exact cz.go h (bI.refl BE w) (fun _ h=>h.elim) (fun _ h=>h.elim) (fun b f g=>.inl (d b f g))
 |rp R v x=>exact R.go h (bI.refl BE w) (fun _ h=>h.elim) d
 |two a b iha ihb=>exact⟨iha e.1 h.1,ihb e.2 h.2.1,h.2.2⟩
 |eH S=>exact S.go h (bI.refl BE w) (fun _ h=>h.elim) (fun _ h=>h.elim) (fun b f g=>.inl (d b f g))
 |mp b jP=>exact h
section
variable{w0 w w':World}{M K:BS}{hp:Nat->Chunk}
theorem SH.pair(h:SH w0 M K w hp)(i j:Nat)(l:i≠j):SH w0 M K w (bU (bU hp j .no) i (.two (hp i) (hp j))):=by
  have c:∀x b,(bU (bU hp j .no) i (.two (hp i)<|hp j) x).own' b->(x=i/\((hp i).own' b\/(hp j).own' b))\/(x≠i/\x≠j/\(hp x).own' b):=by
    intro x b a;by_cases e:x=i
    · subst e;rw[df]at a;exact .inl ⟨Z,a⟩
    · rw[fe e]at a;by_cases f:x=j
      · subst f;rw[df]at a;exact a.elim
      · rw[fe f]at a;exact .inr ⟨e,f,a⟩
  have d:∀b,iE (bU (bU hp j .no) i<|.two (hp i)<|hp j) b->iE hp b:=by
    rintro b⟨x,k⟩;rcases c x b k with⟨_,h1|h1⟩|⟨_,_,h1⟩
    · exact⟨i,h1⟩
    · exact⟨j,h1⟩
    · exact⟨x,h1⟩
  refine⟨h.keep,h.ltM,fun x b a=>?_,fun x=>?_,fun x y g b k m=>?_,fun x b a=>?_⟩
  · rcases c x b a with⟨_,h1|h1⟩|⟨_,_,h1⟩
    · exact h.apM i b h1
    · exact h.apM j b h1
    · exact h.apM x b h1
  · by_cases e:x=i
    · subst e;rw[df];exact⟨Chunk.sub (h.ok x) fun b a _=>d b a,Chunk.sub (h.ok j) fun b a _=>d b a,fun b a=>h.apart x j l b a⟩
    · rw[fe e];by_cases f:x=j
      · subst f;rw[df];trivial
      · rw[fe f];exact Chunk.sub (h.ok x) (fun b a _=>d b a)
  · rcases c x b k with⟨e1,h1⟩|⟨e1,e1',h1⟩<;>rcases c y b m with⟨f,h2⟩|⟨f,e2',h2⟩
    · exact g<|e1.trans f.symm
    · rcases h1 with h1|h1
      · exact h.apart i y (fun e=>f e.symm) b h1 h2
      · exact h.apart j y (fun e=>e2' e.symm) b h1 h2
    · rcases h2 with h2|h2
      · exact h.apart x i e1 b h1 h2
      · exact h.apart x j e1' b h1 h2
    · exact h.apart x y g b h1 h2
  · rcases c x b a with⟨_,h1|h1⟩|⟨_,_,h1⟩
    · exact h.old i b h1
    · exact h.old j b h1
    · exact h.old x b h1
theorem SH.unpair{a c:Chunk}(h:SH w0 M K w hp)(i j:Nat)(r:i≠j)(q:hp i=.two a c)(t:hp j=.no):SH w0 M K w (bU (bU hp i a) j c):=by
  have g:∀x b,(bU (bU hp i a) j c x).own' b->(x=i/\a.own' b)\/(x=j/\c.own' b)\/(x≠i/\x≠j/\(hp x).own' b):=by
    intro x b d;by_cases e:x=j
    · subst e;rw[df]at d;exact .inr (.inl ⟨Z,d⟩)
    · rw[fe e]at d;by_cases f:x=i
      · subst f;rw[df]at d;exact .inl ⟨Z,d⟩
      · rw[fe f]at d;exact .inr (.inr ⟨f,e,d⟩)
  have n:∀b,a.own' b->(hp i).own' b:=fun b d=>by rw[q];exact .inl d
  have o:∀b,c.own' b->(hp i).own' b:=fun b d=>by rw[q];exact .inr d
  have k:∀b,iE (bU (bU hp i a) j c) b->iE hp b:=by
    rintro b⟨x,p⟩;rcases g x b p with⟨_,h1⟩|⟨_,h1⟩|⟨_,_,h1⟩
    · exact⟨i,n b h1⟩
    · exact⟨i,o b h1⟩
    · exact⟨x,h1⟩
  have l:=h.ok i;rw[q]at l;refine⟨h.keep,h.ltM,fun x b d=>?_,fun x=>?_,fun x y m b p s=>?_,fun x b d=>?_⟩
  · rcases g x b d with⟨_,h1⟩|⟨_,h1⟩|⟨_,_,h1⟩
    · exact h.apM i b<|n b h1
    · exact h.apM i b<|o b h1
    · exact h.apM x b h1
  · by_cases e:x=j
    · subst e;rw[df];exact Chunk.sub l.2.1 (fun b d _=>k b d)
    · rw[fe e];by_cases f:x=i
      · subst f;rw[df];exact Chunk.sub l.1 (fun b d _=>k b d)
      · rw[fe f];exact Chunk.sub (h.ok x) (fun b d _=>k b d)
  · rcases g x b p with⟨e1,h1⟩|⟨e1,h1⟩|⟨e1,e1',h1⟩<;>rcases g y b s with⟨f,h2⟩|⟨f,h2⟩|⟨f,e2',h2⟩
    · exact m<|e1.trans f.symm
    · exact l.2.2 b h1 h2
    · exact h.apart i y (fun e=>f e.symm) b (n b h1) h2
    · exact l.2.2 b h2 h1
    · exact m<|e1.trans f.symm
    · exact h.apart i y (fun e=>f e.symm) b (o b h1) h2
    · exact h.apart x i e1 b h1<|n b h2
    · exact h.apart x i e1 b h1<|o b h2
    · exact h.apart x y m b h1 h2
  · rcases g x b d with⟨_,h1⟩|⟨_,h1⟩|⟨_,_,h1⟩
    · exact h.old i b<|n b h1
    · exact h.old i b<|o b h1
    · exact h.old x b h1
theorem SH.lendC(h:SH w0 M K w hp)(i:Nat)(d:(hp i).O5):(hp i).holds w (fun b=>M b\/rest hp i b) (hp i).own'/\(∀b,(hp i).own' b->¬(M b\/rest hp i b))/\(∀b,(M b\/rest hp i b)->b<w.heap.size):=by
  refine⟨Chunk.re d (h.ok i) fun b a _=>?_,fun b a c=>?_,fun b a=>?_⟩
  · rcases a with(a|a)|a
    · exact .inl a
    · exact .inr<|kJ a
    · exact .inr ⟨i,a⟩
  · rcases c with c|⟨j,hj,c⟩
    · exact h.apM i b a c
    · exact h.apart j i hj b c a
  · rcases a with a|⟨j,_,a⟩
    · exact Nat.lt_of_lt_of_le (h.ltM b a) h.keep.size
    · exact Chunk.lt (h.ok j) b a
theorem SH.givenC{C:Chunk}(h:SH w0 M K w hp)(i:Nat)(d:C.O5)(e:C.holds w' (fun b=>M b\/rest hp i b) C.own')(c:bI (hp i).own' w w')(hn:∀b,C.own' b->b<w.heap.size->(hp i).own' b):SH w0 M K w' (bU hp i C):=
  h.step i c (fun _ a _=>a) hn (Chunk.re d e (fun b a _=>by
    rcases a with a|a|a
    · exact .inl<|.inl a
    · exact .inl<|.inr a
    · exact .inr a))
theorem SH.wO{C:Chunk}(l:∀b,M b->b<w.heap.size)(n:C.holds w M C.own')(k:∀b,C.own' b->¬M b):SH w M C.own' w (bU hno 1 C):=by
  have a:∀b,iE (bU hno 1 C) b->C.own' b:=by
    rintro b⟨j,f⟩;by_cases e:j=1
    · subst e;rw[df]at f;exact f
    · rw[fe e]at f;exact f.elim
  refine⟨bI.refl _ _,l,fun i b c=>k b<|a b ⟨i,c⟩,fun i=>?_,fun i j g b c d=>?_,fun i b c _=>a b ⟨i,c⟩⟩
  · by_cases e:i=1
    · subst e;rw[df];exact Chunk.sub n (fun b c _=>a b c)
    · rw[fe e];trivial
  · by_cases e:i=1
    · have m:j≠1:=fun h=>g<|e.trans h.symm;rw[fe m]at d;exact d.elim
    · rw[fe e]at c;exact c.elim
theorem SH.outC{C:Chunk}(h:SH w0 M K w hp)(i:Nat)(d:hp i=C)(c:C.O5):C.holds w M C.own'/\bI K w0 w/\(∀b,C.own' b->b<w0.heap.size->K b):=by
 subst d;exact⟨Chunk.re c (h.ok i) fun b a _=>a.imp id fun a=>⟨i,a⟩,h.keep,h.old i⟩
end
structure Val where
 kind:Int
 n:Int
deriving DecidableEq
def bF:kD Val where
 sz:=2
 rd w A cs x:=cs=[.int .i64 x.kind,.int .i64 x.n]
 len:=by rintro w A cs x rfl;rfl
 one:=by rintro w A cs x rfl u hu;simp only[List.mem_cons,List.not_mem_nil,or_false]at hu;rcases hu with rfl|rfl<;>first|rfl
 pos:=by decide
 go:=fun h _ _ _=>h
structure Tok where
 kind:Int
 n:Int
deriving DecidableEq
def p8:kD Tok where
 sz:=2
 rd w A cs x:=cs=[.int .i64 x.kind,.int .i64 x.n]
 len:=by rintro w A cs x rfl;rfl
 one:=by rintro w A cs x rfl u hu;simp only[List.mem_cons,List.not_mem_nil,or_false]at hu;rcases hu with rfl|rfl<;>first|rfl
 pos:=by decide
 go:=fun h _ _ _=>h
structure jg where
 from_:Int
 mH:Int
 co:Int
 aR:Int
 taken:Bool
 image:List Int
deriving DecidableEq
def ed:kD jg where
 sz:=6
 rd w A cs x:=∃oI,cs=[.int .i64 x.from_,.int .i64 x.mH,.int .i64 x.co,.int .i64 x.aR,.bool x.taken,oI]/\bZ dh w A oI x.image
 len:=by rintro w A cs x ⟨oI,rfl,h0⟩;rfl
 one:=by rintro w A cs x ⟨oI,rfl,h0⟩ u hu;simp only[List.mem_cons,List.not_mem_nil,or_false]at hu;rcases hu with rfl|rfl|rfl|rfl|rfl|rfl<;>first|rfl|exact h0.one
 pos:=by decide
 go:=by rintro w A cs x w2 A2 K ⟨oI,rfl,h0⟩ hk hK hA;exact⟨_,Z,h0.go hk hK hA⟩
theorem zn{w:World}{A:BS}{cs:List Value}{x:jg}(h:ed.rd w A cs x):∃a,cs=[.int .i64 x.from_,.int .i64 x.mH,.int .i64 x.co,.int .i64 x.aR,.bool x.taken,a]/\bZ dh w A a x.image:=h
structure Co where
 lY:Int
 aR:Int
 image:List Int
 offered:Int
deriving DecidableEq
def En:kD Co where
 sz:=4
 rd w A cs x:=∃oI,cs=[.int .i64 x.lY,.int .i64 x.aR,oI,.int .i64 x.offered]/\bZ dh w A oI x.image
 len:=by rintro w A cs x ⟨oI,rfl,h0⟩;rfl
 one:=by rintro w A cs x ⟨oI,rfl,h0⟩ u hu;simp only[List.mem_cons,List.not_mem_nil,or_false]at hu;rcases hu with rfl|rfl|rfl|rfl<;>first|rfl|exact h0.one
 pos:=by decide
 go:=by rintro w A cs x w2 A2 K ⟨oI,rfl,h0⟩ hk hK hA;exact⟨_,Z,h0.go hk hK hA⟩
theorem lq{w:World}{A:BS}{cs:List Value}{x:Co}(h:En.rd w A cs x):∃a,cs=[.int .i64 x.lY,.int .i64 x.aR,a,.int .i64 x.offered]/\bZ dh w A a x.image:=h
structure Rec where
 kind:Int
 co:Int
 aR:Int
 place:Int
 says:List Int
 image:List Int
deriving DecidableEq
def TA:kD Rec where
 sz:=6
 rd w A cs x:=∃SS,∃oI,cs=[.int .i64 x.kind,.int .i64 x.co,.int .i64 x.aR,.int .i64 x.place,SS,oI]/\bZ dh w A SS x.says/\bZ dh w A oI x.image
 len:=by rintro w A cs x ⟨SS,oI,rfl,h0,h1⟩;rfl
 one:=by rintro w A cs x ⟨SS,oI,rfl,h0,h1⟩ u hu;simp only[List.mem_cons,List.not_mem_nil,or_false]at hu;rcases hu with rfl|rfl|rfl|rfl|rfl|rfl<;>first|rfl|exact h0.one|exact h1.one
 pos:=by decide
 go:=by rintro w A cs x w2 A2 K ⟨SS,oI,rfl,h0,h1⟩ hk hK hA;exact⟨_,_,Z,h0.go hk hK hA,h1.go hk hK hA⟩
theorem QH{w:World}{A:BS}{cs:List Value}{x:Rec}(h:TA.rd w A cs x):∃b,∃a,cs=[.int .i64 x.kind,.int .i64 x.co,.int .i64 x.aR,.int .i64 x.place,b,a]/\bZ dh w A b x.says/\bZ dh w A a x.image:=h
theorem dR.mapR{α:Type}{R R':kD α}{w:World}{B A:BS}{v:Value}{l:List α}(k:R.sz=R'.sz)(h:∀cs x,x∈l->R.rd w A cs x->R'.rd w A cs x)(e:dR R w B A v l):dR R' w B A v l:=by
 obtain⟨a,cap,rfl,d,f,g,p⟩:=e;refine⟨a,cap,Z,d,f,g,fun i c=>?_⟩;obtain⟨b,o,cells,E,r,m,q,n,j⟩:=p i c;refine⟨b,o,cells,E,r,m,q,n,?_⟩;rw[<-k];exact h _ _ (List.getElem_mem c) j
structure cO where
 kind:Int
 n:Int
 e:List Tok
 f:List Tok
 a:List cO
 b:List cO
def uf:Nat->{R:kD cO // R.sz=6}
 |0=>⟨{sz:=6,rd:=fun _ _ _ _=>False,len:=fun h=>h.elim,one:=fun h=>h.elim,pos:=by decide,go:=fun h=>h.elim},rfl⟩
 |d+1=>⟨{
  sz:=6
  rd:=fun w A cs x=>∃c g j i,cs=[.int .i64 x.kind,.int .i64 x.n,c,g,j,i]/\bZ p8 w A c x.e/\bZ p8 w A g x.f/\bZ (uf d).1 w A j x.a/\bZ (uf d).1 w A i x.b
  len:=by rintro w A cs x ⟨c,g,j,i,rfl,_⟩;rfl
  one:=by rintro w A cs x ⟨c,g,j,i,rfl,o,p,q,r⟩ u s;simp only[List.mem_cons,List.not_mem_nil,or_false]at s;rcases s with rfl|rfl|rfl|rfl|rfl|rfl<;>first|rfl|exact o.one|exact p.one|exact q.one|exact r.one
  pos:=by decide
  go:=by rintro w A cs x t v K ⟨c,g,j,i,rfl,o,p,q,r⟩ l k m;exact⟨_,_,_,_,Z,o.go l k m,p.go l k m,q.go l k m,r.go l k m⟩},Z⟩
theorem Kr:∀(d:Nat) {w:World} {A:BS} {cs:List Value} {x:cO},(uf d).1.rd w A cs x->(uf (d+1)).1.rd w A cs x
 |0,_,_,_,_,h=>h.elim
 |d+1,_,_,_,_,h=>by
  obtain⟨a,c,j,i,rfl,f,e,b,g⟩:=h;exact⟨a,c,j,i,Z,f,e,b.mapR ((uf d).2.trans (uf<|d+1).2.symm) fun _ _ _ h=>Kr d h,g.mapR ((uf d).2.trans (uf<|d+1).2.symm) fun _ _ _ h=>Kr d h⟩
theorem Xo{d a:Nat}(b:d<=a){w:World}{A:BS}{cs:List Value}{x:cO}(h:(uf d).1.rd w A cs x):(uf a).1.rd w A cs x:=by
 induction b with
 |refl=>exact h
 |step _ ih=>exact Kr _ ih
def iJ:kD cO where
 sz:=6
 rd w A cs x:=∃d,(uf d).1.rd w A cs x
 len:=by rintro w A cs x ⟨d,h⟩;exact((uf d).1.len h).trans (uf d).2
 one:=by rintro w A cs x ⟨d,h⟩;exact(uf d).1.one h
 pos:=by decide
 go:=by rintro w A cs x w2 A2 K ⟨d,h⟩ hk hK hA;exact⟨d,(uf d).1.go h hk hK hA⟩
theorem max_of{P:Nat->Nat->Prop}(f:∀d a i,d<=a->P d i->P a i):∀n,(∀i,i<n->∃d,P d i)->∃d,∀i,i<n->P d i
  |0,_=>⟨0,fun i c=>absurd c (Nat.not_lt_zero _)⟩
  |n+1,h=>by
    obtain⟨d,g⟩:=max_of f n fun i c=>h i V;obtain⟨a,b⟩:=h n V;refine⟨max d a,fun i c=>?_⟩;by_cases e:i=n
    · subst e;exact f _ _ _ (Nat.le_max_right _ _) b
    · exact f _ _ _ (Nat.le_max_left _ _)<|g i V
theorem Ug{w:World}{A:BS}{v:Value}{l:List cO}(h:bZ iJ w A v l):∃d,∀e,d<=e->bZ (uf e).1 w A v l:=by
 obtain⟨a,cap,rfl,s,u,q,t⟩:=h;have r:=max_of (P:=fun d i=>∀h:i<l.length,∃b o cells E c,a=some ⟨b,o,none⟩/\¬A b/\w.heap[b]? =some (.cells cells E c)/\(uf d).1.rd w A ((cells.toList.drop<|o+i*6).take 6) l[i])
  (fun d e i n hp h=>let ⟨b,o,cells,E,c,g,k,j,f⟩:=hp h;⟨b,o,cells,E,c,g,k,j,Xo n f⟩) l.length
  (fun i m=>by obtain⟨b,o,cells,E,c,g,k,j,d,f⟩:=t i m;exact⟨d,fun _=>⟨b,o,cells,E,c,g,k,j,f⟩⟩)
 obtain⟨d,n⟩:=r;refine⟨d,fun e p=>⟨a,cap,Z,s,u,q,fun i m=>?_⟩⟩;obtain⟨b,o,cells,E,c,g,k,j,f⟩:=n i m m;exact⟨b,o,cells,E,c,g,k,j,by rw[(uf e).2];exact Xo p f⟩
theorem Jf{w:World}{A:BS}{cs:List Value}{x:cO}(h:iJ.rd w A cs x):∃c g j i,cs=[.int .i64 x.kind,.int .i64 x.n,c,g,j,i]/\bZ p8 w A c x.e/\bZ p8 w A g x.f/\bZ iJ w A j x.a/\bZ iJ w A i x.b:=by
 obtain⟨d,h⟩:=h;cases d with
 |zero=>exact h.elim
 |succ d=>
  obtain⟨c,g,j,i,rfl,m,l,k,o⟩:=h;exact⟨c,g,j,i,Z,m,l,k.mapR (uf d).2 fun _ _ _ h=>⟨d,h⟩,o.mapR (uf d).2 fun _ _ _ h=>⟨d,h⟩⟩
theorem rStmt_mk{w:World}{A:BS}{cs:List Value}{x:cO}(h:∃c g j i,cs=[.int .i64 x.kind,.int .i64 x.n,c,g,j,i]/\bZ p8 w A c x.e/\bZ p8 w A g x.f/\bZ iJ w A j x.a/\bZ iJ w A i x.b):iJ.rd w A cs x:=by
 obtain⟨c,g,j,i,rfl,q,p,m,r⟩:=h;obtain⟨d,o⟩:=Ug m;obtain⟨l,k⟩:=Ug r;exact⟨max d l+1,c,g,j,i,Z,q,p,o _<|Nat.le_max_left _ _,k _<|Nat.le_max_right _ _⟩
structure iQ where
 params:Int
 locals:Int
 body:List cO
def lZ:kD iQ where
 sz:=3
 rd w A cs x:=∃SV,cs=[.int .i64 x.params,.int .i64 x.locals,SV]/\bZ iJ w A SV x.body
 len:=by rintro w A cs x ⟨SV,rfl,h0⟩;rfl
 one:=by rintro w A cs x ⟨SV,rfl,h0⟩ u hu;simp only[List.mem_cons,List.not_mem_nil,or_false]at hu;rcases hu with rfl|rfl|rfl<;>first|rfl|exact h0.one
 pos:=by decide
 go:=by rintro w A cs x w2 A2 K ⟨SV,rfl,h0⟩ hk hK hA;exact⟨_,Z,h0.go hk hK hA⟩
theorem zH{w:World}{A:BS}{cs:List Value}{x:iQ}(h:lZ.rd w A cs x):∃a,cs=[.int .i64 x.params,.int .i64 x.locals,a]/\bZ iJ w A a x.body:=h
section
variable{α β σ ρ:Type}
theorem lF{l:List α}{i:Nat}:idx l (i:Int)=l[i]? :=by simp[idx]
theorem BZ{l:List α}{i:Nat}(h:i<l.length):idx l (i:Int)=some l[i]:=by rw[lF,List.getElem?_eq_getElem h]
theorem uL{p:Prop} [Decidable p]{x:Option β}(h:p):iC p x=x:=if_pos h
theorem uP{b:Nat}{a:List α}(h:a.length*b<=140737488355328)(c:a.length<=9223372036854775807):clone b a=some a:=by
 unfold clone;exact uL<|Room.mk (by simpa using h) (by simpa using c)
theorem sub_s{l:List α}{a b:Nat}(h:a<=b)(c:b<=l.length):sub? l (a:Int) (b:Int)=some ((l.take b).drop a):=by
 unfold sub? cut;rw[if_pos ⟨by omega,by omega,by omega⟩];simp
theorem del_s{l:List α}{a b:Nat}(h:a<b)(c:b<=l.length):del1 l (a:Int) (b:Int)=some (l.take a++l.drop b):=by
 unfold del1;rw[if_pos ⟨by omega,by omega,by omega⟩];simp
def all2(p:α->β->Bool):List α->List β->Bool
 |[],[]=>true
 |x::xs,y::ys=>p x y&&all2 p xs ys
 |_,_=>false
theorem Aj [DecidableEq α]{p:α->α->Bool}(hp:∀x y,p x y=decide (x=y)):∀(a b:List α),all2 p a b=decide (a=b)
 |[],[]=>by simp[all2]
 |[],_::_=>by simp[all2]
 |_::_,[]=>by simp[all2]
 |x::xs,y::ys=>by simp[all2,hp,Aj hp xs ys]
theorem L6{body:Int->Unit->(Unit->Option Bool)->Option Bool}{c:Unit->Option Bool}(p:α->β->Bool)(a:List α)(b:List β)(k:a.length=b.length)(g:c ()=some true)
  (j:∀(i:Nat) x y nx,a[i]? =some x->b[i]? =some y->body (i:Int) () nx=bif p x y then nx ()else some false):upto body c 0 a.length ()=some (all2 p a b):=by
 have d:∀(m i:Nat),i+m=a.length->upto body c (i:Int) m ()=some (all2 p (a.drop i)<|b.drop i):=by
  intro m;induction m with
  |zero=>
   intro i h;rw[List.drop_eq_nil_of_le V,List.drop_eq_nil_of_le V];exact g
  |succ m ih=>
   intro i h;have e:i<a.length:=by omega
   have f:i<b.length:=by omega
   rw[List.drop_eq_getElem_cons e,List.drop_eq_getElem_cons f];show body (i:Int) () (upto body c ((i:Int)+1) m)=_;rw[j i a[i] b[i] _ (List.getElem?_eq_getElem e) (List.getElem?_eq_getElem f)];cases hp:p a[i] b[i]with
   |true=>simp only[cond_true,all2,hp,Bool.true_and];exact ih (i+1) V
   |false=>simp[all2,hp]
 simpa using d a.length 0 V
theorem Jg{body:Int->α->Unit->(Unit->Option Bool)->Option Bool}{c:Unit->Option Bool}(p:α->β->Bool)(a:List α)(b:List β)(j:a.length=b.length)(f:c ()=some true)
  (g:∀(i:Nat) x y nx,b[i]? =some y->body (i:Int) x () nx=bif p x y then nx ()else some false):fO body c 0 a ()=some (all2 p a b):=by
 have d:∀(l:List α) (i:Nat),i+l.length=b.length->fO body c (i:Int) l ()=some (all2 p l<|b.drop i):=by
  intro l;induction l with
  |nil=>
   intro i h;rw[List.drop_eq_nil_of_le (by simp at h;omega)];exact f
  |cons x l ih=>
   intro i h;simp only[List.length_cons]at h;have e:i<b.length:=by omega
   rw[List.drop_eq_getElem_cons e];show body (i:Int) x () (fO body c ((i:Int)+1) l)=_;rw[g i x b[i] _ (List.getElem?_eq_getElem e)];cases hp:p x b[i]with
   |true=>simp only[cond_true,all2,hp,Bool.true_and];exact ih (i+1) V
   |false=>simp[all2,hp]
 simpa using d a 0 V
theorem upto_eachI{body:Int->σ->(σ->ρ)->ρ}{g:Int->α->σ->(σ->ρ)->ρ}{k:σ->ρ}(l:List α)(c:∀(i:Nat) x s nx,l[i]? =some x->body (i:Int) s nx=g (i:Int) x s nx)(s:σ):upto body k 0 l.length s=fO g k 0 l s:=by
 have a:∀(m i:Nat),i+m=l.length->∀s,upto body k (i:Int) m s=fO g k (i:Int) (l.drop i) s:=by
  intro m;induction m with
  |zero=>intro i h s;rw[List.drop_eq_nil_of_le V];rfl
  |succ m ih=>
   intro i h s;have b:i<l.length:=by omega
   rw[List.drop_eq_getElem_cons b];show body (i:Int) s (upto body k ((i:Int)+1) m)=g (i:Int) l[i] s (fO g k ((i:Int)+1)<|l.drop<|i+1);rw[c i l[i] s _ (List.getElem?_eq_getElem b)];congr 1;funext s';exact ih (i+1) V s'
 simpa using a l.length 0 V s
theorem upto_find{body:Int->Unit->(Unit->ρ)->ρ}{b:Unit->ρ}(p:α->Bool)(a:Int->ρ)(l:List α)(e:∀(i:Nat) x nx,l[i]? =some x->body (i:Int) () nx=bif p x then a i else nx ()):
  upto body b 0 l.length ()=match l.findIdx? p with|some n=>a (n:Int)|none=>b ():=by
 have c:∀(m i:Nat),i+m=l.length->upto body b (i:Int) m ()=match (l.drop i).findIdx? p with|some n=>a ((i+n:Nat):Int)|none=>b ():=by
  intro m;induction m with
  |zero=>intro i h;rw[List.drop_eq_nil_of_le V];rfl
  |succ m ih=>
   intro i h;have d:i<l.length:=by omega
   rw[List.drop_eq_getElem_cons d,List.findIdx?_cons];show body (i:Int) () (upto body b ((i:Int)+1) m)=_;rw[e i l[i] _ (List.getElem?_eq_getElem d)];cases hp:p l[i]with
   |true=>rfl
   |false=>
    simp only[cond_false,Bool.false_eq_true,if_false];have:=ih (i+1) V;rw[show((i+1:Nat):Int)=(i:Int)+1 from rfl]at this;rw[this];cases (l.drop (i+1)).findIdx? p with
    |none=>rfl
    |some n=>simp only[Option.map_some];congr 1;omega
 have:=c l.length 0 V;simp only[List.drop_zero,Nat.zero_add]at this;exact this
theorem del_s1{l:List α}{a:Nat}(h:a<l.length):del1 l (a:Int) ((a:Int)+1)=some (l.take a++l.drop (a+1)):=by
 have:=del_s (l:=l) (a:=a) (b:=a+1) V V;exact this
theorem dT{p:Prop} [Decidable p](h:p):decide p=true:=decide_eq_true h
theorem dF{p:Prop} [Decidable p](h:¬p):decide p=false:=decide_eq_false h
theorem gI{x:Int}{y:Option β}(b: -9223372036854775808<=x:=by omega)(a:x<=9223372036854775807:=by omega):iC (lK x) y=y:=uL (lK.mk b a)
end
open Go.RowKit
def fD:kD UInt8 where
 sz:=1
 rd _ _ cs x:=cs=[.int .u8 (x.toNat:Int)]
 len:=by rintro w A cs x rfl;rfl
 one:=by rintro w A cs x rfl u hu;simp at hu;subst hu;rfl
 pos:=by decide
 go:=fun h _ _ _=>h
def IsErr(v:Value)(b:Bool):Prop:=(b=false/\v=.nilIface)\/(b=true/\∃t p,v=.iface t p)
structure IfaceT(P:Program)(T:TypeId):Prop where
 desc:P.underlying T=some (.interface (P.methodsAt T))
def SX{α:Type}(a:Nat)(k:Int):Option (List α):=iC (0<=k/\k*a<=140737488355328) (some [])
section
variable{P:Program}{ops:Array Oper}{Q:Exit->Act->World->Prop}{n:Nat}{env:Nat->Value}{w w' w0:World}{M K:BS}{hp:Nat->Chunk}{rest:List Oper}
 {d:Option Nat} {op:Op} {ty:TypeId} {pos:String} {af:Array Edge} {v:Value} {g:Option (Nat×Bool)} {T:TypeId} {ρ:Operand->Value} {x y:Operand}
theorem QI{a b:Str}{T2:TypeId}(c:ρ x=bB a)(e:ρ y=bB b):(execOp ρ ⟨d,.binOp .eql T x y T2,ty,pos,af,g⟩).run P w=.ok (.value (.bool (decide (a=b)))) w:=by
 simp[execOp,binOp,c,e,bB,Op.stringOp,eqGuard];rw[Bool.eq_iff_iff];simp
theorem Nh{a b:Str}{T2:TypeId}(c:ρ x=bB a)(e:ρ y=bB b):(execOp ρ ⟨d,.binOp .neq T x y T2,ty,pos,af,g⟩).run P w=.ok (.value (.bool (decide (a≠b)))) w:=by
 simp[execOp,binOp,c,e,bB,Op.stringOp,eqGuard];rw[Bool.eq_iff_iff];simp
theorem rO{a b:Str}{T2:TypeId}(f:ρ x=bB a)(i:ρ y=bB b)(h:a.length+b.length<=9223372036854775807):(execOp ρ ⟨d,.binOp .add T x y T2,ty,pos,af,g⟩).run P w=.ok (.value (bB (a++b))) w:=by
 have c:=run_string_add_sum (P:=P) (w:=w) ⟨a.toArray⟩ ⟨b.toArray⟩ (by simpa[ByteArray.size]using h);have e:(⟨a.toArray⟩++⟨b.toArray⟩:ByteArray)=⟨(a++b).toArray⟩:=by
  apply ByteArray.ext;simp
 rw[e]at c;simp[execOp,binOp,f,i,bB,eqGuard,c]
theorem r_neqnilI{b:Bool}{T2:TypeId}(c:IfaceT P T)(a:ρ x=v)(f:IsErr v b)(e:ρ (.const .nilIface)=.nilIface):(execOp ρ ⟨d,.binOp .neq T x (.const .nilIface) T2,ty,pos,af,g⟩).run P w=.ok (.value (.bool b)) w:=by
  rcases f with⟨rfl,rfl⟩|⟨rfl,t,p,rfl⟩
  · simp[execOp,binOp,a,e,eqGuard,run_equal_nil_nil w T c.desc]
  · simp[execOp,binOp,a,e,eqGuard,run_equal_held_nil w T t p c.desc]
theorem r_eqlnilI{b:Bool}{T2:TypeId}(c:IfaceT P T)(a:ρ x=v)(f:IsErr v b)(e:ρ (.const .nilIface)=.nilIface):(execOp ρ ⟨d,.binOp .eql T x (.const .nilIface) T2,ty,pos,af,g⟩).run P w=.ok (.value (.bool !b)) w:=by
  rcases f with⟨rfl,rfl⟩|⟨rfl,t,p,rfl⟩
  · simp[execOp,binOp,a,e,eqGuard,run_equal_nil_nil w T c.desc]
  · simp[execOp,binOp,a,e,eqGuard,run_equal_held_nil w T t p c.desc]
theorem w_makeSl{α:Type}{R:kD α}{E:TypeId}{c:Nat}{k:Int}{z:Value}{a:α}(h:SH w0 M K w hp)(i:Nat)(t:jX P T E 1 c)(B:One P E z)(C:R.sz=1)(l:0<c)(hx:ev n env x=.int .i64 k)(X:ev n env y=.int .i64 k)
    (L:0<=k/\k*c<=140737488355328) (G:∀w A,R.rd w A [z] a)
    (N:∀w' u,SH w0 M K w' (bU hp i (.own R E u (List.replicate k.toNat a)))->WL P ops Q rest n (gm env d u) w'):
    WL P ops Q (⟨d,.makeSlice T x y,ty,pos,af,none⟩::rest) n env w:=by
  obtain⟨h0,J⟩:=L;obtain⟨m,rfl⟩:=Int.eq_ofNat_of_zero_le h0;obtain⟨j,z',r,I,o,p,a0⟩:=t.info;have e:=B.info;rw[r]at e;simp only[Option.map_some,Option.some.injEq,Prod.mk.injEq]at e;have a2:m<=m*c:=Nat.le_mul_of_pos_right _ l;have O:m*c<=140737488355328:=by
    have:((m*c:Nat):Int)<=140737488355328:=by rw[Int.natCast_mul];exact J
    omega
  obtain⟨w',hr,ho,S⟩:=run_make_full (P:=P) w 0 T E j z 1 t.desc r e.1 o .i64 .i64 m (by rw[p,Nat.mul_comm];omega) (by unfold maxLen;omega) (Nat.zero_le _);have g:Grow w w':=(yT (v:=.slice none 0 0) S).weaken fun _ h _=>h.elim;have f:(execOp (ev n env) ⟨d,.makeSlice T x y,ty,pos,af,none⟩).run P w=.ok (.value<|.slice (some ⟨w.heap.size,0,none⟩) m m) w':=by
    simp only[execOp,Sem.run_bind,Sem.run_pure,Result.andThen_ok,hx,X,hr]
  refine F f<|N w' _<|h.vU i g ⟨(madeCells z.cells<|m*1).toList,?_,?_⟩ ?_
  · rw[C,List.length_replicate];exact ho
  · intro q s;simp only[List.length_replicate]at s;have a1:q<m:=s;rw[C,B.cell,toList_madeCells_one];have:(List.drop (q*1)<|List.replicate (m*1) z).take 1=[z]:=by
      rw[List.drop_replicate,List.take_replicate,show min 1 (m*1-q*1)=1 by omega];rfl
    rw[this];simp only[List.getElem_replicate];exact G _ _
  · intro b l;have:b=w.heap.size:=l;omega
theorem run_appS{E u:TypeId}{A:BS}{l s:Str}(t:jX P T E 1 1)(hz:One P E (.int .u8 0))(B:P.underlying u=some .string)(hx:ρ x=v)(O:cz fD E w A v l)(R:ρ y=bB s)
    (r:(l.length+s.length)*1<=140737488355328) (hm:l.length+s.length<=9223372036854775807):
    ∃m w',(execOp ρ ⟨d,.call {callee:=.builtin .append,args:= #[x,y],argTypes:= #[T,u]},ty,pos,af,g⟩).run P w=.ok (.value m) w'/\cz fD E w' A m (l++s)/\bI (ob v) w w'/\(∀b,ob m b->b<w.heap.size->ob v b):=by
  obtain⟨xs,ho,hr⟩:=O;obtain⟨i,z',o,M,h,k,X⟩:=t.info;have c:=hz.info;rw[o]at c;simp only[Option.map_some,Option.some.injEq,Prod.mk.injEq]at c;have e:(ByteArray.mk s.toArray).size=s.length:=by simp[ByteArray.size]
  obtain⟨m,w',f,Q,h3,h4⟩:=Lib.run_append_own_string (P:=P) w 0 T u ty E i t.desc B o c.1 h k v l.length xs ho ⟨s.toArray⟩ (by rw[e];unfold maxLen;omega) (by rw[e];omega) (Nat.zero_le _);have N:=yT h3;have n:xs.length=l.length:=by simpa[fD]using ho.1
  have z:(execOp ρ ⟨d,.call {callee:=.builtin .append,args:= #[x,y],argTypes:= #[T,u]},ty,pos,af,g⟩).run P w=.ok (.value m) w':=by
    simp only[execOp,resolve,invoke,builtin,Sem.run_bind,Sem.run_pure,Result.andThen_ok,List.map_toArray,List.map_cons,List.map_nil,hx,R];rw[show(Builtin.append_ #[T,u] ty #[v,bB s]).run P w=_ from f];rfl
  have I:Lib.strCells ⟨s.toArray⟩=s.map fun b=>Value.int .u8 (b.toNat:Int):=by simp[Lib.strCells]
  refine⟨m,w',z,⟨xs++Lib.strCells ⟨s.toArray⟩,?_,?_⟩,N,?_⟩
  · rw[List.length_append,<-e];exact Q
  · intro q S;show List.take 1 (List.drop (q*1) _)=_;rw[Nat.mul_one,I];by_cases p:q<l.length
    · have:=hr q p;have L:List.take 1 (List.drop (q*1) xs)=[.int .u8 (l[q].toNat:Int)]:=this;rw[Nat.mul_one]at L;rw[List.drop_append_of_le_length V,List.take_append_of_le_length (by rw[List.length_drop];omega),L,List.getElem_append_left p]
    · rw[List.length_append]at S;rw[List.getElem_append_right V,List.drop_append,List.drop_eq_nil_of_le V,List.nil_append,n,List.drop_eq_getElem_cons (by simp;omega)];simp
  · intro b r hl;rcases ho.2 with⟨rfl,hn⟩|⟨gg,cap,cur,rfl,_,hgg,hc,hcm,hcs',htake⟩
    · by_cases G:s.length=0
      · have C:s=[]:=List.eq_nil_of_length_eq_zero G;subst C;have:m=.slice none 0 0:=h4.2 ⟨Z,e⟩;subst this;exact r
      · have a:=run_append_nil_string (P:=P) w T u ty E i (.int .u8 0) t.desc B o c.1 ⟨s.toArray⟩ V V (by rw[k];omega);rw[a]at f;cases f;simp[ob]at r;omega
    · by_cases J:l.length+s.length<=cap
      · have K:cur.size=cap:=by simpa[fD]using hcs'
        have a:=Lib.run_append_room_string (P:=P) w T u ty E i t.desc B o h gg l.length cap cur hgg ⟨s.toArray⟩ V V;rw[a]at f;cases f;exact r
      · have holds:∀j u,xs[j]? =some u->w.cell? ((⟨gg,0,none⟩:Addr).add j)=some u:=ho.cells (g:=gg) Z;have a:=Lib.run_append_grow_string (P:=P) w T u ty E i (.int .u8 0) t.desc B o c.1 ⟨gg,0,none⟩ l.length cap xs (by rw[h];simpa using n) holds ⟨s.toArray⟩ V V (by rw[k];exact growslice_fits V V);rw[a]at f;cases f;simp[ob]at r;omega
theorem r_b2s{E e:TypeId}{B A:BS}{l:Str}(n:P.underlying T=some (.slice E))(i:P.underlying E=some (.int .u8))(m:P.underlying e=some .string)(z:ρ x=v)(t:dR fD w B A v l):
    (execOp ρ ⟨d,.convert T e x,ty,pos,af,g⟩).run P w=.ok (.value (bB l)) w:=by
  obtain⟨a,cap,rfl,J,K,L,q⟩:=t;have k:(convert T e<|.slice a l.length cap).run P w=.ok (bB l) w:=by
    cases l with
    |nil=>
      cases a with
      |none=>
        rw[run_convert_bytes_string w T e E none _ _ n i m];simp[Conv.bytesToString,bB];rfl
      |some a=>
        exact run_convert_bytes_back w T e E a cap [] n i m fun j h=>absurd h<|Nat.not_lt_zero _
    |cons c r=>
      obtain⟨b,o,cells,I,O,rfl,_,_,_⟩:=q 0 zq3;refine run_convert_bytes_back w T e E ⟨b,o,none⟩ cap (c::r) n i m fun j h=>?_;obtain⟨b',N,f,M,G,u,_,C,y⟩:=q j h;cases u;have p:List.take 1 (List.drop (o+j*1) f.toList)=[.int .u8 ((c::r)[j].toNat:Int)]:=y;rw[Nat.mul_one]at p;have s:f.toList[o+j]? =some (.int .u8 ((c::r)[j].toNat:Int)):=by
        have:=congrArg (·[0]?) p;simpa[List.getElem?_take,List.getElem?_drop]using this
      rw[addr_add];simpa[World.cell?,C]using s
  simp only[execOp,Sem.run_bind,Sem.run_pure,z,k,Result.andThen_ok]
theorem YV(s:Str)(a b:Nat):(ByteArray.mk s.toArray).extract a b=⟨((s.take b).drop a).toArray⟩:=by
 apply ByteArray.ext;simp[ByteArray.data_extract,List.drop_take]
theorem ug(s:Str):(ByteArray.mk s.toArray).size=s.length:=by simp[ByteArray.size]
def subs?(s:Str)(a b:Int):Option Str:=iC (0<=a/\a<=b/\b<=s.length) (some (cut s a b))
theorem r_sls{s:Str}{m k:Option Operand}{a b:Int}(f:P.underlying T=some .string)(p:ρ x=bB s)(l:MQ (m.map ρ) a 0)(i:MQ (k.map ρ) b s.length)(o:0<=a)(h:a<=b)(t:b<=s.length):
    (execOp ρ ⟨d,.slice T x m k none,ty,pos,af,g⟩).run P w=.ok (.value (bB (cut s a b))) w:=by
  obtain⟨a,rfl⟩:=Int.eq_ofNat_of_zero_le o;obtain⟨b,rfl⟩:=Int.eq_ofNat_of_zero_le<|Int.le_trans o h;have n:a<=b:=by omega
  have q:b<=s.length:=by omega
  have r:cut s (a:Int) (b:Int)=(s.take b).drop a:=by simp[cut]
  have j:(Instr.slice T (bB s) (m.map ρ) (k.map ρ) none).run P w=.ok (bB ((s.take b).drop a)) w:=by
    unfold bB;rcases l with⟨e1,e2⟩|e1<;>rcases i with⟨e3,e4⟩|e3
    · have c:a=0:=by omega
      have e:b=s.length:=by omega
      subst c e;rw[e1,e3,run_slice_string_all w T _ f,YV,ug]
    · have c:a=0:=by omega
      subst c;rw[e1,e3,run_slice_string_to_if w T _ _ _ f,if_pos ⟨by omega,by rw[ug];omega⟩,YV];simp
    · have e:b=s.length:=by omega
      subst e;rw[e1,e3,run_slice_string_from_if w T _ _ _ f,if_pos ⟨by omega,by rw[ug];omega⟩,YV,ug];simp
    · rw[e1,e3,run_slice_string w T _ _ _ _ _ f V V (by rw[ug];omega),YV];simp
  rw[r];simp only[execOp,Sem.run_bind,Sem.run_pure,p,Option.map_none,run_sliceAt_string w T _ _ _ _ f,j,Result.andThen_ok]
theorem r_slsE{s r:Str}{i h:Option Operand}{a b:Int}(n:r=cut s a b)(k:P.underlying T=some .string)(j:ρ x=bB s)(f:MQ (i.map ρ) a 0)(e:MQ (h.map ρ) b s.length)(l:0<=a)(c:a<=b)(m:b<=s.length):
  (execOp ρ ⟨d,.slice T x i h none,ty,pos,af,g⟩).run P w=.ok (.value (bB r)) w:=by
 subst n;exact r_sls k j f e l c m
theorem o_subs{s r:Str}{a b:Int}(h:subs? s a b=some r):0<=a/\a<=b/\b<=s.length/\r=cut s a b:=by
 obtain⟨c,d⟩:=bC h;exact⟨c.1,c.2.1,c.2.2,(Option.some.inj d).symm⟩
theorem Uh{α:Type}{R:kD α}{E c:TypeId}{j a:Nat}{A:BS}{k:Nat}(l:jX P T E j a)(C:R.sz=j)(p:P.underlying c=some (.int .i64))(G:ev n env x=.slice none 0 0)(t:ev n env y=.int .i64 (k:Nat))(q:0<k)(s:0<a)
    (o:k*a<=140737488355328)
    (h:∀w' gg cap,Grow w w'->w.heap.size<=gg->gg<w'.heap.size->k<=cap->cz R E w' A (.slice (some ⟨gg,0,none⟩) 0 cap) ([]:List α)->WL P ops Q rest n (gm env d (.slice (some ⟨gg,0,none⟩) k cap)) w'):
    WL P ops Q (⟨d,.call {callee:=.builtin .append,args:= #[x,y],argTypes:= #[T,c]},ty,pos,af,none⟩::rest) n env w:=by
  obtain⟨i,z,r,v,B,g,e⟩:=l.info;have m:=R.pos;have I:k<=k*a:=Nat.le_mul_of_pos_right _ s;have u:=Lib.run_append_nil_zeros (P:=P) w T c ty E i z .i64 .i64 l.desc p r v k q V V (by rw[g];omega);have b:(execOp (ev n env) ⟨d,.call {callee:=.builtin .append,args:= #[x,y],argTypes:= #[T,c]},ty,pos,af,none⟩).run P w=.ok (.value<|.slice (some ⟨w.heap.size,0,none⟩) k<|grownCap w k 0 E) (w.drew.alloc<|.cells (Builtin.zeroCells z.cells k++Builtin.zeroCells z.cells (grownCap w k 0 E-k)) E):=by
    simp only[execOp,resolve,invoke,builtin,Sem.run_bind,Sem.run_pure,Result.andThen_ok,List.map_toArray,List.map_cons,List.map_nil,G,t,u]
  have hge:=grownCap_ge w k 0 E;have f:grownCap w k 0 E<=maxLen:=grownCap_le_maxLen w k 0 E (by unfold maxLen;omega);refine F b<|h _ _ _ ((Grow.drew w).trans<|Grow.alloc _ _) (Nat.le_refl _) ?_ hge ⟨[],⟨by simp,.inr ⟨w.heap.size,_,_,Z,Nat.zero_le _,heap_alloc_new w.drew _,Nat.zero_le _,f,?_,by simp⟩⟩,fun i h=>absurd h<|Nat.not_lt_zero _⟩
  · show w.heap.size<(w.drew.alloc _).heap.size;rw[alloc_size];exact Nat.lt_succ_self _
  · rw[Array.size_append,size_zeroCells,size_zeroCells,e,C,<-Nat.add_mul];congr 1;omega
end
open Go.RowKit
structure ql(P:Program)(g:Nat)(w:World):Prop where
 pow:Lib.TabIs P w "internal/strconv.uint64pow10" .u64 Lib.pow10Tab
 syn:∃t p,w.var? P "strconv.ErrSyntax" =some #[.iface t p]
 ran:∃t p,w.var? P "strconv.ErrRange" =some #[.iface t p]
 max:∃m,w.cell? ⟨g,0,none⟩=some (.int .i64 m)
 many:P.globals.size<=w.heap.size
 gmax:g<P.globals.size
 asc:∀q,P.globalNamed "strings.asciiSpace" =some q->Lib.TabIs P w "strings.asciiSpace" .u8 Lib.asciiSpaceTab
theorem Ui{P:Program}{s:String}{i:Nat}(h:P.globalNamed s=some i):i<P.globals.size:=by
  unfold Program.globalNamed at h;split at h
  · rename_i g a;cases h;have:i∈(List.range P.globals.size).filter fun g=>(P.globals[g]?).any (·.name==s):=by rw[a];simp
    exact List.mem_range.1 (List.mem_filter.1 this).1
  · cases h
theorem bI.var{P:Program}{K:BS}{w w':World}{s:String}{cs:Array Value}(d:bI K w w')(a:∀b,K b->P.globals.size<=b)(h:w.var? P s=some cs):w'.var? P s=some cs:=by
 unfold World.var? at h⊢;cases hg:P.globalNamed s with
 |none=>simp[hg]at h
 |some g=>
  have e:=Ui hg;simp only[hg,Option.bind_some]at h⊢;cases hb:w.heap[g]? with
  |none=>simp[hb]at h
  |some o=>rw[d.blk hb (fun c=>absurd (a _ c) V)];rw[hb]at h;exact h
theorem ql.O6{P:Program}{g:Nat}{K:BS}{w w':World}(h:ql P g w)(a:bI K w w')(c:∀b,K b->P.globals.size<=b):ql P g w':=by
 obtain⟨k,⟨f,s,t⟩,⟨n,p,i⟩,⟨m,d⟩,j,l,r⟩:=h;refine⟨a.var c k,⟨f,s,a.var c t⟩,⟨n,p,a.var c i⟩,⟨m,?_⟩,Nat.le_trans j a.size,l,fun q e=>a.var c<|r q e⟩;unfold World.cell? at d⊢;cases hb:w.heap[g]? with
 |none=>simp[hb]at d
 |some o=>rw[a.blk hb (fun e=>absurd (c _ e) V)];rw[hb]at d;exact d
theorem ql.go{P:Program}{g:Nat}{w w':World}(h:ql P g w)(a:Grow w w'):ql P g w':=h.O6 a (fun _ h=>h.elim)
theorem SH.yA{P:Program}{g:Nat}{w0 w:World}{M K:BS}{hp:Nat->Chunk}{C:Chunk}(h:SH w0 M K w hp)(c:ql P g w0)(a:∀b,K b->P.globals.size<=b)(i:Nat)(d:hp i=C):∀b,C.own' b->P.globals.size<=b:=by
  subst d;intro b e;rcases Nat.lt_or_ge b w0.heap.size with hl|hl
  · exact a b<|h.old i b e hl
  · exact Nat.le_trans c.many hl
theorem Grow.drewN(w:World)(k:Nat):Grow w (w.drewN k):=⟨rfl,rfl,rfl,Nat.le_refl _,fun _ _ _=>rfl⟩
theorem Grow.SX{w:World}{os:Array Obj}:Grow w (Sort.grow w os):=⟨rfl,rfl,rfl,by simp[Sort.grow],fun b _ a=>by simp[Sort.grow,Array.getElem?_append_left a]⟩
def Kt(n:Int):Option Str:=iC (lK n) (some (Lib.itoa n))
def Gh(s:Str):Option (Int×Bool):=iC (s.length<=281474976710656) (some (match Lib.atoiAll s with| .ok v=>(v,false)| .range=>(Lib.atoiSat s,true)|_=>(0,true)))
def parseS(s:Str):Option (Int×Bool):=iC (s.length<=281474976710656) (some (match Lib.parseIntB 64 s with| .ok v=>(v,false)| .range=>(Lib.intSat 64 s,true)|_=>(0,true)))
def joinS(l:List Str)(a:Str):Option Str:=iC (l.length<=140737488355328/\(Lib.join l a).length<=140737488355328) (some (Lib.join l a))
def Ni(s a:Str):Option (List Str):=iC (s.length<4294967281/\1<=a.length) (some (Lib.split s a))
def cutS(s a:Str):Option (Str×Str×Bool):=iC (s.length<4294967281) (some (Lib.cut s a))
section
variable{P:Program}{g:Nat}{w0:World}{f:FuncId}{M:BS}
theorem itoa_w(d:∀n,-9223372036854775808<=n->n<=9223372036854775807->∀w,Lib.TabIs P w "internal/strconv.uint64pow10" .u64 Lib.pow10Tab->Calls P f #[.int .i64 n] w fun e w'=>e=.returned (.string ⟨(Lib.itoa n).toArray⟩)/\∃k os,w'=Sort.grow (w.drewN k) os)
  (c:ql P g w0) {a:Int} {r:Str} (b:Kt a=some r):Calls P f #[.int .i64 a] w0 (fun e w'=>Grow w0 w'/\e=.returned (bB r)):=by
 obtain⟨h,b⟩:=bC b;cases b;refine(d a h.1 h.2 w0 c.pow).mono ?_;rintro e w'⟨rfl,k,os,rfl⟩;exact⟨(Grow.drewN w0 k).trans Grow.SX,Z⟩
theorem bw_grow(w:World)(t:TypeId)(s:ByteArray):Grow w (Lib.bytesWorld w t s):=⟨rfl,rfl,rfl,by rw[Lib.bytesWorld_size];omega,fun b _ a=>Lib.bytesWorld_at_old w t _ b a⟩
theorem atoi_w{m a b:TypeId}{nm:ByteArray}(q:∀s:ByteArray,s.size<=9223372036854775806->∀v,Lib.atoiAll s.data.toList=.ok v->∀w,Calls P f #[.string s] w fun e w'=>e=.returned (.tuple #[.int .i64 v,.nilIface])/\(w'=w\/∃t,w'=Lib.bytesWorld w m t))
    (x:∀s:ByteArray,s.size<=281474976710656->∀e,Lib.atoiAll s.data.toList=e->(∀v,e≠ .ok v)->e≠ .range->∀d p w,w.var? P "strconv.ErrSyntax" =some #[.iface d p]->Calls P f #[.string s] w fun e w'=>∃N,e=.returned (.tuple #[.int .i64 0,.iface a (.pointer (some ⟨N,0,none⟩))])/\w.heap.size<=N/\w'.heap[N]? =some (.cells #[.string nm,.string s,.iface d p] b (0,0))/\Below w.heap.size w w')
    (l:∀s:ByteArray,s.size<=281474976710656->Lib.atoiAll s.data.toList=.range->∀d p w,w.var? P "strconv.ErrRange" =some #[.iface d p]->Calls P f #[.string s] w fun e w'=>∃N,e=.returned (.tuple #[.int .i64 (Lib.atoiSat s.data.toList),.iface a (.pointer (some ⟨N,0,none⟩))])/\w.heap.size<=N/\w'.heap[N]? =some (.cells #[.string nm,.string s,.iface d p] b (0,0))/\Below w.heap.size w w')
    (k:ql P g w0) {s:Str} {r:Int×Bool} (c:Gh s=some r):Calls P f #[bB s] w0 (fun e w'=>Grow w0 w'/\∃u,e=.returned (.tuple #[.int .i64 r.1,u])/\IsErr u r.2):=by
  obtain⟨h,c⟩:=bC c;have n:=ug s;cases hq:Lib.atoiAll s with
  |ok v=>
    rw[hq]at c;cases c;refine(q ⟨s.toArray⟩ V v (by simpa using hq) w0).mono ?_;rintro e w'⟨rfl,o⟩;refine⟨?_,_,Z,.inl ⟨Z,Z⟩⟩;rcases o with rfl|⟨t,rfl⟩
    · exact bI.refl _ _
    · exact bw_grow _ _ _
  |range=>
    rw[hq]at c;cases c;obtain⟨t,p,i⟩:=k.ran;refine(l ⟨s.toArray⟩ V (by simpa using hq) t p w0 i).mono ?_;rintro e w'⟨N,rfl,_,_,j⟩;refine⟨Grow.of_below j,.iface a<|.pointer<|some ⟨N,0,none⟩,by simp,.inr ⟨Z,_,_,Z⟩⟩
  |_=>
    rw[hq]at c;cases c;obtain⟨t,p,i⟩:=k.syn;refine(x ⟨s.toArray⟩ V _ (by simpa using hq) (fun v=>by simp) zq3 t p w0 i).mono ?_;rintro e w'⟨N,rfl,_,_,j⟩;exact⟨Grow.of_below j,_,Z,.inr ⟨Z,_,_,Z⟩⟩
theorem rdStr_at{A B:BS}{a:Option Addr}{n c:Nat}{l:List Str}(s:dR sD w0 B A (.slice a n c) l)(v:0<l.length):∃h o,a=some ⟨h,o,none⟩/\h<w0.heap.size/\∀j x,l[j]? =some x->w0.cell? ⟨h,o+j,none⟩=some (bB x):=by
  obtain⟨a',cap,g,z,I,w,k⟩:=s;cases g;obtain⟨b,o,cells,E,G,rfl,_,p,_⟩:=k 0 v;refine⟨b,o,Z,iD p,fun j x m=>?_⟩;obtain⟨e,f⟩:=List.getElem?_eq_some_iff.1 m;obtain⟨b',C,d,y,u,g,_,t,r⟩:=k j e;cases g;have i:List.take 1 (List.drop (o+j*1) d.toList)=[bB l[j]]:=r;rw[Nat.mul_one]at i;have q:d.toList[o+j]? =some (bB l[j]):=by
    have:=congrArg (·[0]?) i;simpa[List.getElem?_take,List.getElem?_drop]using this
  rw[<-f];simpa[World.cell?,t]using q
theorem join_w(p:∀(a:Option Addr) (c:Nat) (b:ByteArray) (w:World),Calls P f #[.slice a 0 c,.string b] w fun e w'=>e=.returned (.string ⟨#[]⟩)/\w'=w)
    (z:∀(g o c:Nat) (xs:List ByteArray) (b:ByteArray) (w:World),(∀(j:Nat) x,xs[j]? =some x->w.cell? ⟨g,o+j,none⟩=some (.string x))->g<w.heap.size->xs.length<=140737488355328->xs.length<=c->(Lib.join (xs.map (·.data.toList)) b.data.toList).length<=140737488355328->
      Calls P f #[.slice (some ⟨g,o,none⟩) xs.length c,.string b] w fun e w'=>e=.returned (.string ⟨(Lib.join (xs.map (·.data.toList)) b.data.toList).toArray⟩)/\Below w.heap.size w w')
    {v:Value} {A B:BS} {l:List Str} {b r:Str} (n:dR sD w0 B A v l) (k:joinS l b=some r):Calls P f #[v,bB b] w0 (fun e w'=>Grow w0 w'/\e=.returned (bB r)):=by
  obtain⟨h,k⟩:=bC k;cases k;have i:=n;obtain⟨a,cap,rfl,k1,k2,C,E⟩:=n;cases l with
  |nil=>
    refine(p a cap _ w0).mono ?_;rintro e w'⟨rfl,rfl⟩;exact⟨bI.refl _ _,Z⟩
  |cons x l=>
    obtain⟨g,o,rfl,t,q⟩:=rdStr_at i zq3;have m:((x::l).map fun s=>(⟨s.toArray⟩:ByteArray)).map (·.data.toList)=x::l:=by simp[Function.comp_def]
    have:=z g o cap ((x::l).map fun s=>⟨s.toArray⟩) ⟨b.toArray⟩ w0 (fun j y d=>by
      rw[List.getElem?_map]at d;cases hq:(x::l)[j]? with
      |none=>rw[hq]at d;cases d
      |some s=>rw[hq]at d;cases d;exact q j s hq) t (by simpa using h.1) (by simpa using k1) (by rw[m];simpa using h.2)
    rw[m,List.length_map]at this;refine this.mono ?_;rintro e w'⟨rfl,u⟩;exact⟨Grow.of_below u,by simp[bB]⟩
theorem strs_rd{E:TypeId}{l:List ByteArray}{A:BS}{cells:Array Value}{cap:Nat}(w:World)(g:∀b,A b->b<w.heap.size)(d:l.length<=cap)(k:cap<=maxLen)(a:∀j (h:j<l.length),cells[j]? =some (.string l[j])):bZ sD (w.alloc (.cells cells E)) A (.slice (some ⟨w.heap.size,0,none⟩) l.length cap) (l.map (·.data.toList)):=by
  refine⟨some ⟨w.heap.size,0,none⟩,cap,by simp,by simpa using d,k,(fun h=>by cases h),fun j i=>⟨w.heap.size,0,cells,E,(0,0),Z,?_,LV w _,?_⟩⟩
  · intro m;exact Nat.lt_irrefl _ (g _ m)
  · have e:j<l.length:=by simpa using i
    show List.take 1 (List.drop (0+j*1) cells.toList)=_;have f:=a j e;have c:j<cells.toList.length:=by
      rw[Array.length_toList];rcases Nat.lt_or_ge j cells.size with q|q
      · exact q
      · rw[Array.getElem?_eq_none q]at f;cases f
    rw[Nat.zero_add,Nat.mul_one,List.drop_eq_getElem_cons c];have:cells.toList[j]=.string l[j]:=by
      have:=f;rw[<-Array.getElem?_toList,List.getElem?_eq_getElem c]at this;exact Option.some.inj this
    rw[this];simp[bB]
theorem split_w{E:TypeId}(k:∀(s a:ByteArray) (m:Int) (w:World),s.size<4294967281->w.cell? ⟨g,0,none⟩=some (.int .i64 m)->1<=a.size->
  Calls P f #[.string s,.string a] w fun e w'=>e=.returned (.slice (some ⟨w.heap.size,0,none⟩) (Lib.countB s a+1) (Lib.countB s a+1))/\w'=w.alloc (.cells ((Lib.splitB a 0 (Lib.countB s a) s).map Value.string).toArray E))
  (o:∀b,M b->b<w0.heap.size) (p:ql P g w0) {s a:Str} {r:List Str} (c:Ni s a=some r):Calls P f #[bB s,bB a] w0 (fun e w'=>Grow w0 w'/\∃u,e=.returned u/\bZ sD w' M u r):=by
 obtain⟨h,c⟩:=bC c;cases c;obtain⟨m,t⟩:=p.max;refine(k ⟨s.toArray⟩ ⟨a.toArray⟩ m w0 (by rw[ug];exact h.1) t (by rw[ug];exact h.2)).mono ?_;rintro e w'⟨rfl,rfl⟩;refine⟨Grow.alloc _ _,_,Z,?_⟩;have d:=Lib.splitB_all ⟨a.toArray⟩ (by rw[ug];exact h.2) 0 _ ⟨s.toArray⟩ Z;have n:=Lib.splitB_data ⟨a.toArray⟩ 0 (Lib.countB ⟨s.toArray⟩ ⟨a.toArray⟩) ⟨s.toArray⟩;have q:Lib.countB ⟨s.toArray⟩ ⟨a.toArray⟩=Lib.count s a:=by simp[Lib.countB]
 have v:=Lib.countB_le ⟨a.toArray⟩ (by rw[ug];exact h.2) _ ⟨s.toArray⟩ (Nat.le_refl _);rw[ug]at v;have:=strs_rd (E:=E) (l:=Lib.splitB ⟨a.toArray⟩ 0 (Lib.countB ⟨s.toArray⟩ ⟨a.toArray⟩) ⟨s.toArray⟩) (cap:=Lib.countB ⟨s.toArray⟩ ⟨a.toArray⟩+1) (cells:=((Lib.splitB ⟨a.toArray⟩ 0 (Lib.countB ⟨s.toArray⟩ ⟨a.toArray⟩) ⟨s.toArray⟩).map Value.string).toArray) w0 o (by rw[d];exact Nat.le_refl _) (by unfold maxLen;omega) (fun j i=>by simp[i]);rw[d,n]at this;simpa[Lib.split,q]using this
theorem cut_w(i:∀(s a:ByteArray) (m:Int) (w:World),s.size<4294967281->w.cell? ⟨g,0,none⟩=some (.int .i64 m)->Calls P f #[.string s,.string a] w fun e w'=>e=.returned (.tuple #[.string ⟨(Lib.cut s.data.toList a.data.toList).1.toArray⟩,.string ⟨(Lib.cut s.data.toList a.data.toList).2.1.toArray⟩,.bool (Lib.cut s.data.toList a.data.toList).2.2])/\∃n,w'=w.drewN n)
  (d:ql P g w0) {s a:Str} {r:Str×Str×Bool} (b:cutS s a=some r):Calls P f #[bB s,bB a] w0 (fun e w'=>Grow w0 w'/\e=.returned (.tuple #[bB r.1,bB r.2.1,.bool r.2.2])):=by
 obtain⟨h,b⟩:=bC b;cases b;obtain⟨m,c⟩:=d.max;refine(i ⟨s.toArray⟩ ⟨a.toArray⟩ m w0 (by rw[ug];exact h) c).mono ?_;rintro e w'⟨rfl,n,rfl⟩;exact⟨Grow.drewN _ _,by simp[bB]⟩
end
open Go.RowKit
section
variable{P:Program}{ops:Array Oper}{Q:Exit->Act->World->Prop}{n:Nat}{env:Nat->Value}{w w' w0:World}{M K:BS}{hp:Nat->Chunk}{rest:List Oper}
 {d:Option Nat} {op:Op} {ty:TypeId} {pos:String} {af:Array Edge} {v:Value} {g:Option (Nat×Bool)} {T:TypeId} {ρ:Operand->Value} {x y:Operand} {i fuel:Nat} {listed:Array Bool}
theorem SH.lL{c:Chunk}(h:SH w0 M K w hp)(i:Nat)(e:hp i=c)(d:bI c.own' w w'):SH w0 M K w' (bU hp i .no):=
 h.step i d (fun b a _=>by rw[e];exact a) (fun b a=>a.elim) U
theorem SH.EU{c e:Chunk}(h:SH w0 M K w hp)(i j:Nat)(a:i≠j)(g:hp i=c)(f:hp j=e)(d:bI (fun b=>c.own' b\/e.own' b) w w'):SH w0 M K w' (bU (bU (bU hp j .no) i (.two (hp i) (hp j))) i .no):=by
 refine(h.pair i j a).lL i (c:=.two (hp i)<|hp j) (df _ _ _) ?_;rw[g,f];exact d
theorem kY{zs:List Value}(h:SH w0 M K w hp)(i:Nat)(a:uN P T zs)(k:∀w' b,SH w0 M K w' (bU hp i (.blk b zs))->Grow w w'->w.heap.size<=b->WL P ops Q rest n (gm env d (.pointer (some ⟨b,0,none⟩))) w'):WL P ops Q (⟨d,.alloc T,ty,pos,af,none⟩::rest) n env w:=
 F (r_allocN a) (k _ _ (h.newB i zs T) (Grow.alloc _ _) (Nat.le_refl _))
theorem eT{z:Value}{b o:Nat}{cs:List Value}(h:SH w0 M K w hp)(i:Nat)(a:List Value)(c:hp i=.blk b cs)(p:One P T z)(q:ev n env x=.pointer (some ⟨b,o,none⟩))(m:ev n env y=v)(ho:cs.set o v=a)(e:Nat.blt o cs.length=true)(f:v.oneCell'=true)
  (k:∀w',SH w0 M K w' (bU hp i (.blk b a))->bI (fun x=>x=b) w w'->WL P ops Q rest n (gm env d undef) w'):
  WL P ops Q (⟨d,.store T x y,ty,pos,af,none⟩::rest) n env w:=by
 obtain⟨E,j⟩:=h.yh i c;have:=h.putB i c a E;subst ho;have l:=OX (d:=d) (ty:=ty) (pos:=pos) (af:=af) (g:=none) p q j (by rw[Nat.blt_eq]at e;simpa using e) m f;refine yS l<|k _ ?_<|bI.uH _ _ _;simpa using this
theorem kZ{zs vs:List Value}{b o:Nat}{cs:List Value}(h:SH w0 M K w hp)(i:Nat)(a:List Value)(e:hp i=.blk b cs)(m:uN P T zs)(p:ev n env x=.pointer (some ⟨b,o,none⟩))(l:ev n env y=.agg vs.toArray)(j:vs.length=zs.length)(ho:I9 cs o vs=a)(g:Nat.ble (o+vs.length) cs.length=true)(f:∀v∈vs,v.oneCell'=true)
  (k:∀w',SH w0 M K w' (bU hp i (.blk b a))->bI (fun x=>x=b) w w'->WL P ops Q rest n (gm env d undef) w'):
  WL P ops Q (⟨d,.store T x y,ty,pos,af,none⟩::rest) n env w:=by
 obtain⟨E,c⟩:=h.yh i e;subst ho;exact yS (OY m p c l j (Nat.le_of_ble_eq_true g) f)<|k _ (h.putB i e _ E)<|bI.uH _ _ _
theorem mo{α:Type}{R:kD α}{E:TypeId}{j c:Nat}{u:Value}{l m:List α}(h:SH w0 M K w hp)(i:Nat)(f:hp i=.own R E v l)(q:dR R w BE (SH.A M hp) u m)(r:jX P T E j c)(z:R.sz=j)(C:ev n env x=v)(I:ev n env y=u)
    (a:(l.length+m.length)*c<=140737488355328) (t:l.length+m.length<=9223372036854775807)
    (k:∀w' e,SH w0 M K w' (bU hp i (.own R E e (l++m)))->bI (ob v) w w'->(∀b,ob e b->b<w.heap.size->ob v b)->WL P ops Q rest n (gm env d e) w'):
    WL P ops Q (⟨d,.call {callee:=.builtin .append,args:= #[x,y],argTypes:= #[T,T]},ty,pos,af,none⟩::rest) n env w:=by
  obtain⟨e,w',B,G,o,p⟩:=YP (d:=d) (ty:=ty) (pos:=pos) (af:=af) (g:=none) r z C (h.bE i f) I q (fun b a=>.inr ⟨i,by rw[f];exact a⟩) a t;refine F B (k w' e (h.step i o (fun b a _=>by rw[f];exact a) (fun b a s=>by rw[f];exact p b a s) ?_) o p);refine cz.go G (bI.refl BE w') (fun _ h=>h.elim) (fun _ h=>h.elim) fun b a _=>?_;rcases a with a|a|a
  · exact .inl<|.inl a
  · exact .inl<|.inr<|kJ a
  · exact .inr a
theorem TQ{E u:TypeId}{l s:Str}(h:SH w0 M K w hp)(i:Nat)(c:hp i=.own fD E v l)(r:jX P T E 1 1)(t:One P E (.int .u8 0))(q:P.underlying u=some .string)(A:ev n env x=v)(p:ev n env y=bB s)
  (m:(l.length+s.length)*1<=140737488355328) (z:l.length+s.length<=9223372036854775807)
  (k:∀w' a,SH w0 M K w' (bU hp i (.own fD E a (l++s)))->bI (ob v) w w'->(∀b,ob a b->b<w.heap.size->ob v b)->WL P ops Q rest n (gm env d a) w'):
  WL P ops Q (⟨d,.call {callee:=.builtin .append,args:= #[x,y],argTypes:= #[T,u]},ty,pos,af,none⟩::rest) n env w:=by
 obtain⟨a,w',j,o,e,f⟩:=run_appS (d:=d) (ty:=ty) (pos:=pos) (af:=af) (g:=none) r t q A (h.giveO i c) p m z;exact F j<|k w' a (h.given i c o e f) e f
theorem fI{f:Func}{R:Ending->World->Prop}{u a:Tmp}{T:TypeId}{v2:Value}{zs vs:List Value}{b:Nat}(p:f.results= #[.cell a T,.tmp u])(g:ev n env (.tmp a)=.pointer (some ⟨b,0,none⟩))(k:ev n env (.tmp u)=v2)
  (m:SH w0 M K w hp) (i:Nat) (j:hp i=.blk b vs) (o:uN P T zs) (l:vs.length=zs.length) (h:R (.returned (.tuple #[.agg vs.toArray,v2])) w):bodyPost P f R .ret (act n env) w:=by
 refine⟨Z,_,?_,h⟩;have d:=congrFun (gJ n env)<|.tmp u;have c:=congrFun (gJ n env)<|.tmp a;rw[k]at d;rw[g]at c;simp only[Act.eval]at d c;rw[Array.getD_eq_getD_getElem?]at d c;have e:=Ai (P:=P) m j o l Z;unfold results;rw[p];simp[d,c,asAddr,e]
theorem O7{g:Func}{R:Ending->World->Prop}{t u a:Tmp}{T:TypeId}{v2 v3:Value}{zs vs:List Value}{b:Nat}(l:g.results= #[.cell a T,.tmp t,.tmp u])(m:ev n env (.tmp a)=.pointer (some ⟨b,0,none⟩))(o:ev n env (.tmp t)=v2)(q:ev n env (.tmp u)=v3)
  (j:SH w0 M K w hp) (i:Nat) (p:hp i=.blk b vs) (k:uN P T zs) (r:vs.length=zs.length) (h:R (.returned (.tuple #[.agg vs.toArray,v2,v3])) w):bodyPost P g R .ret (act n env) w:=by
 refine⟨Z,_,?_,h⟩;have c:=congrFun (gJ n env)<|.tmp t;have e:=congrFun (gJ n env)<|.tmp u;have d:=congrFun (gJ n env)<|.tmp a;rw[o]at c;rw[q]at e;rw[m]at d;simp only[Act.eval]at c e d;rw[Array.getD_eq_getD_getElem?]at c e d;have f:=Ai (P:=P) j p k r Z;unfold results;rw[l];simp[c,e,d,asAddr,f]
theorem fin3{e:Func}{R:Ending->World->Prop}{t u a:Tmp}{v1 v2 v3:Value}(g:e.results= #[.tmp t,.tmp u,.tmp a])(f:ev n env (.tmp t)=v1)(j:ev n env (.tmp u)=v2)(i:ev n env (.tmp a)=v3)(h:R (.returned (.tuple #[v1,v2,v3])) w):bodyPost P e R .ret (act n env) w:=by
 refine⟨Z,_,?_,h⟩;have d:=congrFun (gJ n env)<|.tmp t;have c:=congrFun (gJ n env)<|.tmp u;have b:=congrFun (gJ n env)<|.tmp a;rw[f]at d;rw[j]at c;rw[i]at b;simp only[Act.eval]at d c b;rw[Array.getD_eq_getD_getElem?]at d c b;unfold results;rw[g];simp[d,c,b]
theorem At.grow{b o:Nat}{cs:List Value}(h:At w b o cs)(c:Grow w w'):At w' b o cs:=by
 obtain⟨cells,E,d,a,e⟩:=h;exact⟨cells,E,d,c.blk a,e⟩
theorem vN{ws w:World}{v u:Value}(c:ws.heap.size<=w.heap.size)(d:∀b,ob v b->ws.heap.size<=b)(hn:∀b,ob u b->b<w.heap.size->ob v b):∀b,ob u b->ws.heap.size<=b:=
 fun b e=>Nat.le_of_not_lt fun a=>Nat.not_lt_of_le (d b (hn b e (Nat.lt_of_lt_of_le a c))) a
def EffOk(P:Program)(ops:Array Oper)(Q1:Nat->Exit->Act->World->Prop)(n:Nat)(env:Nat->Value)(w:World)(i:Nat):Prop:=
 ∃d op ty pos af g,ops[i]? =some ⟨d,op,ty,pos,af,g⟩/\Region.wanted ⟨d,op,ty,pos,af,g⟩ (yielded ops (act n env).tmps)=true/\WL P ops (Q1 i) [⟨d,op,ty,pos,af,none⟩] n env w
theorem QJ{Q1:Nat->Exit->Act->World->Prop}(i:Nat)(a:ops[i]? =some ⟨d,op,ty,pos,af,g⟩)(b:Region.wanted ⟨d,op,ty,pos,af,g⟩ (yielded ops (act n env).tmps)=true)(h:WL P ops (Q1 i) [⟨d,op,ty,pos,af,none⟩] n env w):EffOk P ops Q1 n env w i:=⟨_,_,_,_,_,_,a,b,h⟩
def EffAll(P:Program)(ops:Array Oper)(Q1:Nat->Exit->Act->World->Prop)(n:Nat)(env:Nat->Value)(w:World):List Nat->Prop
 |[]=>True
 |i::r=>EffOk P ops Q1 n env w i/\EffAll P ops Q1 n env w r
theorem Uj{Q1:Nat->Exit->Act->World->Prop}:∀{l:List Nat},EffAll P ops Q1 n env w l->∀k∈l,EffOk P ops Q1 n env w k
  |i::r,⟨h1,h2⟩,k,hk=>by
    rcases List.mem_cons.1 hk with rfl|hk
    · exact h1
    · exact Uj h2 k hk
theorem whk_effs{L:BS}{ws:World}(l:List Nat)(a:Region.ready .any ops listed=l)(j:l≠[])
  (h:EffAll P ops (fun i=>QG P ops L ws Q fuel (listed.setIfInBounds i true)) n env w l):TP P ops L ws Q (fuel+1) listed n env w:=by
 refine⟨wpAnyH_all a j fun k e=>?_⟩;obtain⟨d,op,ty,pos,af,g,c,f,b⟩:=Uj h k e;exact ET c f b
end
open Go.RowKit Go.ChangeShapes
theorem opens_byte{P:Program}{T:TypeId}(g:P.underlying T=some (.int .u8)):wM P T fD:=by
 intro a enc w c d fuel cs x h;obtain⟨n,rfl,_,b⟩:=DataW.trod_int g h;simp only[Lit.wf,Bool.and_eq_true,decide_eq_true_eq]at b;have f:0<=n:=b.1;have i:n<=255:=b.2;refine⟨UInt8.ofNat n.toNat,?_⟩;show [Value.int .u8 n]=[.int .u8 ((UInt8.ofNat n.toNat).toNat:Int)];have:(UInt8.ofNat n.toNat).toNat=n.toNat:=by
  have e:n.toNat%256=n.toNat:=Nat.mod_eq_of_lt V;simpa[UInt8.toNat_ofNat']using e
 rw[this,Int.toNat_of_nonneg f]
theorem YW{c:Type}{enc:TypeId×Value->c}{a:Assume}{C:Checked}{os:Os}{f:FuncId}{n:Func}{s:ChangeSpec}{l:List PathCond}{d fresh k again:Bool}{X:World->Array Value->Prop}
  (N:∀(w w':World) (args:Array Value),w.heap=w'.heap->X w args->X w' args)
  (own:ownKnob C.prog.godebug=none) (p:os.Started) (q:C.prog.inits.idxOf? f=none) (B:C.prog.funcs[f]? =some n)
  (o:∃(w:World) (g:Tape) (i:Input),w.os=os/\(w.forCall g i).Shaped C.prog/\i.vars=[]/\Input.okWide C.prog (w.forCall g i) .any w.heap.size f i/\
   ((s.pre enc C.prog n l d (w.forCall g i).memory i.args/\X (w.forCall g i).memory i.args)/\sizedMet enc C.prog n (OpenSpec.ofChange s) d (w.forCall g i).memory i.args)/\a.holds C.prog (lone (Frame.enter C.prog f i.args .normal) [] (w.forCall g i)))
  (m:∀(b:World) (y:Nat) (args:Array Value) (A z:List (DataW c)) (h:List MemPlace),
   (∀(j:Nat) t v,n.params[j]? =some t->args[j]? =some v->Value.okWide C.prog b .any y t v)->
   DataW.Whole enc C.prog n.params.toList s.vars d b args.toList A z h->
   l.all (PathCond.test C.prog ⟨n.params.toList,A,s.plain.varTypes C.prog,z⟩)=true->X b args->b.ShapedOpen C.prog->
   Calls C.prog f args b fun e K=>∃v,e=.returned v/\s.post enc C.prog n d fresh k again b args v K):
  ReturnsInHanded a C os f .any (fun w args=>(s.pre enc C.prog n l d w args/\X w args)/\sizedMet enc C.prog n (OpenSpec.ofChange s) d w args) (s.post enc C.prog n d fresh k again):=by
 refine returnsInHanded_of_calls own p q o ?_;intro w g i _ I _ E u _;obtain⟨_,_,_,J,x,_,_,_,_,r⟩:=E;have e:J=n:=Option.some.inj<|x.symm.trans B;subst e;obtain⟨⟨⟨A,z,h,L,M⟩,P⟩,_⟩:=u;have G:=DataW.Whole.of_heap (w':=w.forCall g i) (by rfl) L;refine(m (w.forCall g i) w.heap.size i.args A z h r G M (N _ _ _ (by rfl) P) I).mono fun e K⟨v,O,hp⟩=>?_;subst O;exact ChangeSpec.post_blind hp
def laidIn(w:World)(g:Nat)(a:Array Value):World:=
 {w with heap:=w.heap.modify g fun| .cells _ t fz=>.cells a t fz|o=>o}
def tabCells:DataW Unit->Array Value
 | .agg l=>(l.map fun| .lit (.int k z)=>Value.int k z|_=>Value.nilIface).toArray
 |_=> #[]
structure iK where
 safe:List UInt8
 wait:List UInt8
deriving DecidableEq
def rDisk:kD iK where
 sz:=2
 rd w A cs x:=∃C9,∃Da,cs=[C9,Da]/\bZ fD w A C9 x.safe/\bZ fD w A Da x.wait
 len:=by rintro w A cs x ⟨C9,Da,rfl,h0,h1⟩;rfl
 one:=by rintro w A cs x ⟨C9,Da,rfl,h0,h1⟩ u hu;simp only[List.mem_cons,List.not_mem_nil,or_false]at hu;rcases hu with rfl|rfl<;>first|rfl|exact h0.one|exact h1.one
 pos:=by decide
 go:=by rintro w A cs x w2 A2 K ⟨C9,Da,rfl,h0,h1⟩ hk hK hA;exact⟨_,_,Z,h0.go hk hK hA,h1.go hk hK hA⟩
theorem rDisk_open{w:World}{A:BS}{cs:List Value}{x:iK}(h:rDisk.rd w A cs x):∃b,∃a,cs=[b,a]/\bZ fD w A b x.safe/\bZ fD w A a x.wait:=h
theorem puint_app(a:Nat)(c:UInt8):∀(l:Str),Lib.parseUint10 a (l++[c])=match Lib.parseUint10 a l with| .ok m=>Lib.parseUint10 m [c]|e=>e:=by
  intro l;induction l generalizing a with
  |nil=>simp[Lib.parseUint10]
  |cons b r ih=>
    simp only[List.cons_append,Lib.parseUint10];split
    · split
      · rfl
      · split
        · rfl
        · rw[ih];rfl
    · rfl
def numOf(w:Str):Option Int:=match Lib.atoiAll w with| .ok v=>if Lib.itoa v=w then some v else none|_=>none
theorem numOf_some{w:Str}{n:Int}(h:numOf w=some n):w=Lib.itoa n/\lK n:=by
  unfold numOf at h;cases e:Lib.atoiAll w with
  |ok v=>
    rw[e]at h;simp only at h;split at h
    · rename_i a;cases h;have:=Lib.atoiAll_bounds e;exact⟨a.symm,this⟩
    · cases h
  |_=>rw[e]at h;cases h
def kL(c:UInt8):Str->List Str
 |[]=>[[]]
 |b::r=>if b=c then []::kL c r else match kL c r with|x::xs=>(b::x)::xs|[]=>[[b]]
theorem Hu(c:UInt8):∀(s:Str),kL c s≠[]
  |[]=>by simp[kL]
  |b::r=>by
    unfold kL;split
    · simp
    · split<;>simp
theorem SY{c:UInt8}:∀{x:Str},c∉x->kL c x=[x]
 |[],_=>rfl
 |b::r,h=>by
  have a:¬b=c:=fun e=>h (by rw[e];exact List.mem_cons_self);rw[kL,if_neg a,SY (x:=r) (fun e=>h (List.mem_cons_of_mem _ e))]
theorem EW{c:UInt8}{r:Str}:∀{x:Str},c∉x->kL c (x++c::r)=x::kL c r
 |[],_=>by simp[kL]
 |b::x,h=>by
  have a:¬b=c:=fun e=>h (by rw[e];exact List.mem_cons_self);rw[List.cons_append,kL,if_neg a,EW (x:=x) (fun e=>h (List.mem_cons_of_mem _ e))]
theorem idx1(c:UInt8):∀(s:Str),(Lib.index s [c]= -1/\c∉s)\/∃x r,s=x++c::r/\c∉x/\Lib.index s [c]=x.length
  |[]=>by left;exact⟨by simp[Lib.index],by simp⟩
  |b::l=>by
    by_cases h:b=c
    · subst h;right;exact⟨[],l,Z,by simp,by simp[Lib.index,List.isPrefixOf]⟩
    · have a:¬c=b:=fun e=>h e.symm;have hp:List.isPrefixOf [c] (b::l)=false:=by simp[List.isPrefixOf,a]
      rcases idx1 c l with⟨h1,h2⟩|⟨x,r,h1,h2,h3⟩
      · left;refine⟨by rw[Lib.index,hp,h1];simp,?_⟩;simp[h2,a]
      · right;refine⟨b::x,r,by rw[h1];rfl,by simp[h2,a],?_⟩;have:¬(Lib.index l [c]== -1)=true:=by rw[h3];simp
        rw[Lib.index,hp,if_neg zq3,if_neg this,h3];simp
theorem splitK_C(c:UInt8):∀(k:Nat) (s:Str),Lib.count s [c]=k->Lib.splitK [c] 0 k s=kL c s:=by
  intro k;induction k with
  |zero=>
    intro s a;rcases idx1 c s with⟨h1,h2⟩|⟨x,r,h1,h2,h3⟩
    · rw[SY h2];rfl
    · rw[Lib.count_hit zq3 h3]at a;omega
  |succ k ih=>
    intro s a;rcases idx1 c s with⟨h1,h2⟩|⟨x,r,h1,h2,h3⟩
    · rw[Lib.count_miss h1]at a;omega
    · have d:¬(Lib.index s [c]== -1)=true:=by rw[h3];simp
      rw[Lib.count_hit zq3 h3]at a;have b:s.drop (x.length+[c].length)=r:=by rw[h1];simp
      rw[Lib.splitK,if_neg d,h3];simp only[Int.toNat_natCast,Nat.add_zero];rw[b]at a⊢;rw[ih r V,h1,EW h2,List.take_left]
theorem split_C(c:UInt8)(s:Str):Lib.split s [c]=kL c s:=splitK_C c _ s Z
def EX(c:UInt8)(l:List Str):Str:=Lib.join l [c]
theorem Hw(c:UInt8)(x:Str):EX c [x]=x:=Lib.join_one x [c]
theorem EY(c:UInt8)(x y:Str)(l:List Str):EX c (x::y::l)=x++c::EX c (y::l):=by
 unfold EX;rw[Lib.join_cons,Lib.join_cons];simp[Lib.joinTail]
theorem zI(c:UInt8):∀(s:Str),EX c (kL c s)=s
  |[]=>Hw c []
  |b::r=>by
    have a:=zI c r;unfold kL;split
    · rename_i h;subst h;cases e:kL b r with
      |nil=>exact absurd e (Hu b r)
      |cons y l=>rw[EY,<-e,a];rfl
    · split
      · rename_i x xs e;rw[e]at a;cases xs with
        |nil=>rw[Hw]at a⊢;rw[a]
        |cons y l=>rw[EY]at a⊢;rw[List.cons_append,a]
      · rename_i e;exact absurd e<|Hu c r
theorem Jh(c:UInt8):∀(s:Str),(kL c s).length<=s.length+1
  |[]=>by simp[kL]
  |b::r=>by
    have a:=Jh c r;unfold kL;split
    · simp;omega
    · split
      · rename_i x xs e;rw[e]at a;simp at a⊢;omega
      · simp
theorem Ca(c:UInt8):∀(s x:Str),x∈kL c s->x.length<=s.length/\c∉x
  |[],x,h=>by simp[kL]at h;subst h;simp
  |b::r,x,h=>by
    unfold kL at h;split at h
    · rcases List.mem_cons.1 h with rfl|h
      · simp
      · have:=Ca c r x h;exact⟨by simp;omega,this.2⟩
    · rename_i d;split at h
      · rename_i y f e;rcases List.mem_cons.1 h with rfl|h
        · have:=Ca c r y (by rw[e];exact List.mem_cons_self);refine⟨by simp;exact this.1,?_⟩;intro a;rcases List.mem_cons.1 a with a|a
          · exact d a.symm
          · exact this.2 a
        · have:=Ca c r x (by rw[e];exact List.mem_cons_of_mem _ h);exact⟨by simp;omega,this.2⟩
      · rename_i e;exact absurd e<|Hu c r
def Xp(c:UInt8)(s:Str):Option (List Int):=(kL c s).mapM numOf
theorem GL:∀{w:List Str} {l:List Int},w.mapM numOf=some l->w=l.map Lib.itoa/\∀x∈l,lK x
  |[],l,h=>by cases h;exact⟨Z,by simp⟩
  |x::w,l,h=>by
    rw[List.mapM_cons]at h;cases e:numOf x with
    |none=>rw[e]at h;cases h
    |some v=>
      rw[e]at h;cases e2:w.mapM numOf with
      |none=>rw[e2]at h;cases h
      |some m=>
        rw[e2]at h;cases h;obtain⟨b,f⟩:=GL e2;obtain⟨d,c⟩:=numOf_some e;refine⟨by rw[List.map_cons,<-b,<-d],?_⟩;intro y a;rcases List.mem_cons.1 a with rfl|a
        · exact c
        · exact f y a
theorem join_nums{c:UInt8}{s:Str}{l:List Int}(h:Xp c s=some l):s=EX c (l.map Lib.itoa)/\(∀x∈l,lK x)/\l≠[]:=by
 obtain⟨a,b⟩:=GL h;refine⟨by rw[<-a,zI],b,?_⟩;rintro rfl;exact Hu c s a
theorem itoaS_eq{n:Int}(h:lK n):Kt n=some (Lib.itoa n):=by unfold Kt;rw[uL h]
theorem atoiS_eq{w:Str}(h:w.length<=281474976710656):Gh w=some (match Lib.atoiAll w with| .ok v=>(v,false)| .range=>(Lib.atoiSat w,true)|_=>(0,true)):=by unfold Gh;rw[uL h];all_goals (cases Lib.atoiAll w<;>rfl)
theorem parseS_eq{w:Str}(h:w.length<=281474976710656):parseS w=some (match Lib.atoiAll w with| .ok v=>(v,false)| .range=>(Lib.intSat 64 w,true)|_=>(0,true)):=by unfold parseS;rw[uL h,Lib.parseIntB_64];all_goals (cases Lib.atoiAll w<;>rfl)
theorem splitS_eq{s:Str}(c:UInt8)(h:s.length<4294967281):Ni s [c]=some (kL c s):=by unfold Ni;rw[uL ⟨h,Nat.le_refl _⟩,split_C]
end Go.LX