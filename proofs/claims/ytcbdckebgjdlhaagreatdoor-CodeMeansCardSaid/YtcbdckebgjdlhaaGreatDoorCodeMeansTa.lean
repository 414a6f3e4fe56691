/-
  What the law CodeMeans needs of our own library and of the walks, no more.
-/
import Derived.WalkKit
import Derived.Laws.StructEq
import Derived.ChangeKeysEq
import Derived.StillTail
import Derived.LoopN
import Derived.Deep.Quiet
import Derived.OrdersHeld
import Derived.Deep.RegionHeld3
import Derived.Deep.Slices
import Derived.MapKept
import Derived.Lib.Bytealg
import Derived.ChangeArms
import Derived.Lib.AppendZeros
import Derived.Lib.Overlaps
import Derived.Laws.CopyRow
import Derived.Shelf.SlSortCmp.SmallK
import Derived.Laws.Pointers
import Derived.Laws.OwnMore
import Derived.Laws.Concat
import Derived.Laws.Strings2
import Derived.Laws.Strings3
import Derived.Laws.IdiomStrings
import Derived.Lib.AppendStr
import Derived.Lib.ConvBytes
import Derived.Lib.LaidTab
import Derived.Lib.ItoaNum
import Derived.WideLaws
import Derived.Lib.SplitLaws
import Derived.Lib.JoinLaws
import Derived.Lib.AtoiAll
import Derived.Lib.ParseIntB
import Derived.Laws.NewFold
import Derived.Lib.Join
import Derived.Lib.Strings
import Derived.Sort.Grow
import Derived.Lib.Space
import Derived.Handed
import Derived.LaidMore
import Derived.LaidHandle
import Derived.Stop.LaidErr
import Derived.Shelf.Vars
import Derived.WideShapes
import Derived.Lib.ParseIntBTie
import Derived.Lib.ItoaLen
import Derived.Lib.AtoiAllCases
import Derived.Shelf.Strings.Builder1
import Derived.Laws.IdiomRangeMap
import Derived.Lib.FieldsLaws
namespace Go
theorem Z.{u} {α : Sort u} {a : α} : a = a := rfl
theorem U : True := trivial
theorem V {p : Prop} (h : p := by omega) : p := h
theorem zq1 {p : Prop} (h : p := by decide) : p := h
theorem zq2 {p : Prop} (h : p := by kernel_rfl) : p := h
theorem zq3 {p : Prop} (h : p := by simp) : p := h
end Go
set_option linter.unusedSimpArgs false
set_option linter.unusedVariables false
set_option maxRecDepth 10000
namespace Go.LX
open Go.RowKit
def act(n:Nat)(env:Nat->Value):Act:={tmps:=Array.ofFn (n:=n) fun i=>env i.val,defers:=[]}
def upd(env:Nat->Value)(d:Nat)(v:Value):Nat->Value:=fun i=>bif Nat.beq i d then v else env i
def ev(n:Nat)(env:Nat->Value):Operand->Value
 | .tmp t=>bif Nat.blt t n then env t else undef
 | .const v=>v
 | .global g=>.pointer (some ⟨g,0,none⟩)
 | .func f=>.func (.func f) #[] #[]
def fq(env:Nat->Value):Option Nat->Value->(Nat->Value)
 |some d,v=>upd env d v
 |none,_=>env
theorem iK(n:Nat)(env:Nat->Value):(act n env).eval=ev n env:=by
  funext x;cases x with
  |tmp t=>
    by_cases h:t<n
    · have a:Nat.blt t n=true:=by rw[Nat.blt_eq];exact h
      simp[Act.eval,act,ev,h,a]
    · have a:Nat.blt t n=false:=by rw[Bool.eq_false_iff,ne_eq,Nat.blt_eq];exact h
      simp[Act.eval,act,ev,h,a]
  |_=>rfl
theorem yP(n:Nat)(env:Nat->Value)(d:Option Nat)(v:Value):(act n env).put d v=act n (fq env d v):=by
  cases d with
  |none=>rfl
  |some d=>
    simp only[Act.put,act,fq,Act.mk.injEq,and_true];apply Array.ext
    · simp
    · intro i b f;simp at b;have c:i<(Array.ofFn (n:=n) fun i=>env i.val).size:=by simp;exact b
      rw[Array.getElem_setIfInBounds c];by_cases a:d=i
      · subst a;simp[upd,Nat.beq_refl]
      · have e:Nat.beq i d=false:=by rw[Bool.eq_false_iff];intro h;exact a (Nat.eq_of_beq_eq_true h).symm
        simp[a,upd,e]
def Jk(args:List Value):Nat->Value:=fun i=>args.getD i undef
theorem Y5(n:Nat)(args:List Value)(h:args.length<=n):({tmps:=args.toArray++Array.replicate (n-args.toArray.size) undef,defers:=[]}:Act)=act n (Jk args):=by
  simp only[act,Act.mk.injEq,and_true];apply Array.ext
  · simp;omega
  · intro i b c;simp[Array.getElem_append,Jk,List.getD];by_cases a:i<args.length
    · simp[a]
    · simp[a]
structure WL(P:Program)(ops:Array Oper)(Q:Exit->Act->World->Prop)(l:List Oper)(n:Nat)(env:Nat->Value)(w:World):Prop where
 out:wpList P ops Q l (act n env) w
structure WC(P:Program)(c:Code)(Q:Exit->Act->World->Prop)(n:Nat)(env:Nat->Value)(w:World):Prop where
 out:c.wp P Q (act n env) w
section
variable{P:Program}{ops:Array Oper}{Q:Exit->Act->World->Prop}{n:Nat}{env:Nat->Value}{w w':World}{rest:List Oper}
 {d:Option Nat} {op:Op} {ty:TypeId} {pos:String} {af:Array Edge} {v:Value} {g:Option (Nat×Bool)}
theorem F(b:(execOp (ev n env) ⟨d,op,ty,pos,af,none⟩).run P w=.ok (.value v) w')(h:WL P ops Q rest n (fq env d v) w'):
  WL P ops Q (⟨d,op,ty,pos,af,none⟩::rest) n env w:=by
 refine⟨wpList_plain Z fun K a=>?_⟩;unfold Oper.wp;rw[iK,b];show K _ _;rw[yP];exact a _ _ h.out
theorem uE(b:(execOp (ev n env) ⟨d,op,ty,pos,af,none⟩).run P w=.ok .skip w')(h:WL P ops Q rest n (fq env d undef) w'):
  WL P ops Q (⟨d,op,ty,pos,af,none⟩::rest) n env w:=by
 refine⟨wpList_plain Z fun K a=>?_⟩;unfold Oper.wp;rw[iK,b];show K _ _;rw[yP];exact a _ _ h.out
theorem Y6{f:FuncId}{args:Array Value}{R:Ending->World->Prop}(g:(execOp (ev n env) ⟨d,op,ty,pos,af,none⟩).run P w=.ok (.enter f args) w)(b:Calls P f args w R)
  (h:∀e w',R e w'->∃v,e=.returned v/\WL P ops Q rest n (fq env d v) w'):
  WL P ops Q (⟨d,op,ty,pos,af,none⟩::rest) n env w:=by
 refine⟨wpList_plain Z fun K a=>?_⟩;unfold Oper.wp;rw[iK,g];show Calls P f args w _;refine b.mono fun e w' i=>?_;obtain⟨v,rfl,c⟩:=h e w' i;show K _ _;rw[yP];exact a _ _ c.out
theorem Dz{j dj:Nat}{b:Bool}(d:(ops[j]?).bind (·.dst)=some dj)(c:ev n env (.tmp dj)=.bool b):yielded ops (act n env).tmps j=some b:=by
  unfold yielded;have a:(act n env).eval (.tmp dj)=.bool b:=by rw[iK];exact c
  simp only[d,Option.bind_some];simp only[Act.eval]at a;cases h2:(act n env).tmps[dj]? with
  |none=>simp[Array.getD_eq_getD_getElem?,h2,undef]at a
  |some x=>simp[Array.getD_eq_getD_getElem?,h2]at a;subst a;rfl
theorem KU{j dj:Nat}{b:Bool}(g:(ops[j]?).bind (·.dst)=some dj)(e:ev n env (.tmp dj)=.bool b)
    (h:WL P ops Q (⟨d,op,ty,pos,af,none⟩::rest) n env w):WL P ops Q (⟨d,op,ty,pos,af,some (j,b)⟩::rest) n env w:=by
  have f:=Dz (ops:=ops) g e;have c:Region.wanted ⟨d,op,ty,pos,af,some (j,b)⟩ (yielded ops (act n env).tmps)=true:=by simp[Region.wanted,f]
  have a:Region.wanted ⟨d,op,ty,pos,af,none⟩ (yielded ops (act n env).tmps)=true:=rfl;obtain⟨h⟩:=h;refine⟨?_⟩;unfold wpList at h⊢;rw[if_pos a]at h;rw[if_pos c];exact h
theorem jy{j dj:Nat}{b b':Bool}(g:(ops[j]?).bind (·.dst)=some dj)(e:ev n env (.tmp dj)=.bool b')(c:(b'==b)=false)
    (h:WL P ops Q rest n (fq env d undef) w):WL P ops Q (⟨d,op,ty,pos,af,some (j,b)⟩::rest) n env w:=by
  have f:=Dz (ops:=ops) g e;have a:Region.wanted ⟨d,op,ty,pos,af,some (j,b)⟩ (yielded ops (act n env).tmps)=false:=by simpa[Region.wanted,f]using c
  refine⟨?_⟩;unfold wpList;rw[if_neg (by rw[a];decide),yP];exact h.out
theorem ak(h:Q .normal (act n env) w):WL P ops Q [] n env w:=⟨h⟩
end
section
variable{P:Program}{Q:Exit->Act->World->Prop}{n:Nat}{env:Nat->Value}{w:World}{x y:Code}
theorem ax{id:Nat}{l:List Oper}(h:WL P l.toArray Q l n env w):WC P (Code.region id l.toArray false) Q n env w:=⟨wp_region_lit h.out⟩
theorem aK(h:WC P x (Exit.then (y.wp P Q) Q) n env w):WC P (Code.seq x y) Q n env w:=⟨wp_seq h.out⟩
theorem aL{id:Nat}(h:WC P x (Exit.inBlock id Q) n env w):WC P (Code.block id x) Q n env w:=⟨wp_block h.out⟩
theorem aA(h:Q .normal (act n env) w):WC P .skip Q n env w:=⟨wp_skip h⟩
theorem DC(h:Q .ret (act n env) w):WC P .ret Q n env w:=⟨wp_ret h⟩
theorem gJ{id:Nat}(h:Q (.exit id) (act n env) w):WC P (.exit id) Q n env w:=⟨wp_exit h⟩
theorem iU{c:Operand}{t:Bool}(a:ev n env c=.bool t)(d:t=true->WC P x Q n env w)(b:t=false->WC P y Q n env w):
 WC P (Code.cond c x y) Q n env w:=⟨wp_cond_split (by rw[iK];exact a) (fun h=>(d h).out) (fun h=>(b h).out)⟩
theorem LY{c:Operand}(b:ev n env c=.bool true)(a:WC P x Q n env w):WC P (Code.cond c x y) Q n env w:=⟨wp_cond_true (by rw[iK];exact b) a.out⟩
theorem TP{c:Operand}(b:ev n env c=.bool false)(a:WC P y Q n env w):WC P (Code.cond c x y) Q n env w:=⟨wp_cond_false (by rw[iK];exact b) a.out⟩
theorem aa{Q':Exit->Act->World->Prop}(h:WC P y Q n env w):Exit.then (y.wp P Q) Q' .normal (act n env) w:=h.out
def VE(mod:Nat->Bool)(b a:Nat->Value):Nat->Value:=fun i=>bif mod i then b i else a i
def Ov(e:Nat->Value):List (Nat×Value)->Nat->Value
 |[]=>e
 |(i,v)::r=>upd (Ov e r) i v
def Holds(e:Nat->Value):List (Nat×Value)->Prop
 |[]=>True
 |(i,v)::r=>e i=v/\Holds e r
def Bv(mod:Nat->Bool)(e a:Nat->Value):Prop:=∀i,mod i=false->e i=a i
theorem Bv.refl(mod:Nat->Bool)(e:Nat->Value):Bv mod e e:=fun _ _=>rfl
theorem Bv.VE(mod:Nat->Bool)(j e:Nat->Value):Bv mod (VE mod j e) e:=fun i h=>by simp[LX.VE,h]
theorem Bv.upd{mod:Nat->Bool}{e a:Nat->Value}{d:Nat}{v:Value}(f:mod d=true)(h:Bv mod e a):Bv mod (upd e d v) a:=fun i b=>by
 have:i≠d:=fun e=>by rw[e,f]at b;exact Bool.noConfusion b
 have c:Nat.beq i d=false:=by rw[Bool.eq_false_iff];intro h;exact this (Nat.eq_of_beq_eq_true h)
 simp[LX.upd,c,h i b]
theorem Y7(e:Nat->Value){i:Nat}{v:Value}(h:e i=v):upd e i v=e:=by
  funext k;by_cases a:Nat.beq k i=true
  · have:=Nat.eq_of_beq_eq_true a;subst this;simp[upd,h]
  · simp[upd,a]
theorem RD{mod:Nat->Bool}{e a:Nat->Value}(h:Bv mod e a):VE mod e a=e:=by
 funext i;cases hm:mod i with
 |true=>simp[VE,hm]
 |false=>simp[VE,hm,h i hm]
theorem Jl{e:Nat->Value}:∀(l:List (Nat×Value)),Holds e l->Ov e l=e
 |[],_=>rfl
 |(i,v)::r,h=>by
  show upd (Ov e r) i v=e;rw[Jl r h.2];exact Y7 e h.1
theorem wc_loop{σ:Type}{c:Code}(mod:Nat->Bool)(live:σ->List (Nat×Value))(J:σ->World->Prop)(v:σ->Nat)(A:σ)
  (S:Holds env (live A)) (N:J A w)
  (j:∀s K M,J s K->WC P c (Exit.then (fun a' w'=>∃p t,a'=act n t/\Bv mod t env/\Holds t (live p)/\J p w'/\v p<v s) Q) n (Ov (VE mod M env) (live s)) K):
  WC P (Code.loop c) Q n env w:=by
 refine⟨?_⟩;intro b k cs;have y:∀m s e w,v s=m->Bv mod e env->Holds e (live s)->J s w->
   ∃o a' w',Q o a' w'/\Arrives P (lone (b.at (act n e) (.code c:: .inLoop c::k)) cs w) b k cs o a' w':=by
  intro m;induction m using Nat.strongRecOn with
  |_ m ih=>
   intro s e w O L T R;have I:=(j s w e R).out;have C:Ov (VE mod e env) (live s)=e:=by rw[RD L];exact Jl _ T
   rw[C]at I;obtain⟨o,f,d,h,a⟩:=I b (.inLoop c::k) cs;cases o with
   |normal=>
    obtain⟨p,t,rfl,z,E,G,B⟩:=h;obtain⟨u,q,r,i,g⟩:=ih (v p) (O▸B) p t d Z z E G;exact⟨u,q,r,i,.of_steps (Steps.trans a<|.one step_inLoop) g⟩
   |exit id=>exact⟨_,f,d,h,.pass (x:=.inLoop c) Z (fun _ _=>.inl zq3) a⟩
   |goto l=>exact⟨_,f,d,h,.pass (x:=.inLoop c) Z (fun _ _=>.inl zq3) a⟩
   |ret=>exact⟨_,f,d,h,.pass (x:=.inLoop c) Z (fun _ _=>.inl zq3) a⟩
   |panic ch=>exact⟨_,f,d,h,.pass (x:=.inLoop c) Z (fun _ _=>.inl zq3) a⟩
   |outgrown=>exact⟨_,f,d,h,.pass (x:=.inLoop c) Z (fun _ _=>.inl zq3) a⟩
 obtain⟨o,a',w',h,a⟩:=y _ A env w Z (Bv.refl _ _) S N;exact⟨o,a',w',h,.of_steps (.one step_loop) a⟩
end
open Go.RowKit
structure One(P:Program)(T:TypeId)(z:Value):Prop where
 desc:∃d,P.underlying T=some d/\(match d with| .struct _| .array _ _=>False|_=>True)
 info:(P.info? T).map (fun i=>(i.zero,i.size))=some (some z,1)
 cell:z.cells= #[z]
structure xc(P:Program)(T:TypeId)(zs:List Value):Prop where
 desc:∃d,P.underlying T=some d/\(match d with| .struct _| .array _ _=>True|_=>False)
 info:(P.info? T).map (fun i=>(i.zero,i.size))=some (some (.agg zs.toArray),zs.length)
structure SliceOf(P:Program)(T E:TypeId)(sz:Nat):Prop where
  desc:P.underlying T=some (.slice E)
  info:(P.info? E).map (·.size)=some sz
structure eO(P:Program)(T:TypeId)(k off:Nat):Prop where
  desc:∃fs f s,P.underlying T=some (.struct fs)/\fs[k]? =some f/\f.offset=off/\(P.info? f.type).map (·.size)=some (s+1)
section
variable{P:Program}{w:World}{ρ:Operand->Value}{d:Option Nat}{ty:TypeId}{pos:String}{af:Array Edge}{g:Option (Nat×Bool)}
theorem bM{x:Operand}{v:Value}(a:ρ x=v):(execOp ρ ⟨d,.move x,ty,pos,af,g⟩).run P w=.ok (.value v) w:=by subst a;rfl
theorem lM{x:Operand}{v:Value}(a:ρ x=v):(execOp ρ ⟨d,.assign x,ty,pos,af,g⟩).run P w=.ok (.value v) w:=by subst a;rfl
theorem mG{c x y:Operand}{b:Bool}{v:Value}(e:ρ c=.bool b)(a:(if b then ρ x else ρ y)=v):(execOp ρ ⟨d,.pick c x y,ty,pos,af,g⟩).run P w=.ok (.value v) w:=by
 subst a;simp[execOp,e,asBool]
theorem r_not{x:Operand}{T:TypeId}{b:Bool}(a:ρ x=.bool b):(execOp ρ ⟨d,.unOp .not T x,ty,pos,af,g⟩).run P w=.ok (.value (.bool !b)) w:=by
 simp[execOp,a,Op.unary]
theorem Qn{x:Int}(b: -9223372036854775808<=x)(a:x<=9223372036854775807):IntKind.i64.wrap x=x:=IntWalk.i64_in x ⟨b,a⟩
theorem ym{x y:Operand}{T T2:TypeId}{p q:Int}(b:ρ x=.int .i64 p)(a:ρ y=.int .i64 q):(execOp ρ ⟨d,.binOp .lss T x y T2,ty,pos,af,g⟩).run P w=.ok (.value (.bool (decide (p<q)))) w:=by
 simp[execOp,b,a,eqGuard,binOp,Op.intCmp]
theorem Eo{x y:Operand}{T T2:TypeId}{p q:Int}(b:ρ x=.int .i64 p)(a:ρ y=.int .i64 q):(execOp ρ ⟨d,.binOp .leq T x y T2,ty,pos,af,g⟩).run P w=.ok (.value (.bool (decide (p<=q)))) w:=by
 simp[execOp,b,a,eqGuard,binOp,Op.intCmp]
theorem iW{x y:Operand}{T T2:TypeId}{p q:Int}(b:ρ x=.int .i64 p)(a:ρ y=.int .i64 q):(execOp ρ ⟨d,.binOp .gtr T x y T2,ty,pos,af,g⟩).run P w=.ok (.value (.bool (decide (q<p)))) w:=by
 simp[execOp,b,a,eqGuard,binOp,Op.intCmp]
theorem lJ{x y:Operand}{T T2:TypeId}{p q:Int}(b:ρ x=.int .i64 p)(a:ρ y=.int .i64 q):(execOp ρ ⟨d,.binOp .geq T x y T2,ty,pos,af,g⟩).run P w=.ok (.value (.bool (decide (q<=p)))) w:=by
 simp[execOp,b,a,eqGuard,binOp,Op.intCmp]
theorem rC{x y:Operand}{T T2:TypeId}{p q:Int}{k:IntKind}(b:ρ x=.int k p)(a:ρ y=.int k q):(execOp ρ ⟨d,.binOp .eql T x y T2,ty,pos,af,g⟩).run P w=.ok (.value (.bool (decide (p=q)))) w:=by
 simp[execOp,b,a,eqGuard,binOp,Op.intCmp];rfl
theorem wH{x y:Operand}{T T2:TypeId}{p q:Int}{k:IntKind}(b:ρ x=.int k p)(a:ρ y=.int k q):(execOp ρ ⟨d,.binOp .neq T x y T2,ty,pos,af,g⟩).run P w=.ok (.value (.bool (decide (p≠q)))) w:=by
 simp[execOp,b,a,eqGuard,binOp,Op.intCmp];rfl
theorem LZ{x y:Operand}{T T2:TypeId}{p q:Int}(a:ρ x=.int .i64 p)(b:ρ y=.int .i64 q)(h: -9223372036854775808<=p+q/\p+q<=9223372036854775807):
  (execOp ρ ⟨d,.binOp .add T x y T2,ty,pos,af,g⟩).run P w=.ok (.value (.int .i64 (p+q))) w:=by
 simp[execOp,a,b,eqGuard,binOp,Op.intArith,Qn h.1 h.2]
theorem lY{x y:Operand}{T T2:TypeId}{p q:Int}(a:ρ x=.int .i64 p)(b:ρ y=.int .i64 q)(h: -9223372036854775808<=p-q/\p-q<=9223372036854775807):
  (execOp ρ ⟨d,.binOp .sub T x y T2,ty,pos,af,g⟩).run P w=.ok (.value (.int .i64 (p-q))) w:=by
 simp[execOp,a,b,eqGuard,binOp,Op.intArith,Qn h.1 h.2]
theorem RG{x:Operand}{T E:TypeId}{e:Nat}{a:Option Addr}{l c:Nat}(b:SliceOf P T E e)(f:ρ x=.slice a l c):
  (execOp ρ ⟨d,.call {callee:=.builtin .len,args:= #[x],argTypes:= #[T]},ty,pos,af,g⟩).run P w=.ok (.value (.int .i64 l)) w:=by
 simp[execOp,resolve,invoke,builtin,Builtin.len_,f,underlying,b.desc,goInt]
theorem VG{x:Operand}{T:TypeId}{z v:Value}{b o:Nat}{cs:Array Value}{E:TypeId}{e:Nat×Nat}(c:One P T z)(j:ρ x=.pointer (some ⟨b,o,none⟩))(h:w.heap[b]? =some (.cells cs E e))(a:cs[o]? =some v):
  (execOp ρ ⟨d,.load T x,ty,pos,af,g⟩).run P w=.ok (.value v) w:=by
 obtain⟨f,l,i⟩:=c.desc;have k:w.cell? ⟨b,o,none⟩=some v:=by simp[World.cell?,h,a]
 cases f<;>simp_all[execOp,Instr.loadAt,Instr.sureAddr,loadVar,isAgg,underlying]
end
open Go.RowKit
abbrev BS:=Nat->Prop
abbrev BE:BS:=fun _=>False
structure bG(K:BS)(w w':World):Prop where
 os:w'.os=w.os
 tape:w'.tape=w.tape
 output:w'.output=w.output
 size:w.heap.size<=w'.heap.size
 block:∀b,¬K b->b<w.heap.size->w'.heap[b]? =w.heap[b]?
abbrev Grow(w w':World):Prop:=bG BE w w'
theorem bG.refl(K:BS)(w:World):bG K w w:=⟨rfl,rfl,rfl,Nat.le_refl _,fun _ _ _=>rfl⟩
theorem bG.step{K N:BS}{a b c:World}(h:bG K a b)(k:bG N b c)(f:∀x,N x->x<a.heap.size->K x):bG K a c:=
 ⟨k.os.trans h.os,k.tape.trans h.tape,k.output.trans h.output,Nat.le_trans h.size k.size,fun i e d=>(k.block i (fun hn=>e (f i hn d)) (Nat.lt_of_lt_of_le d h.size)).trans (h.block i e d)⟩
theorem bG.grow{K:BS}{a b c:World}(h:bG K a b)(k:Grow b c):bG K a c:=h.step k (fun _ h=>h.elim)
theorem bG.weaken{K N:BS}{a b:World}(h:bG K a b)(d:∀x,K x->x<a.heap.size->N x):bG N a b:=⟨h.os,h.tape,h.output,h.size,fun i e c=>h.block i (fun hn=>e (d i hn c)) c⟩
theorem iq{w:World}{b:Nat}{o:Obj}(a:w.heap[b]? =some o):b<w.heap.size:=by
  rcases Nat.lt_or_ge b w.heap.size with h1|h1
  · exact h1
  · rw[Array.getElem?_eq_none h1]at a;cases a
theorem bG.blk{K:BS}{w w':World}(h:bG K w w'){b:Nat}{o:Obj}(a:w.heap[b]? =some o)(c:¬K b):w'.heap[b]? =some o:=by
 rw[h.block b c (iq a),a]
theorem Grow.blk{w w':World}(h:Grow w w'){b:Nat}{o:Obj}(a:w.heap[b]? =some o):w'.heap[b]? =some o:=bG.blk h a (fun h=>h)
theorem Grow.below{w w':World}(h:Grow w w'):Below w.heap.size w w':=⟨h.os,h.tape,h.output,h.size,fun k a=>h.block k (fun h=>h) a⟩
theorem Grow.of_below{w w':World}(h:Below w.heap.size w w'):Grow w w':=⟨h.os,h.tape,h.output,h.size,fun k _ a=>h.block k a⟩
theorem Grow.alloc(w:World)(o:Obj):Grow w (w.alloc o):=Grow.of_below ((Below.refl _ _).alloc (Nat.le_refl _) o)
theorem Cu(w:World)(o:Obj):(w.alloc o).heap[w.heap.size]? =some o:=by show(w.heap.push o)[w.heap.size]? =some o;simp
theorem Grow.drew(w:World):Grow w w.drew:=⟨rfl,rfl,rfl,Nat.le_refl _,fun _ _ _=>rfl⟩
theorem Grow.trans{a b c:World}(h:Grow a b)(k:Grow b c):Grow a c:=h.grow k
structure jN(α:Type)where
 sz:Nat
 rd:World->BS->List Value->α->Prop
 len:∀{w A cs x},rd w A cs x->cs.length=sz
 one:∀{w A cs x},rd w A cs x->∀u∈cs,u.oneCell'=true
 pos:0<sz
 go:∀{w A cs x w' A' K},rd w A cs x->bG K w w'->(∀b,K b->b<w.heap.size->A b)->(∀b,A' b->b<w.heap.size->A b)->rd w' A' cs x
def ik{α:Type}(R:jN α)(w:World)(B A:BS)(v:Value)(l:List α):Prop:=
 ∃a cap,v=.slice a l.length cap/\l.length<=cap/\cap<=maxLen/\(a=none->cap=0)/\
  ∀i (h:i<l.length),∃b o cells E c,a=some ⟨b,o,none⟩/\¬B b/\w.heap[b]? =some (.cells cells E c)/\R.rd w A ((cells.toList.drop (o+i*R.sz)).take R.sz) l[i]
abbrev fC{α:Type}(R:jN α)(w:World)(A:BS)(v:Value)(l:List α):Prop:=ik R w A A v l
theorem ik.go{α:Type}{R:jN α}{w w':World}{B g A A' K:BS}{v:Value}{l:List α}(h:ik R w B A v l)(e:bG K w w')(c:∀b,K b->b<w.heap.size->B b)(s:∀b,K b->b<w.heap.size->A b)(k:∀b,g b->b<w.heap.size->B b)(m:∀b,A' b->b<w.heap.size->A b):ik R w' g A' v l:=by
 obtain⟨a,cap,rfl,x,t,j,q⟩:=h;refine⟨a,cap,Z,x,t,j,fun i u=>?_⟩;obtain⟨b,o,cells,E,r,n,f,d,p⟩:=q i u;exact⟨b,o,cells,E,r,n,fun h=>f<|k b h<|iq d,e.blk d fun h=>f<|c b h<|iq d,R.go p e s m⟩
theorem ik.sub{α:Type}{R:jN α}{w:World}{B a A A':BS}{v:Value}{l:List α}(h:ik R w B A v l)(c:∀b,a b->b<w.heap.size->B b)(d:∀b,A' b->b<w.heap.size->A b):ik R w a A' v l:=
 h.go (bG.refl BE w) (fun _ h=>h.elim) (fun _ h=>h.elim) c d
theorem ik.src{α:Type}{R:jN α}{w:World}{B A:BS}{v:Value}{l:List α}(h:ik R w B A v l):ik R w BE A v l:=h.sub (fun _ h=>h.elim) (fun _ h _=>h)
theorem fC.go{α:Type}{R:jN α}{w w':World}{A A' K:BS}{v:Value}{l:List α}(h:fC R w A v l)(d:bG K w w')(c:∀b,K b->b<w.heap.size->A b)(a:∀b,A' b->b<w.heap.size->A b):fC R w' A' v l:=
 ik.go h d c c a a
theorem ik.one{α:Type}{R:jN α}{w:World}{B A:BS}{v:Value}{l:List α}(h:ik R w B A v l):v.oneCell'=true:=by
 obtain⟨a,cap,rfl,_⟩:=h;rfl
theorem ik.nil{α:Type}{R:jN α}{w:World}{B A:BS}:ik R w B A (.slice none 0 0) ([]:List α):=⟨none,0,rfl,Nat.le_refl _,by unfold maxLen;omega,fun _=>rfl,fun i a=>absurd a (Nat.not_lt_zero _)⟩
theorem ik.bZ{α:Type}{R:jN α}{w:World}{B A:BS}{v:Value}{l:List α}(h:ik R w B A v l):l.length<=9223372036854775807:=by
 obtain⟨a,cap,_,c,b,_⟩:=h;unfold maxLen at b;omega
def zC{α:Type}(R:jN α):jN (List α) where
 sz:=1
 rd w A cs l:=∃v,cs=[v]/\fC R w A v l
 len:=by rintro w A cs x ⟨v,rfl,_⟩;rfl
 one:=by
  rintro w A cs x⟨v,rfl,h⟩u hu;simp at hu;subst hu;exact h.one
 pos:=by decide
 go:=by
  rintro w A cs x w' A' K⟨v,rfl,h⟩hk hK hA;exact⟨v,Z,h.go hk hK hA⟩
def dm:jN Int where
 sz:=1
 rd _ _ cs x:=cs=[.int .i64 x]
 len:=by rintro w A cs x rfl;rfl
 one:=by rintro w A cs x rfl u hu;simp at hu;subst hu;rfl
 pos:=by decide
 go:=fun h _ _ _=>h
abbrev Str:=List UInt8
def bD(s:Str):Value:=.string ⟨s.toArray⟩
def qD:jN Str where
 sz:=1
 rd _ _ cs x:=cs=[bD x]
 len:=by rintro w A cs x rfl;rfl
 one:=by rintro w A cs x rfl u hu;simp at hu;subst hu;rfl
 pos:=by decide
 go:=fun h _ _ _=>h
def ob:Value->Nat->Prop| .slice (some a) _ _=>fun b=>b=a.block|_=>fun _=>False
theorem Y8{v:Value}{k:Nat}:ob v k↔v.ownBlock=some k:=by
 cases v with
 |slice a l c=>cases a with
  |none=>simp[ob,Value.ownBlock]
  |some a=>simp[ob,Value.ownBlock];exact eq_comm
 |_=>simp[ob,Value.ownBlock]
def eP{α:Type}(R:jN α)(E:TypeId)(w:World)(A:BS)(v:Value)(l:List α):Prop:=
 ∃xs,w.ownsRow 0 E R.sz v l.length xs/\∀i (h:i<l.length),R.rd w (fun b=>A b\/ob v b) ((xs.drop (i*R.sz)).take R.sz) l[i]
theorem eP.nil{α:Type}{R:jN α}{E:TypeId}{w:World}{A:BS}:eP R E w A (.slice none 0 0) ([]:List α):=
 ⟨[],World.ownsRow_nil _ _ _ _,fun i h=>absurd h (Nat.not_lt_zero _)⟩
theorem eP.lt{α:Type}{R:jN α}{E:TypeId}{w:World}{A:BS}{v:Value}{l:List α}(h:eP R E w A v l):∀k,ob v k->k<w.heap.size:=by
 obtain⟨xs,b,_⟩:=h;intro k a;exact(b.lt k<|Y8.1 a).2
theorem eP.go{α:Type}{R:jN α}{E:TypeId}{w w':World}{A A' K:BS}{v:Value}{l:List α}(h:eP R E w A v l)(e:bG K w w')(m:∀b,K b->b<w.heap.size->A b)(d:∀b,K b->¬ob v b)(j:∀b,A' b->b<w.heap.size->A b\/ob v b):eP R E w' A' v l:=by
  obtain⟨xs,c,f⟩:=h;refine⟨xs,?_,fun i o=>R.go (f i o) e (fun b c n=>.inl<|m b c n) fun b a k=>?_⟩
  · refine⟨c.1,?_⟩;rcases c.2 with h|⟨g,cap,cur,rfl,e1,e2,e3⟩
    · exact .inl h
    · exact .inr ⟨g,cap,cur,Z,e1,e.blk e2 (fun h=>d g h (by simp[ob])),e3⟩
  · rcases a with a|a
    · exact j b a k
    · exact .inr a
theorem eP.one{α:Type}{R:jN α}{E:TypeId}{w:World}{A:BS}{v:Value}{l:List α}(h:eP R E w A v l):v.oneCell'=true:=by
 obtain⟨xs,a,_⟩:=h;rcases a.2 with⟨rfl,_⟩|⟨g,cap,cur,rfl,_⟩<;>rfl
theorem eP.rd{α:Type}{R:jN α}{E:TypeId}{w:World}{A A':BS}{v:Value}{l:List α}(h:eP R E w A v l)(c:∀b,ob v b->¬A' b)(f:∀b,A' b->b<w.heap.size->A b\/ob v b):fC R w A' v l:=by
  obtain⟨xs,e,d⟩:=h;rcases e.2 with⟨rfl,hn⟩|⟨g,cap,cur,rfl,e1,e2,e3,e4,e5,e6⟩
  · have:l=[]:=List.eq_nil_of_length_eq_zero hn;subst this;exact ik.nil
  · refine⟨some ⟨g,0,none⟩,cap,Z,e3,e4,(fun h=>by cases h),fun i a=>⟨g,0,cur,E,(0,0),Z,c g (by simp[ob]),e2,?_⟩⟩;have:=R.go (A':=A') (d i a) (bG.refl BE w) (fun _ h=>h.elim) f;rw[<-e6,List.drop_take,List.take_take,Nat.min_eq_left ?_]at this
    · rw[Nat.zero_add];exact this
    · have:(i+1)*R.sz<=l.length*R.sz:=Nat.mul_le_mul_right _ a;rw[Nat.add_mul]at this;omega
def AL(b:Array MapEntry)(a:Nat):Prop:=(∀e∈b.toList,e.born<a)/\(b.toList.map (·.born)).Nodup
def BD(w:World)(b:Nat)(eD:List (Int×Value)):Prop:=
 ∃c a,w.heap[b]? =some (.map c a)/\c.toList.map (fun e=>(e.key,e.val))=eD.map (fun p=>(Value.int .i64 p.1,p.2))/\AL c a
structure Pce where
 own:BS
 P:World->BS->Prop
 lt:∀{w A b},P w A->own b->b<w.heap.size
 go:∀{w w' A A' K},P w A->bG K w w'->(∀b,K b->b<w.heap.size->A b)->(∀b,K b->¬own b)->(∀b,A' b->b<w.heap.size->A b\/own b)->P w' A'
inductive Chunk:Type 1 where
 |no
 |rd {α:Type} (R:jN α) (v:Value) (l:List α)
 |sr {α:Type} (R:jN α) (v:Value) (l:List α)
 |pt (b o:Nat) (cs:List Value)
 |blk (b:Nat) (cs:List Value)
 |own {α:Type} (R:jN α) (E:TypeId) (v:Value) (l:List α)
 |mp (b:Nat) (eD:List (Int×Value))
 |rp {α:Type} (R:jN α) (v:Value) (x:α)
 |two (a b:Chunk)
 |dn (S:Pce)
def Chunk.own':Chunk->BS
 | .blk b _=>fun x=>x=b
 | .own _ _ v _=>ob v
 | .mp b _=>fun x=>x=b
 | .two a b=>fun x=>a.own' x\/b.own' x
 | .dn S=>S.own
 |_=>BE
def Chunk.holds(w:World)(M O:BS):Chunk->Prop
 | .no=>True
 | .rd R v l=>fC R w (fun b=>M b\/O b) v l
 | .sr R v l=>ik R w O (fun b=>M b\/O b) v l
 | .pt b o cs=>¬O b/\∃cells E c,w.heap[b]? =some (.cells cells E c)/\(cells.toList.drop o).take cs.length=cs
 | .blk b cs=>∃E,w.heap[b]? =some (.cells cs.toArray E (0,0))
 | .own R E v l=>eP R E w (fun b=>M b\/O b) v l
 | .mp b eD=>BD w b eD
 | .rp R v x=>R.rd w (fun b=>M b\/O b) [v] x
 | .two a b=>a.holds w M O/\b.holds w M O/\∀x,a.own' x->¬b.own' x
 | .dn S=>S.P w (fun b=>M b\/O b)
theorem Chunk.go{c:Chunk}{w w':World}{M O p N:BS}(h:c.holds w M O)(g:bG N w w')(i:∀b,N b->b<w.heap.size->O b)(f:∀b,N b->¬c.own' b)(j:∀b,p b->b<w.heap.size->M b\/O b)(k:∀b,p b->b<w.heap.size->O b):c.holds w' M p:=by
 induction c with
 |no=>trivial
 |rd R v l=>exact fC.go h g (fun b d e=>.inr (i b d e)) (fun b d e=>d.elim .inl (fun d=>j b d e))
 |sr R v l=>exact ik.go h g i (fun b d e=>.inr (i b d e)) k (fun b d e=>d.elim .inl (fun d=>j b d e))
 |pt b o cs=>
  obtain⟨q,cells,E,y,n,r⟩:=h;exact⟨fun h=>q<|k b h<|iq n,cells,E,y,g.blk n fun h=>q<|i b h<|iq n,r⟩
 |blk b cs=>
  obtain⟨E,h⟩:=h;exact⟨E,g.blk h fun d=>f b d Z⟩
 |own R E v l=>exact eP.go h g (fun b d e=>.inr (i b d e)) f (fun b d e=>.inl (d.elim .inl (fun d=>j b d e)))
 |rp R v x=>exact R.go h g (fun b d e=>.inr (i b d e)) (fun b d e=>d.elim .inl (fun d=>j b d e))
 |two a b iha ihb=>exact⟨iha h.1 (fun x m s=>f x m (.inl s)),ihb h.2.1 (fun x m d=>f x m (.inr d)),h.2.2⟩
 |dn S=>exact S.go h g (fun b d e=>.inr (i b d e)) f (fun b d e=>.inl (d.elim .inl (fun d=>j b d e)))
 |mp b eD=>
  obtain⟨t,c,h,u⟩:=h;exact⟨t,c,g.blk h fun d=>f b d Z,u⟩
theorem Chunk.sub{c:Chunk}{w:World}{M O d:BS}(h:c.holds w M O)(a:∀b,d b->b<w.heap.size->O b):c.holds w M d:=
 Chunk.go h (bG.refl BE w) (fun _ h=>h.elim) (fun _ h=>h.elim) (fun b e f=>.inr (a b e f)) a
theorem Chunk.lt{c:Chunk}{w:World}{M O:BS}(h:c.holds w M O):∀b,c.own' b->b<w.heap.size:=by
 intro b d;induction c with
 |no=>exact d.elim
 |rd=>exact d.elim
 |sr=>exact d.elim
 |pt=>exact d.elim
 |blk b' cs=>
  cases d;exact iq h.choose_spec
 |own R E v l=>exact eP.lt h b d
 |rp=>exact d.elim
 |two a c iha ihc=>exact d.elim (fun d=>iha h.1 d) (fun d=>ihc h.2.1 d)
 |dn S=>exact S.lt h d
 |mp b' eD=>
  cases d;obtain⟨_,_,h,_⟩:=h;exact iq h
def bN(hp:Nat->Chunk)(i:Nat)(c:Chunk):Nat->Chunk:=fun j=>bif Nat.beq j i then c else hp j
theorem bX(hp:Nat->Chunk)(i:Nat)(c:Chunk):bN hp i c i=c:=by simp[bN,Nat.beq_refl]
theorem ek{hp:Nat->Chunk}{i j:Nat}{c:Chunk}(h:j≠i):bN hp i c j=hp j:=by
 have:Nat.beq j i=false:=by rw[Bool.eq_false_iff];intro e;exact h (Nat.eq_of_beq_eq_true e)
 simp[bN,this]
def hno:Nat->Chunk:=fun _=>.no
def gN(hp:Nat->Chunk):BS:=fun b=>∃j,(hp j).own' b
structure SH(w0:World)(M K:BS)(w:World)(hp:Nat->Chunk):Prop where
 keep:bG K w0 w
 ltM:∀b,M b->b<w0.heap.size
 TQ:∀i b,(hp i).own' b->¬M b
 ok:∀i,(hp i).holds w M (gN hp)
 apart:∀i j,i≠j->∀b,(hp i).own' b->¬(hp j).own' b
 old:∀i b,(hp i).own' b->b<w0.heap.size->K b
section
variable{w0 w w':World}{M K:BS}{hp:Nat->Chunk}{i:Nat}{c:Chunk}
def rest(hp:Nat->Chunk)(i:Nat):BS:=fun b=>∃j,j≠i/\(hp j).own' b
theorem jO{hp:Nat->Chunk}{i b:Nat}(h:rest hp i b):gN hp b:=let ⟨j,_,h⟩:=h;⟨j,h⟩
abbrev SH.av(hp:Nat->Chunk)(i:Nat)(c:Chunk):BS:=fun b=>rest hp i b\/c.own' b
theorem SH.step{N:BS}(h:SH w0 M K w hp)(i:Nat)(t:bG N w w')(r:∀b,N b->b<w.heap.size->(hp i).own' b)
    (ho:∀b,c.own' b->b<w.heap.size->(hp i).own' b) (u:c.holds w' M (SH.av hp i c)):SH w0 M K w' (bN hp i c):=by
  have v:∀b,M b->b<w.heap.size:=fun b a=>Nat.lt_of_lt_of_le (h.ltM b a) h.keep.size;have m:∀b,gN (bN hp i c) b->rest hp i b\/c.own' b:=by
    rintro b⟨j,o⟩;by_cases e:j=i
    · subst e;rw[bX]at o;exact .inr o
    · rw[ek e]at o;exact .inl ⟨j,e,o⟩
  have g:∀b,gN (bN hp i c) b->b<w.heap.size->gN hp b:=fun b a f=>(m b a).elim jO fun h=>⟨i,ho b h f⟩;refine⟨?_,h.ltM,?_,?_,?_,?_⟩
  · exact h.keep.step t (fun x q f=>by
      have n:=Nat.lt_of_lt_of_le f h.keep.size;exact h.old i x (r x q n) f)
  · intro j b a;by_cases e:j=i
    · subst e;rw[bX]at a;intro s;exact h.TQ j b (ho b a<|v b s) s
    · rw[ek e]at a;exact h.TQ j b a
  · intro j;by_cases e:j=i
    · subst e;rw[bX];exact Chunk.sub u fun b a _=>m b a
    · rw[ek e];have f:=h.ok j;refine Chunk.go f (t.weaken (N:=fun b=>N b/\b<w.heap.size) fun b a f=>⟨a,f⟩) ?_ ?_ ?_ ?_
      · intro b a n;exact⟨i,r b a.1 n⟩
      · intro b a o;exact h.apart j i e b o<|r b a.1 a.2
      · exact fun b a f=>.inr<|g b a f
      · exact g
  · intro j k l b a d;have lt:∀x,x≠i->(hp x).own' b->b<w.heap.size:=fun x _ q=>Chunk.lt (h.ok x) b q;by_cases e:j=i
    · subst e;have p:k≠j:=fun e=>l e.symm;rw[bX]at a;rw[ek p]at d;exact h.apart j k l b (ho b a<|lt k p d) d
    · rw[ek e]at a;by_cases p:k=i
      · subst p;rw[bX]at d;exact h.apart j k l b a<|ho b d<|lt j e a
      · rw[ek p]at d;exact h.apart j k l b a d
  · intro j b a f;by_cases e:j=i
    · subst e;rw[bX]at a;exact h.old j b (ho b a<|Nat.lt_of_lt_of_le f h.keep.size) f
    · rw[ek e]at a;exact h.old j b a f
abbrev SH.A(M:BS)(hp:Nat->Chunk):BS:=fun b=>M b\/gN hp b
theorem SH.lt(h:SH w0 M K w hp):∀b,SH.A M hp b->b<w.heap.size:=by
  rintro b(a|⟨j,a⟩)
  · exact Nat.lt_of_lt_of_le (h.ltM b a) h.keep.size
  · exact Chunk.lt (h.ok j) b a
theorem SH.learn(h:SH w0 M K w hp)(i:Nat)(d:Grow w w')(ho:∀b,c.own' b->w.heap.size<=b)(e:c.holds w' M (fun b=>gN hp b\/c.own' b)):SH w0 M K w' (bN hp i c):=
 h.step i d (fun _ h=>h.elim) (fun b a f=>absurd (ho b a) V) (Chunk.sub e (fun b a _=>a.imp jO id))
theorem SH.grow(h:SH w0 M K w hp)(c:Grow w w'):SH w0 M K w' hp:=
 ⟨h.keep.grow c,h.ltM,h.TQ,fun i=>Chunk.go (h.ok i) c (fun _ h=>h.elim) (fun _ h=>h.elim) (fun b a _=>.inr a) (fun b a _=>a),h.apart,h.old⟩
theorem SH.know(h:SH w0 M K w hp)(i:Nat)(ho:∀b,¬c.own' b)(d:c.holds w M (gN hp)):SH w0 M K w (bN hp i c):=
 h.learn i (bG.refl BE w) (fun b a=>absurd a (ho b)) (Chunk.sub d (fun b a _=>a.elim id (fun a=>absurd a (ho b))))
theorem SH.freeze{α:Type}{R:jN α}{E:TypeId}{v:Value}{l:List α}(h:SH w0 M K w hp)(i:Nat)(f:hp i=.own R E v l):SH w0 M K w (bN hp i (.rd R v l)):=by
  refine h.step i (bG.refl BE w) (fun _ h=>h.elim) (fun b a=>a.elim) ?_;have e:=h.ok i;rw[f]at e;refine eP.rd e (fun b a c=>?_) fun b a e=>?_
  · have d:(hp i).own' b:=by rw[f];exact a
    rcases c with c|⟨j,hj,c⟩|c
    · exact h.TQ i b d c
    · exact h.apart j i hj b c d
    · exact c
  · rcases a with a|a|a
    · exact .inl<|.inl a
    · exact .inl<|.inr<|jO a
    · exact a.elim
def hset:List (Nat×Chunk)->Nat->Chunk
 |[]=>hno
 |(i,c)::r=>bN (hset r) i c
def Qo(hp:Nat->Chunk):List (Nat×Chunk)->Prop
 |[]=>True
 |(i,c)::r=>hp i=c/\Qo hp r
theorem VH{hp:Nat->Chunk}:∀{l:List (Nat×Chunk)},Qo hp l->∀j,hset l j=hp j\/hset l j=.no
  |[],_,_=>.inr Z
  |(i,c)::r,h,j=>by
    by_cases e:j=i
    · subst e;left;show bN _ _ _ _=_;rw[bX];exact h.1.symm
    · show bN _ _ _ _=_\/bN _ _ _ _=_;rw[ek e];exact VH h.2 j
theorem SH.canon(h:SH w0 M K w hp)(l:List (Nat×Chunk))(k:Qo hp l):SH w0 M K w (hset l):=by
  have c:=VH k;have own:∀j b,(hset l j).own' b->(hp j).own' b:=by
    intro j b a;rcases c j with e|e
    · rw[e]at a;exact a
    · rw[e]at a;exact a.elim
  refine⟨h.keep,h.ltM,fun i b a=>h.TQ i b<|own i b a,fun i=>?_,fun i j d b a f=>h.apart i j d b (own i b a)<|own j b f,fun i b a=>h.old i b<|own i b a⟩;rcases c i with e|e
  · rw[e];exact Chunk.sub (h.ok i) fun b⟨j,g⟩_=>⟨j,own j b g⟩
  · rw[e];trivial
theorem SH.init{w:World}{M:BS}(a:∀b,M b->b<w.heap.size):SH w M BE w hno:=
 ⟨bG.refl _ _,a,fun _ _ h=>h.elim,fun _=>trivial,fun _ _ _ _ h=>h.elim,fun _ _ h=>h.elim⟩
theorem SH.DD{α:Type}{R:jN α}{E:TypeId}{v:Value}{l:List α}(h:SH w0 M K w hp)(i:Nat)(c:Grow w w')(ho:eP R E w' (SH.A M hp) v l)(a:∀b,ob v b->w.heap.size<=b):SH w0 M K w' (bN hp i (.own R E v l)):=
 h.learn i c a (eP.go ho (bG.refl BE w') (fun _ h=>h.elim) (fun _ h=>h.elim) (fun b d _=>d.elim (fun h=>.inl (.inl h)) (fun h=>h.elim (fun h=>.inl (.inr h)) .inr)))
theorem SH.L6{α:Type}{R:jN α}{v:Value}{l:List α}(h:SH w0 M K w hp)(i:Nat)(c:Grow w w')(ho:fC R w' (SH.A M hp) v l):SH w0 M K w' (bN hp i (.rd R v l)):=
 h.learn i c (fun _ h=>h.elim) (fC.go ho (bG.refl BE w') (fun _ h=>h.elim) (fun b a _=>a.elim .inl (fun h=>h.elim .inr (fun h=>h.elim))))
theorem SH.bA{α:Type}{R:jN α}{v:Value}{l:List α}(h:SH w0 M K w hp)(i:Nat)(ho:fC R w (SH.A M hp) v l):SH w0 M K w (bN hp i (.rd R v l)):=h.L6 i (bG.refl BE w) ho
theorem SH.Y9{α:Type}{R:jN α}{v:Value}{l:List α}(h:SH w0 M K w hp)(i:Nat)(ho:fC R w M v l)(hn:∀b,¬gN hp b):SH w0 M K w (bN hp i (.rd R v l)):=
 h.bA i (ho.go (bG.refl BE w) (fun _ h=>h.elim) (fun b a _=>a.elim id (fun h=>absurd h (hn b))))
theorem SH.il{α:Type}{R:jN α}{v:Value}{l:List α}(h:SH w0 M K w hp)(i:Nat)(ho:ik R w BE M v l)(hn:∀b,¬gN hp b):SH w0 M K w (bN hp i (.sr R v l)):=
 h.know i (fun _ h=>h) (ho.sub (fun b a _=>absurd a (hn b)) (fun b a _=>a.elim id (fun h=>absurd h (hn b))))
theorem SH.fH{α:Type}{R:jN α}{v:Value}{l:List α}(h:SH w0 M K w hp)(i:Nat)(a:hp i=.rd R v l):fC R w (SH.A M hp) v l:=by
 have:=h.ok i;rw[a]at this;exact this
theorem SH.WW{α:Type}{R:jN α}{v:Value}{l:List α}(h:SH w0 M K w hp)(i:Nat)(a:hp i=.sr R v l):ik R w (gN hp) (SH.A M hp) v l:=by
 have:=h.ok i;rw[a]at this;exact this
theorem SH.dS{α:Type}{R:jN α}{E:TypeId}{v:Value}{l:List α}(h:SH w0 M K w hp)(i:Nat)(a:hp i=.own R E v l):eP R E w (SH.A M hp) v l:=by
 have:=h.ok i;rw[a]at this;exact this
theorem SH.uX{b:Nat}{cs:List Value}(h:SH w0 M K w hp)(i:Nat)(a:hp i=.blk b cs):∃E,w.heap[b]? =some (.cells cs.toArray E (0,0)):=by
 have:=h.ok i;rw[a]at this;exact this
theorem SH.ptAt{b o:Nat}{cs:List Value}(h:SH w0 M K w hp)(i:Nat)(c:hp i=.pt b o cs):∃cells E a,w.heap[b]? =some (.cells cells E a)/\(cells.toList.drop o).take cs.length=cs:=by
 have:=h.ok i;rw[c]at this;exact this.2
theorem SH.TR{b:Nat}{a:List (Int×Value)}(h:SH w0 M K w hp)(i:Nat)(c:hp i=.mp b a):BD w b a:=by
 have:=h.ok i;rw[c]at this;exact this
theorem SH.grown(h:SH w0 M BE w hp):Grow w0 w:=h.keep
theorem SH.fresh(h:SH w0 M BE w hp)(i:Nat):∀b,(hp i).own' b->w0.heap.size<=b:=fun b a=>Nat.le_of_not_lt (fun c=>h.old i b a c)
theorem SH.rD{α:Type}{R:jN α}{v:Value}{l:List α}(h:SH w0 M K w hp)(i:Nat)(a:hp i=.rd R v l):ik R w BE (SH.A M hp) v l:=(h.fH i a).src
theorem SH.l7{α:Type}{R:jN α}{v:Value}{l:List α}(h:SH w0 M K w hp)(i:Nat)(a:hp i=.sr R v l):ik R w BE (SH.A M hp) v l:=(h.WW i a).src
theorem eP.src{α:Type}{R:jN α}{E:TypeId}{w:World}{A:BS}{v:Value}{l:List α}(h:eP R E w A v l):ik R w BE A v l:=by
  obtain⟨xs,e,c⟩:=h;rcases e.2 with⟨rfl,hn⟩|⟨g,cap,cur,rfl,e1,e2,e3,e4,e5,e6⟩
  · have:l=[]:=List.eq_nil_of_length_eq_zero hn;subst this;exact ik.nil
  · refine⟨some ⟨g,0,none⟩,cap,Z,e3,e4,(fun h=>by cases h),fun i a=>⟨g,0,cur,E,(0,0),Z,fun h=>h,e2,?_⟩⟩;have:=R.go (A':=A) (c i a) (bG.refl BE w) (fun _ h=>h.elim) fun b d _=>.inl d;rw[<-e6,List.drop_take,List.take_take,Nat.min_eq_left ?_]at this
    · rw[Nat.zero_add];exact this
    · have:(i+1)*R.sz<=l.length*R.sz:=Nat.mul_le_mul_right _ a;rw[Nat.add_mul]at this;omega
theorem SH.eH{α:Type}{R:jN α}{E:TypeId}{v:Value}{l:List α}(h:SH w0 M K w hp)(i:Nat)(a:hp i=.own R E v l):ik R w BE (SH.A M hp) v l:=(h.dS i a).src
theorem bO:∀b,¬gN hno b:=fun _⟨_,h⟩=>h
theorem KV{α:Type}{R:jN α}{v:Value}{l:List α}{i:Nat}(h:∀b,¬gN hp b):∀b,¬gN (bN hp i (.rd R v l)) b:=by
  rintro b⟨j,a⟩;by_cases e:j=i
  · subst e;rw[bX]at a;exact a
  · rw[ek e]at a;exact h b ⟨j,a⟩
theorem dK{α:Type}{R:jN α}{v:Value}{l:List α}{i:Nat}(h:∀b,¬gN hp b):∀b,¬gN (bN hp i (.sr R v l)) b:=by
  rintro b⟨j,a⟩;by_cases e:j=i
  · subst e;rw[bX]at a;exact a
  · rw[ek e]at a;exact h b ⟨j,a⟩
end
open Go.RowKit
def gv(c:Bool)(v:Value):Value:=(bif c then [v]else []).headD undef
theorem ed{c:Bool}{v:Value}(h:c=true):gv c v=v:=by rw[h];rfl
theorem gl{a b:Bool}(h:(a&&b)=true):a=true:=by cases a<;>simp_all
theorem gr{a b:Bool}(h:(a&&b)=true):b=true:=by cases a<;>simp_all
structure pR(P:Program)(T E:TypeId)(sz bytes:Nat):Prop where
 desc:P.underlying T=some (.slice E)
 info:∃i z,P.info? E=some i/\i.zero=some z/\i.size=sz/\i.bytes=bytes/\z.cells.size=sz
theorem Ie{P:Program}{T:TypeId}{z:Option Value}{s:Nat}(h:(P.info? T).map (fun i=>(i.zero,i.size))=some (z,s)):∃i,P.info? T=some i/\i.zero=z/\i.size=s:=by
 cases hi:P.info? T with
 |none=>simp[hi]at h
 |some i=>simp[hi]at h;exact⟨i,Z,h.1,h.2⟩
def qM(w:World)(b:Nat)(o:Obj):World:={w with heap:=w.heap.setIfInBounds b o}
theorem rE{w:World}{b:Nat}{o:Obj}(h:b<w.heap.size):(qM w b o).heap[b]? =some o:=by simp[qM,h]
theorem bG.qM(w:World)(b:Nat)(o:Obj):bG (fun x=>x=b) w (qM w b o):=
 ⟨rfl,rfl,rfl,by simp[LX.qM],fun k a _=>by
  have:b≠k:=fun e=>a (by simp[e]);show(w.heap.setIfInBounds b o)[k]? =_;rw[Array.getElem?_setIfInBounds_ne this]⟩
theorem Qp{w:World}{b o:Nat}{cs:Array Value}{E:TypeId}{c:Nat×Nat}{v:Value}(d:w.heap[b]? =some (.cells cs E c)):w.setCell ⟨b,o,none⟩ v=qM w b (.cells (cs.setIfInBounds o v) E c):=by
  simp only[World.setCell,qM];congr 1;have a:=iq d;apply Array.ext_getElem?;intro i;simp only[Array.getElem?_modify,Array.getElem?_setIfInBounds];by_cases e:b=i
  · subst e;rw[if_pos rfl,if_pos rfl,if_pos a,d];rfl
  · simp[e]
theorem KW{w:World}{b:Nat}{cs a:Array Value}{E:TypeId}{d:Nat×Nat}(e:w.heap[b]? =some (.cells cs E d)):w.setRow b a=qM w b (.cells a E d):=by
  simp only[World.setRow,qM];congr 1;have c:=iq e;apply Array.ext_getElem?;intro i;simp only[Array.getElem?_modify,Array.getElem?_setIfInBounds];by_cases f:b=i
  · subst f;rw[if_pos rfl,if_pos rfl,if_pos c,e];rfl
  · simp[f]
def Gl(cs:List Value)(o:Nat)(vs:List Value):List Value:=cs.take o++vs++cs.drop (o+vs.length)
def At(w:World)(b o:Nat)(cs:List Value):Prop:=∃cells E a,w.heap[b]? =some (.cells cells E a)/\(cells.toList.drop o).take cs.length=cs
section
variable{P:Program}{ops:Array Oper}{Q:Exit->Act->World->Prop}{n:Nat}{env:Nat->Value}{w w' w0:World}{M K:BS}{hp:Nat->Chunk}{rest:List Oper}
 {d:Option Nat} {op:Op} {ty:TypeId} {pos:String} {af:Array Edge} {v:Value} {g:Option (Nat×Bool)} {T:TypeId} {ρ:Operand->Value} {x y:Operand}
theorem gW{j dj:Nat}{b a:Bool}(c:Bool)(k:(ops[j]?).bind (·.dst)=some dj)(i:ev n env (.tmp dj)=gv c (.bool b))
    (m:(c&&(b==a))=true->(execOp (ev n env) ⟨d,op,ty,pos,af,none⟩).run P w=.ok (.value v) w) (h:WL P ops Q rest n (fq env d (gv (c&&(b==a)) v)) w):
    WL P ops Q (⟨d,op,ty,pos,af,some (j,a)⟩::rest) n env w:=by
  by_cases f:(c&&(b==a))=true
  · have o:=gl f;have e:=gr f;rw[ed o]at i;rw[ed f]at h;have p:b=a:=by simpa using e
    subst p;exact KU k i<|F (m f) h
  · have g:(c&&(b==a))=false:=by simpa using f
    rw[g]at h;cases c with
    |true=>
      refine jy k i ?_ h;simpa using g
    |false=>
      have q:ev n env (.tmp dj)=undef:=i;have r:yielded ops (act n env).tmps j=none:=by
        unfold yielded;have e:(act n env).eval (.tmp dj)=undef:=by rw[iK];exact q
        simp only[k,Option.bind_some];simp only[Act.eval]at e;cases h2:(act n env).tmps[dj]? with
        |none=>rfl
        |some x=>simp[Array.getD_eq_getD_getElem?,h2]at e;subst e;rfl
      have l:Region.wanted ⟨d,op,ty,pos,af,some (j,a)⟩ (yielded ops (act n env).tmps)=false:=by simp[Region.wanted,r]
      refine⟨?_⟩;unfold wpList;rw[if_neg (by rw[l];decide),yP];exact h.out
theorem aO{j dj:Nat}{b a:Bool}(f:(ops[j]?).bind (·.dst)=some dj)(c:ev n env (.tmp dj)=.bool b)
    (e:(b==a)=true->(execOp (ev n env) ⟨d,op,ty,pos,af,none⟩).run P w=.ok (.value v) w) (h:WL P ops Q rest n (fq env d (gv (b==a) v)) w):
    WL P ops Q (⟨d,op,ty,pos,af,some (j,a)⟩::rest) n env w:=
  gW true f c (fun h=>e (by simpa using h)) (by simpa using h)
theorem fE{c a:Operand}{b p:Bool}(f:ρ c=.bool b)(e:ρ a=gv (b==false) (.bool p))(h:∀v,ρ (.const v)=v):(execOp ρ ⟨d,.pick c (.const (.bool true)) a,ty,pos,af,g⟩).run P w=.ok (.value (.bool (b||p))) w:=by
 cases b<;>simp_all[execOp,asBool,gv]
theorem fK{c a:Operand}{b p:Bool}(e:ρ c=.bool b)(f:ρ a=gv (b==true) (.bool p))(h:∀v,ρ (.const v)=v):(execOp ρ ⟨d,.pick c a (.const (.bool false)),ty,pos,af,g⟩).run P w=.ok (.value (.bool (b&&p))) w:=by
 cases b<;>simp_all[execOp,asBool,gv]
theorem ku{n:Nat}{env:Nat->Value}:∀v,ev n env (.const v)=v:=fun _=>rfl
theorem gY{T:TypeId}{b:Bool}(a:ρ x=.bool b):(execOp ρ ⟨d,.unOp .not T x,ty,pos,af,g⟩).run P w=.ok (.value (.bool !b)) w:=r_not a
theorem r_neqb{T2:TypeId}{p q:Bool}(b:P.underlying T=some .bool)(c:ρ x=.bool p)(a:ρ y=.bool q):(execOp ρ ⟨d,.binOp .neq T x y T2,ty,pos,af,g⟩).run P w=.ok (.value (.bool (p !=q))) w:=by
 simp[execOp,c,a,eqGuard,binOp,run_equal_bool w T p q b,bne]
theorem df{z:Value}{b o:Nat}{cs:List Value}(h:SH w0 M K w hp)(i:Nat)(e:hp i=.blk b cs)(c:One P T z)(f:ρ x=.pointer (some ⟨b,o,none⟩))(a:cs[o]? =some v):
 (execOp ρ ⟨d,.load T x,ty,pos,af,g⟩).run P w=.ok (.value v) w:=let ⟨_,j⟩:=h.uX i e;VG c f j (by simpa using a)
theorem VI{zs vs:List Value}{b o:Nat}{cells:Array Value}{E:TypeId}{t:Nat×Nat}(l:xc P T zs)(r:ρ x=.pointer (some ⟨b,o,none⟩))(f:w.heap[b]? =some (.cells cells E t))(p:(cells.toList.drop o).take zs.length=vs)(s:vs.length=zs.length):
    (execOp ρ ⟨d,.load T x,ty,pos,af,g⟩).run P w=.ok (.value (.agg vs.toArray)) w:=by
  obtain⟨i,u,A,m⟩:=Ie l.info;obtain⟨y,z,q⟩:=l.desc;have n:∀j v,vs[j]? =some v->w.cell? ((⟨b,o,none⟩:Addr).add j)=some v:=by
    intro j v a;have c:j<zs.length:=by
      rcases Nat.lt_or_ge j vs.length with h|h
      · omega
      · rw[List.getElem?_eq_none h]at a;cases a
    rw[<-p,List.getElem?_take,if_pos c,List.getElem?_drop]at a;by_cases e:j=0
    · subst e;simpa[Addr.add,World.cell?,f]using a
    · simpa[Addr.add,World.cell?,f,e]using a
  have k:=run_loadCells_list (P:=P) (w:=w) ⟨b,o,none⟩ vs n;rw[s]at k;cases y<;>simp at q<;>simp[execOp,Instr.loadAt,r,Instr.sureAddr,loadVar,isAgg,underlying,z,sizeOf,typeInfo,u,m,k]
theorem AO{zs vs:List Value}{b o:Nat}{cs:List Value}(h:SH w0 M K w hp)(i:Nat)(e:hp i=.blk b cs)(c:xc P T zs)(f:ρ x=.pointer (some ⟨b,o,none⟩))(a:(cs.drop o).take zs.length=vs)(k:vs.length=zs.length):
 (execOp ρ ⟨d,.load T x,ty,pos,af,g⟩).run P w=.ok (.value (.agg vs.toArray)) w:=let ⟨_,j⟩:=h.uX i e;VI c f j (by simpa using a) k
theorem pz{z:Value}{b o k:Nat}{cs:List Value}(h:At w b o cs)(e:One P T z)(f:ρ x=.pointer (some ⟨b,o+k,none⟩))(a:cs[k]? =some v):
    (execOp ρ ⟨d,.load T x,ty,pos,af,g⟩).run P w=.ok (.value v) w:=by
  obtain⟨cells,E,m,j,l⟩:=h;refine VG e f j ?_;have i:k<cs.length:=by
    rcases Nat.lt_or_ge k cs.length with h1|h1
    · exact h1
    · rw[List.getElem?_eq_none h1]at a;cases a
  have c:((cells.toList.drop o).take cs.length)[k]? =some v:=by rw[l];exact a
  rw[List.getElem?_take,if_pos i,List.getElem?_drop]at c;simpa using c
theorem Ow{α:Type}{l:List α}{o k m s:Nat}{cs:List α}(h:(l.drop o).take s=cs)(a:k+m<=s):(l.drop (o+k)).take m=(cs.drop k).take m:=by
 rw[<-h,List.drop_take,List.take_take,List.drop_drop,Nat.min_eq_left V]
theorem oH{zs vs:List Value}{b o k:Nat}{cs:List Value}(h:At w b o cs)(c:xc P T zs)(e:ρ x=.pointer (some ⟨b,o+k,none⟩))(a:(cs.drop k).take zs.length=vs)(l:vs.length=zs.length)(f:k+zs.length<=cs.length):
  (execOp ρ ⟨d,.load T x,ty,pos,af,g⟩).run P w=.ok (.value (.agg vs.toArray)) w:=by
 obtain⟨cells,E,m,i,j⟩:=h;exact VI c e i (by rw[Ow j f];exact a) l
theorem gu{z:Value}{b o k:Nat}{cs:List Value}(h:SH w0 M K w hp)(i:Nat)(e:hp i=.pt b o cs)(c:One P T z)(f:ρ x=.pointer (some ⟨b,o+k,none⟩))(a:cs[k]? =some v):
 (execOp ρ ⟨d,.load T x,ty,pos,af,g⟩).run P w=.ok (.value v) w:=pz (h.ptAt i e) c f a
theorem Za{zs vs:List Value}{b o k:Nat}{cs:List Value}(h:SH w0 M K w hp)(i:Nat)(e:hp i=.pt b o cs)(c:xc P T zs)(f:ρ x=.pointer (some ⟨b,o+k,none⟩))(a:(cs.drop k).take zs.length=vs)(l:vs.length=zs.length)(j:k+zs.length<=cs.length):
 (execOp ρ ⟨d,.load T x,ty,pos,af,g⟩).run P w=.ok (.value (.agg vs.toArray)) w:=oH (h.ptAt i e) c f a l j
theorem aH{b o k off:Nat}(m:eO P T k off)(n:ρ x=.pointer (some ⟨b,o,none⟩)):
  (execOp ρ ⟨d,.fieldAddr T x k,ty,pos,af,g⟩).run P w=.ok (.value (.pointer (some ⟨b,o+off,none⟩))) w:=by
 obtain⟨q,f,s,p,l,e,c⟩:=m.desc;obtain⟨i,a,j⟩:∃i,P.info? f.type=some i/\i.size=s+1:=by
  cases a:P.info? f.type with
  |none=>simp[a]at c
  |some i=>simp[a]at c;exact⟨i,Z,c⟩
 by_cases h:off=0<;>simp[execOp,Instr.fieldAt,underlying,p,l,n,Instr.sureAddr,fieldPlace,sizeOf,typeInfo,a,j,e,Addr.add,h]
theorem aJ{a:Addr}(b:ρ x=.pointer (some a)):(execOp ρ ⟨d,.nilCheck x,ty,pos,af,g⟩).run P w=.ok (.value (.pointer (some a))) w:=by
 simp[execOp,b]
theorem iH{α:Type}{R:jN α}{E:TypeId}{c:Nat}{B A:BS}{l:List α}{e:World}(b:SliceOf P T E c)(f:ρ x=v)(h:ik R e B A v l):
  (execOp ρ ⟨d,.call {callee:=.builtin .len,args:= #[x],argTypes:= #[T]},ty,pos,af,g⟩).run P w=.ok (.value (.int .i64 l.length)) w:=by
 obtain⟨a,cap,rfl,_⟩:=h;exact RG b f
theorem Qq{s:Str}(a:P.underlying T=some .string)(c:ρ x=bD s):
  (execOp ρ ⟨d,.call {callee:=.builtin .len,args:= #[x],argTypes:= #[T]},ty,pos,af,g⟩).run P w=.ok (.value (.int .i64 s.length)) w:=by
 have b:(⟨s.toArray⟩:ByteArray).size=s.length:=by simp[ByteArray.size]
 simp[execOp,resolve,invoke,builtin,Builtin.len_,c,bD,underlying,a,goInt,b]
theorem r_ix{α:Type}{R:jN α}{E:TypeId}{B A:BS}{l:List α}{k:Int}{a:α}{m:World}(s:SliceOf P T E R.sz)(u:ik R m B A v l)(p:0<=k)(f:l[k.toNat]? =some a):
    ∃b o cs,(∀(ρ:Operand->Value) x y w d ty pos af g,ρ x=v->ρ y=.int .i64 k->(execOp ρ ⟨d,.indexAddr T x y,ty,pos,af,g⟩).run P w=.ok (.value (.pointer (some ⟨b,o,none⟩))) w)/\¬B b/\At m b o cs/\R.rd m A cs a:=by
  have e:k.toNat<l.length:=by
    rcases Nat.lt_or_ge k.toNat l.length with h|h
    · exact h
    · rw[List.getElem?_eq_none h]at f;cases f
  obtain⟨a',cap,rfl,O,N,M,I⟩:=u;obtain⟨b,o,cells,c,K,rfl,G,L,q⟩:=I k.toNat e;obtain⟨i,j,t⟩:∃i,P.info? E=some i/\i.size=R.sz:=by
    have:=s.info;cases j:P.info? E with
    |none=>simp[j]at this
    |some i=>simp[j]at this;exact⟨i,Z,this⟩
  have n:l[k.toNat]=a:=by rw[List.getElem?_eq_getElem e]at f;exact Option.some.inj f
  rw[n]at q;refine⟨b,o+k.toNat*R.sz,_,?_,G,⟨cells,c,K,L,by rw[R.len q]⟩,q⟩;intro ρ x y w d ty pos af g C J;simp only[execOp,Instr.indexAt,C,J,asIntOf,underlying,sizeOf,typeInfo];have z:(⟨b,o,none⟩:Addr).add (k.toNat*R.sz)=⟨b,o+k.toNat*R.sz,none⟩:=by
    unfold Addr.add;split
    · next hz=>rw[hz];rfl
    · rfl
  have r:k<(l.length:Int):=by omega
  simp[s.desc,j,t,p,r,z]
theorem SH.pt(h:SH w0 M K w hp)(i:Nat){b o:Nat}{cs:List Value}(a:¬gN hp b)(c:At w b o cs):SH w0 M K w (bN hp i (.pt b o cs)):=
 h.know i (fun _ h=>h) ⟨a,c⟩
theorem OY{i:Nat}{c:Chunk}(d:∀b,¬c.own' b):∀b,gN (bN hp i c) b->gN hp b:=by
  rintro b⟨j,a⟩;by_cases e:j=i
  · subst e;rw[bX]at a;exact absurd a (d b)
  · rw[ek e]at a;exact⟨j,a⟩
theorem ik.up{α:Type}{R:jN α}{l:List α}{i:Nat}{c:Chunk}(h:fC R w (SH.A M hp) v l)(d:∀b,¬c.own' b:=by exact fun _ h=>h):fC R w (SH.A M (bN hp i c)) v l:=
 h.sub (fun b a _=>a.imp id (OY d b)) (fun b a _=>a.imp id (OY d b))
abbrev IxOk(P:Program)(T:TypeId)(v:Value)(k:Int)(p:Value):Prop:=∀(ρ:Operand->Value) x y w d ty pos af g,ρ x=v->ρ y=.int .i64 k->(execOp ρ ⟨d,.indexAddr T x y,ty,pos,af,g⟩).run P w=.ok (.value p) w
theorem SH.EH{α:Type}{R:jN α}{E:TypeId}{d:Nat}{l:List α}{k:Int}{a:α}(h:SH w0 M K w hp)(i j:Nat)(r:hp i=.rd R v l)(q:SliceOf P T E d)(f:R.sz=d)(c:0<=k)(m:l[k.toNat]? =some a):
  ∃b o cs,SH w0 M K w (bN hp j (.pt b o cs))/\R.rd w (SH.A M hp) cs a/\IxOk P T v k (.pointer (some ⟨b,o,none⟩)):=by
 subst f;obtain⟨b,o,cs,s,p,e,n⟩:=r_ix q (h.fH i r) c m;exact⟨b,o,cs,h.pt j (fun g=>p<|.inr g) e,n,s⟩
theorem SH.Dv{α:Type}{R:jN α}{E:TypeId}{d:Nat}{l:List α}{k:Int}{a:α}(h:SH w0 M K w hp)(i j:Nat)(q:hp i=.sr R v l)(p:SliceOf P T E d)(f:R.sz=d)(c:0<=k)(g:l[k.toNat]? =some a):
  ∃b o cs,SH w0 M K w (bN hp j (.pt b o cs))/\R.rd w (SH.A M hp) cs a/\IxOk P T v k (.pointer (some ⟨b,o,none⟩)):=by
 subst f;obtain⟨b,o,cs,r,n,e,m⟩:=r_ix p (h.WW i q) c g;exact⟨b,o,cs,h.pt j n e,m,r⟩
def Gm(o:Option Value)(a:Int)(b:Nat):Prop:=(o=none/\a=b)\/o=some (.int .i64 a)
def cut{α:Type}(l:List α)(a b:Int):List α:=(l.take b.toNat).drop a.toNat
theorem r_slv{α:Type}{R:jN α}{E:TypeId}{a b:Int}{B A:BS}{l:List α}{z:World}(hT:SliceOf P T E R.sz)(hv:ik R z B A v l)(ha:0<=a)(m:a<=b)(Q:b<=l.length):
    ∃u,(∀(ρ:Operand->Value) x (y n:Option Operand) w d ty pos af g,ρ x=v->Gm (y.map ρ) a 0->Gm (n.map ρ) b l.length->(execOp ρ ⟨d,.slice T x y n none,ty,pos,af,g⟩).run P w=.ok (.value u) w)/\ik R z B A u (cut l a b)/\(∀(r:World) (s q:BS) (p:List α),ik R r s q v p->p.length=l.length->ik R r s q u (cut p a b)):=by
  obtain⟨a,rfl⟩:=Int.eq_ofNat_of_zero_le ha;obtain⟨b,rfl⟩:=Int.eq_ofNat_of_zero_le (by omega:0<=b);have m:a<=b:=by omega
  have Q:b<=l.length:=by omega
  obtain⟨k,cap,rfl,h1,X,L,C⟩:=hv;obtain⟨i,M,N⟩:∃i,P.info? E=some i/\i.size=R.sz:=by
    have:=hT.info;cases n:P.info? E with
    |none=>simp[n]at this
    |some i=>simp[n]at this;exact⟨i,Z,this⟩
  have t:b<=cap:=by omega
  refine⟨.slice (if cap=a then k else k.map (·.add (a*R.sz))) (b-a)<|cap-a,fun ρ x y n w d ty pos af g hx J G=>?_,?_⟩
  · have O:(Instr.sliceBounds true l.length cap (y.map ρ) (n.map ρ) none).run P w=.ok (a,b,cap) w:=by
      have h0:(0:Int)<=(a:Int):=Int.natCast_nonneg a;have a6:(0:Int)<=(b:Int):=Int.natCast_nonneg b;have a1:(a:Int)<=(b:Int):=by omega
      have a3:(b:Int)<=(cap:Int):=by omega
      rcases J with⟨h,S⟩|h<;>rcases G with⟨f1,f2⟩|f1
      · obtain rfl:a=0:=by omega
        obtain rfl:b=l.length:=by omega
        simp[Instr.sliceBounds,h,f1]
      · obtain rfl:a=0:=by omega
        simp[Instr.sliceBounds,h,f1,Instr.sliceBound,asIntOf,t]
      · obtain rfl:b=l.length:=by omega
        simp[Instr.sliceBounds,h,f1,Instr.sliceBound,asIntOf,m]
      · simp[Instr.sliceBounds,h,f1,Instr.sliceBound,asIntOf,m,t]
    simp only[execOp,Instr.sliceAt,Instr.slice,underlying,hx];simp[hT.desc,O,sizeOf,typeInfo,M,N]
  suffices e:∀(r:World) (s q:BS) (p:List α),ik R r s q (.slice k l.length cap) p->p.length=l.length->ik R r s q (.slice (if cap=a then k else k.map (·.add (a*R.sz))) (b-a) (cap-a)) (cut p a b)from⟨e _ _ _ l ⟨k,cap,Z,h1,X,L,C⟩ Z,e⟩
  · intro z B A l⟨a4,a0,e0,h1,X,L,C⟩a5;obtain⟨K,a2,I⟩:=Value.slice.inj e0;subst K;subst I;have Q:b<=l.length:=by omega
    have f:(cut l a b).length=b-a:=by simp[cut];omega
    refine⟨_,cap-a,by rw[f],by rw[f];omega,by omega,?_,?_⟩
    · intro hn;split at hn
      · omega
      · cases k with
        |none=>have:=L Z;omega
        |some x=>simp at hn
    · intro j hj;rw[f]at hj;obtain⟨bb,o,cells,c,fz,h,S,e3,e4⟩:=C (a+j) V;subst h;refine⟨bb,o+a*R.sz,cells,c,fz,?_,S,e3,?_⟩
      · rw[if_neg V];simp only[Option.map_some,Option.some.injEq];unfold Addr.add;split
        · next hz=>rw[hz];rfl
        · rfl
      · have:(cut l a b)[j]'(by rw[f];exact hj)=l[a+j]'V:=by simp[cut]
        rw[this];rw[show o+a*R.sz+j*R.sz=o+(a+j)*R.sz by rw[Nat.add_mul,Nat.add_assoc]];exact e4
theorem r_sl{α:Type}{R:jN α}{E:TypeId}{a b:Int}{B A:BS}{l:List α}{e:World}(n:SliceOf P T E R.sz)(j:ik R e B A v l)(k:0<=a)(c:a<=b)(i:b<=l.length):
  ∃u,(∀(ρ:Operand->Value) x (f h:Option Operand) w d ty pos af g,ρ x=v->Gm (f.map ρ) a 0->Gm (h.map ρ) b l.length->(execOp ρ ⟨d,.slice T x f h none,ty,pos,af,g⟩).run P w=.ok (.value u) w)/\ik R e B A u (cut l a b):=
 let ⟨u,o,m,_⟩:=r_slv n j k c i;⟨u,o,m⟩
abbrev SlOk(P:Program)(T:TypeId)(v:Value)(a b:Int)(n:Nat)(u:Value):Prop:=∀(ρ:Operand->Value) x (e c:Option Operand) w d ty pos af g,ρ x=v->Gm (e.map ρ) a 0->Gm (c.map ρ) b n->(execOp ρ ⟨d,.slice T x e c none,ty,pos,af,g⟩).run P w=.ok (.value u) w
theorem SH.slR{α:Type}{R:jN α}{E:TypeId}{d:Nat}{a b:Int}{l:List α}(h:SH w0 M K w hp)(i j:Nat)(n:hp i=.rd R v l)(m:SliceOf P T E d)(e:R.sz=d)(g:0<=a)(c:a<=b)(f:b<=l.length):
  ∃u,SH w0 M K w (bN hp j (.rd R u (cut l a b)))/\SlOk P T v a b l.length u:=by
 subst e;obtain⟨u,o,k⟩:=r_sl m (h.fH i n) g c f;exact⟨u,h.bA j k,o⟩
theorem SH.slS{α:Type}{R:jN α}{E:TypeId}{d:Nat}{a b:Int}{l:List α}(h:SH w0 M K w hp)(i j:Nat)(n:hp i=.sr R v l)(m:SliceOf P T E d)(e:R.sz=d)(g:0<=a)(c:a<=b)(f:b<=l.length):
  ∃u,SH w0 M K w (bN hp j (.sr R u (cut l a b)))/\SlOk P T v a b l.length u:=by
 subst e;obtain⟨u,o,k⟩:=r_sl m (h.WW i n) g c f;exact⟨u,h.know j (fun _ h=>h) k,o⟩
theorem RH{zs:List Value}(a:xc P T zs):(execOp ρ ⟨d,.alloc T,ty,pos,af,g⟩).run P w=.ok (.value (.pointer (some ⟨w.heap.size,0,none⟩))) (w.alloc (.cells zs.toArray T)):=by
 obtain⟨i,b,c,e⟩:=Ie a.info;simp[execOp,Instr.alloc,zeroValue,typeInfo,b,c,newVar,newRow,Value.cells,World.alloc,-World.alloc_eq]
theorem Zb{z:Value}(a:One P T z):(execOp ρ ⟨d,.alloc T,ty,pos,af,g⟩).run P w=.ok (.value (.pointer (some ⟨w.heap.size,0,none⟩))) (w.alloc (.cells #[z] T)):=by
 obtain⟨i,b,c,e⟩:=Ie a.info;simp[execOp,Instr.alloc,zeroValue,typeInfo,b,c,newVar,newRow,a.cell,World.alloc,-World.alloc_eq]
theorem r_box(a:ρ x=v):(execOp ρ ⟨d,.box T x,ty,pos,af,g⟩).run P w=.ok (.value (.pointer (some ⟨w.heap.size,0,none⟩))) (w.alloc (.cells v.cells T)):=by
 simp[execOp,Instr.box,newVar,newRow,a,World.alloc,-World.alloc_eq]
theorem SH.newB(h:SH w0 M K w hp)(i:Nat)(cs:List Value)(T:TypeId):SH w0 M K (w.alloc (.cells cs.toArray T)) (bN hp i (.blk w.heap.size cs)):=
 h.learn i (Grow.alloc _ _) (fun b a=>Nat.le_of_eq a.symm) ⟨T,Cu _ _⟩
theorem bJ{zs:List Value}(h:SH w0 M K w hp)(i:Nat)(a:xc P T zs)(k:∀w' b,SH w0 M K w' (bN hp i (.blk b zs))->WL P ops Q rest n (fq env d (.pointer (some ⟨b,0,none⟩))) w'):WL P ops Q (⟨d,.alloc T,ty,pos,af,none⟩::rest) n env w:=
 F (RH a) (k _ _ (h.newB i zs T))
theorem sP{z:Value}(h:SH w0 M K w hp)(i:Nat)(a:One P T z)(k:∀w' b,SH w0 M K w' (bN hp i (.blk b [z]))->WL P ops Q rest n (fq env d (.pointer (some ⟨b,0,none⟩))) w'):WL P ops Q (⟨d,.alloc T,ty,pos,af,none⟩::rest) n env w:=
 F (Zb a) (k _ _ (h.newB i [z] T))
theorem pE{cs:List Value}(h:SH w0 M K w hp)(i:Nat)(c:ev n env x=v)(a:v.cells=cs.toArray)(k:∀w' b,SH w0 M K w' (bN hp i (.blk b cs))->WL P ops Q rest n (fq env d (.pointer (some ⟨b,0,none⟩))) w'):WL P ops Q (⟨d,.box T x,ty,pos,af,none⟩::rest) n env w:=
 F (by rw[r_box c,a]) (k _ _ (h.newB i cs T))
theorem Ig{z:Value}{b o:Nat}{cs:Array Value}{E:TypeId}(f:One P T z)(j:ρ x=.pointer (some ⟨b,o,none⟩))(c:w.heap[b]? =some (.cells cs E (0,0)))(ho:o<cs.size)(n:ρ y=v)(e:v.oneCell'=true):
  (execOp ρ ⟨d,.store T x y,ty,pos,af,g⟩).run P w=.ok .skip (qM w b (.cells (cs.setIfInBounds o v) E (0,0))):=by
 obtain⟨i,h,p,l⟩:=Ie f.info;have m:w.cell? ⟨b,o,none⟩=some cs[o]:=by simp[World.cell?,c,ho]
 have k:w.frozen? ⟨b,o,none⟩=false:=by simp[World.frozen?,c]
 have a:v.cells= #[v]:=by cases v<;>first|rfl|simp[Value.oneCell']at e
 rw[<-Qp c];simp only[execOp,Instr.storeAt,j,n,Instr.sureAddr,storeVar,a,sizeOf,typeInfo];simp[h,l,storeCells,run_store _ _ _ _ _ e,m,k,Addr.add]
theorem L8{zs vs:List Value}{b o:Nat}{cs:List Value}{E:TypeId}(e:xc P T zs)(h:ρ x=.pointer (some ⟨b,o,none⟩))(a:w.heap[b]? =some (.cells cs.toArray E (0,0)))(l:ρ y=.agg vs.toArray)(k:vs.length=zs.length)(ho:o+vs.length<=cs.length)(c:∀v∈vs,v.oneCell'=true):
  (execOp ρ ⟨d,.store T x y,ty,pos,af,g⟩).run P w=.ok .skip (qM w b (.cells (Gl cs o vs).toArray E (0,0))):=by
 obtain⟨i,f,m,j⟩:=Ie e.info;have:=run_storeCells_at (P:=P) b o E vs 0 cs.toArray w a (by simpa using ho) c;simp only[execOp,Instr.storeAt,h,l,Instr.sureAddr,storeVar,Value.cells,sizeOf,typeInfo];simp[f,j,k,this,KW a,Gl]
theorem SH.putB{b:Nat}{cs:List Value}(h:SH w0 M K w hp)(i:Nat)(d:hp i=.blk b cs)(a:List Value)(E:TypeId):SH w0 M K (qM w b (.cells a.toArray E (0,0))) (bN hp i (.blk b a)):=by
 have c:=h.uX i d;obtain⟨f,c⟩:=c;exact h.step i (bG.qM _ _ _) (fun x e _=>by rw[d];exact e) (fun x e _=>by rw[d];exact e) ⟨E,rE (iq c)⟩
theorem fP{z:Value}{b o:Nat}{cs:List Value}(h:SH w0 M K w hp)(i:Nat)(a:List Value)(c:hp i=.blk b cs)(g:One P T z)(j:ev n env x=.pointer (some ⟨b,o,none⟩))(m:ev n env y=v)(ho:cs.set o v=a)(e:Nat.blt o cs.length=true)(f:v.oneCell'=true)
  (k:∀w',SH w0 M K w' (bN hp i (.blk b a))->WL P ops Q rest n (fq env d undef) w'):
  WL P ops Q (⟨d,.store T x y,ty,pos,af,none⟩::rest) n env w:=by
 obtain⟨E,l⟩:=h.uX i c;refine uE (Ig g j l (by rw[Nat.blt_eq]at e;simpa using e) m f) (k _ ?_);have:=h.putB i c a E;subst ho;simpa using this
theorem w_stN{zs vs:List Value}{b o:Nat}{cs:List Value}(h:SH w0 M K w hp)(i:Nat)(a:List Value)(e:hp i=.blk b cs)(p:xc P T zs)(j:ev n env x=.pointer (some ⟨b,o,none⟩))(m:ev n env y=.agg vs.toArray)(l:vs.length=zs.length)(ho:Gl cs o vs=a)(f:Nat.ble (o+vs.length) cs.length=true)(g:∀v∈vs,v.oneCell'=true)
  (k:∀w',SH w0 M K w' (bN hp i (.blk b a))->WL P ops Q rest n (fq env d undef) w'):
  WL P ops Q (⟨d,.store T x y,ty,pos,af,none⟩::rest) n env w:=by
 obtain⟨E,c⟩:=h.uX i e;subst ho;exact uE (L8 p j c m l (Nat.le_of_ble_eq_true f) g)<|k _<|h.putB i e _ E
def Ih(P:Program)(f:FuncId):Prop:=∃a,P.funcs[f]? =some a/\(a.name== "runtime.NumGoroutine")=false/\a.body.isNone=false
theorem r_call{f:FuncId}{first captured:Array Value}{xs:Array Operand}{i:Array TypeId}(k:Ih P f)(l:ρ x=.func (.func f) first captured):
  (execOp ρ ⟨d,.call {callee:=.value x,args:=xs,argTypes:=i},ty,pos,af,g⟩).run P w=.ok (.enter f (first++xs.map ρ++captured)) w:=by
 obtain⟨c,m,j,h⟩:=k;have a:¬c.name= "runtime.NumGoroutine" :=by simpa using j
 have b:¬c.body=none:=fun e=>by simp[e]at h
 simp[execOp,resolve,l,Deferred.ofValue,invoke,callFunc,m,a,b]
theorem cO{f:FuncId}{first captured:Array Value}{xs:Array Operand}{g:Array TypeId}{args:List Value}{R:Ending->World->Prop}(b:Ih P f)(c:ev n env x=.func (.func f) first captured)
  (a:first.toList++xs.toList.map (ev n env)++captured.toList=args) (i:Calls P f args.toArray w R)
  (h:∀e w',R e w'->∃v,e=.returned v/\WL P ops Q rest n (fq env d v) w'):
  WL P ops Q (⟨d,.call {callee:=.value x,args:=xs,argTypes:=g},ty,pos,af,none⟩::rest) n env w:=by
 refine Y6 (r_call b c) ?_ h;have:first++xs.map (ev n env)++captured=args.toArray:=by
  rw[<-a];apply Array.ext';simp
 rw[this];exact i
theorem uF{i:Nat}{vs:List Value}(b:ρ x=.tuple vs.toArray)(a:vs[i]? =some v):(execOp ρ ⟨d,.extract x i,ty,pos,af,g⟩).run P w=.ok (.value v) w:=by
 simp[execOp,Instr.extract,b,a]
theorem wo{f:FuncId}{first captured:Array Operand}{c1 c2:List Value}(c:first.toList.map ρ=c1)(b:captured.toList.map ρ=c2):
  (execOp ρ ⟨d,.makeFunc (.func f) first captured,ty,pos,af,g⟩).run P w=.ok (.value (.func (.func f) c1.toArray c2.toArray)) w:=by
 have e:first.map ρ=c1.toArray:=by rw[<-c];apply Array.ext';simp
 have a:captured.map ρ=c2.toArray:=by rw[<-b];apply Array.ext';simp
 simp[execOp,Instr.makeFunc,e,a]
theorem RI{f:FuncId}{a:Func}{c:Code}{args:List Value}{R:Ending->World->Prop}{n:Nat}
  (b:P.funcs[f]? =some a) (d:a.body=some c) (hn:a.ntmps=n) (e:args.length<=n)
  (h:WC P c (bodyPost P a R) n (Jk args) w):Calls P f args.toArray w R:=by
 refine calls_of_wp b d ?_;rw[hn,Y5 n args e];exact h.out
theorem cz{a:Func}{R:Ending->World->Prop}{t:Tmp}(c:a.results= #[.tmp t])(b:ev n env (.tmp t)=v)(h:R (.returned v) w):bodyPost P a R .ret (act n env) w:=by
 refine⟨Z,v,?_,h⟩;rw[results_tmp c];have:=congrFun (iK n env)<|.tmp t;rw[b]at this;exact congrArg (fun v=>Result.ok v w) this
theorem fin0{a:Func}{R:Ending->World->Prop}(b:a.results= #[])(h:R (.returned (.tuple #[])) w):bodyPost P a R .ret (act n env) w:=⟨rfl,_,results_none b _ _ _,h⟩
theorem Ii{a:Func}{R:Ending->World->Prop}(b:a.results= #[])(h:R (.returned (.tuple #[])) w):bodyPost P a R .normal (act n env) w:=⟨rfl,_,results_none b _ _ _,h⟩
theorem yV{c:Func}{R:Ending->World->Prop}{t u:Tmp}{v1 v2:Value}(d:c.results= #[.tmp t,.tmp u])(e:ev n env (.tmp t)=v1)(f:ev n env (.tmp u)=v2)(h:R (.returned (.tuple #[v1,v2])) w):bodyPost P c R .ret (act n env) w:=by
 refine⟨Z,_,?_,h⟩;rw[results_tmp2 d];have b:=congrFun (iK n env)<|.tmp t;have a:=congrFun (iK n env)<|.tmp u;rw[e]at b;rw[f]at a;simp only[Act.eval]at b a;rw[b,a]
end
section
variable{α β σ ρ:Type}{r:ρ}{G:Prop}
theorem oh{b:Bool}{X a:ρ}(c:cond b X a=r)(e:b=true->X=r->G)(d:b=false->a=r->G):G:=by
  cases b
  · exact d Z c
  · exact e Z c
theorem aC{o:Option α}{f:α->Option β}{r:β}(h:o.bind f=some r):∃x,o=some x/\f x=some r:=by
 cases o with
 |none=>cases h
 |some x=>exact⟨x,rfl,h⟩
def gD(p:Prop) [Decidable p](x:Option β):Option β:=if p then x else none
theorem bg{p:Prop} [Decidable p]{x:Option β}{r:β}(h:gD p x=some r):p/\x=some r:=by
  unfold gD at h;by_cases hp:p
  · rw[if_pos hp]at h;exact⟨hp,h⟩
  · rw[if_neg hp]at h;cases h
def idx(l:List α)(k:Int):Option α:=if 0<=k then l[k.toNat]? else none
theorem aD{l:List α}{k:Int}{x:α}(h:idx l k=some x):0<=k/\l[k.toNat]? =some x:=by
  unfold idx at h;by_cases hp:0<=k
  · rw[if_pos hp]at h;exact⟨hp,h⟩
  · rw[if_neg hp]at h;cases h
def sub?(l:List α)(a b:Int):Option (List α):=if 0<=a/\a<=b/\b<=l.length then some (cut l a b)else none
theorem KX{l:List α}{a b:Int}{x:List α}(h:sub? l a b=some x):x=cut l a b/\0<=a/\a<=b/\b<=l.length:=by
  unfold sub? at h;by_cases hp:0<=a/\a<=b/\b<=l.length
  · rw[if_pos hp]at h;cases h;exact⟨Z,hp⟩
  · rw[if_neg hp]at h;cases h
def jY(x:Int):Prop:= -9223372036854775808<=x/\x<=9223372036854775807
def i64b:Int->Bool
 | .ofNat n=>Nat.ble n 9223372036854775807
 | .negSucc n=>Nat.ble n 9223372036854775807
theorem Zc{x:Int}:i64b x=true↔jY x:=by
 unfold jY;cases x with
 |ofNat n=>simp[i64b,Nat.ble_eq];omega
 |negSucc n=>simp[i64b,Nat.ble_eq];omega
instance (x:Int):Decidable (jY x):=decidable_of_iff (i64b x=true) Zc
theorem jY.mk{x:Int}(b: -9223372036854775808<=x)(a:x<=9223372036854775807):jY x:=⟨b,a⟩
def each(body:α->σ->(σ->ρ)->ρ)(k:σ->ρ):List α->σ->ρ
 |[],s=>k s
 |x::r,s=>body x s (each body k r)
def gF(body:Int->α->σ->(σ->ρ)->ρ)(k:σ->ρ):Int->List α->σ->ρ
 |_,[],s=>k s
 |i,x::r,s=>body i x s (gF body k (i+1) r)
def upto(body:Int->σ->(σ->ρ)->ρ)(k:σ->ρ):Int->Nat->σ->ρ
 |_,0,s=>k s
 |i,m+1,s=>body i s (upto body k (i+1) m)
def again(body:σ->(σ->Option β)->Option β):Nat->σ->Option β
 |0,_=>none
 |n+1,s=>body s (again body n)
end
section
variable{P:Program}{Q:Exit->Act->World->Prop}{n:Nat}{env:Nat->Value}{w:World}{x y:Code}
theorem ay{ρ:Type}{r X a:ρ}{c:Operand}{b:Bool}(d:cond b X a=r)(f:ev n env c=.bool b)(e:b=true->X=r->WC P x Q n env w)(g:b=false->a=r->WC P y Q n env w):
 WC P (Code.cond c x y) Q n env w:=iU f (fun h=>e h (by rw[h]at d;exact d)) (fun h=>g h (by rw[h]at d;exact d))
def JP{σ:Type}(n:Nat)(mod:Nat->Bool)(Jk:Nat->Value)(live:σ->List (Nat×Value))(J:σ->World->Prop):Act->World->Prop:=
 fun a' w'=>∃s e,a'=act n e/\Bv mod e Jk/\Holds e (live s)/\J s w'
def JL{σ:Type}(n:Nat)(mod:Nat->Bool)(Jk:Nat->Value)(live:σ->List (Nat×Value))(J:σ->World->Prop)(a:σ->Nat)(b:σ):Act->World->Prop:=
 fun a' w'=>∃s e,a'=act n e/\Bv mod e Jk/\Holds e (live s)/\J s w'/\a s<a b
theorem gZ{σ:Type}{c:Code}(mod:Nat->Bool)(live:σ->List (Nat×Value))(J:σ->World->Prop)(e:σ->Nat)(b:σ)
 (h:Holds env (live b)) (f:J b w)
 (a:∀s d g,J s d->WC P c (Exit.then (JL n mod env live J e s) Q) n (Ov (VE mod g env) (live s)) d):
 WC P (Code.loop c) Q n env w:=wc_loop mod live J e b h f a
theorem bP{σ:Type}(mod:Nat->Bool)(live:σ->List (Nat×Value))(J:σ->World->Prop)
  (c:∀s w f,J s w->WC P y Q n (Ov (VE mod f env) (live s)) w)
  (h:WC P x (Exit.then (JP n mod env live J) Q) n env w):WC P (Code.seq x y) Q n env w:=by
 refine aK ⟨wp_mono h.out fun g a w h=>?_⟩;cases g with
 |normal=>
  obtain⟨s,e,rfl,d,b,i⟩:=h;have:=c s w e i;rw[RD d,Jl _ b]at this;exact this.out
 |_=>exact h
end
section
variable{K:Act->World->Prop}{Q:Exit->Act->World->Prop}{a:Act}{w:World}{i j:Nat}
theorem ag(h:K a w):Exit.then K Q .normal a w:=h
theorem ah(h:Q .ret a w):Exit.then K Q .ret a w:=h
theorem bz(h:Q (.exit i) a w):Exit.then K Q (.exit i) a w:=h
theorem ae(h:Q .normal a w):Exit.inBlock i Q .normal a w:=h
theorem ai(h:Q .ret a w):Exit.inBlock i Q .ret a w:=h
theorem dD(h:Q .normal a w):Exit.inBlock i Q (.exit i) a w:=by simp only[Exit.inBlock,if_true];exact h
theorem yw(hn:¬j=i)(h:Q (.exit j) a w):Exit.inBlock i Q (.exit j) a w:=by simp only[Exit.inBlock,if_neg hn];exact h
end
theorem Bv.os{mod:Nat->Bool}{e a:Nat->Value}{d:Nat}{v:Value}(b:mod d=true)(h:Bv mod e a):Bv mod (fq e (some d) v) a:=Bv.upd b h
theorem Bv.on{mod:Nat->Bool}{e a:Nat->Value}{v:Value}(h:Bv mod e a):Bv mod (fq e none v) a:=h
theorem Bv.uc{mod:Nat->Bool}{e a:Nat->Value}{d:Nat}{v:Value}{l:List (Nat×Value)}(b:mod d=true)(h:Bv mod (Ov e l) a):Bv mod (Ov e ((d,v)::l)) a:=Bv.upd b h
theorem Bv.un{mod:Nat->Bool}{e a:Nat->Value}(h:Bv mod e a):Bv mod (Ov e []) a:=h
def inl(l:List Nat)(i:Nat):Bool:=match l with|[]=>false|a::r=>bif Nat.beq i a then true else inl r i
def subl(l m:List Nat):Bool:=match l with|[]=>true|a::r=>bif inl m a then subl r m else false
theorem RJ{m:List Nat}:∀{l:List Nat},subl l m=true->∀i,inl l i=true->inl m i=true
 |[],_,i,h=>by simp[inl]at h
 |a::r,hs,i,h=>by
  unfold subl at hs;unfold inl at h;cases ha:inl m a with
  |false=>simp[ha]at hs
  |true=>
   simp only[ha,cond_true]at hs;cases hb:Nat.beq i a with
   |true=>have:=Nat.eq_of_beq_eq_true hb;subst this;exact ha
   |false=>simp only[hb,cond_false]at h;exact RJ hs i h
theorem Bv.hin{l m:List Nat}{j e a:Nat->Value}(c:subl l m=true)(h:Bv (inl m) e a):Bv (inl m) (LX.VE (inl l) j e) a:=fun i b=>by
 have:inl l i=false:=by
  cases hc:inl l i with
  |false=>rfl
  |true=>rw[RJ c i hc]at b;cases b
 simp only[LX.VE,this,cond_false];exact h i b
open Go.RowKit
theorem ik.row{α:Type}{R:jN α}{w:World}{B A:BS}{v:Value}{l:List α}(h:ik R w B A v l):
    (v=.slice none 0 0/\l=[])\/∃(a:Addr) (cap:Nat) (news:List Value),v=.slice (some a) l.length cap/\news.length=l.length*R.sz/\(∀j u,news[j]? =some u->w.cell? (a.add j)=some u)/\(∀u∈news,u.oneCell'=true)/\
      ∀i (h:i<l.length),R.rd w A ((news.drop (i*R.sz)).take R.sz) l[i]:=by
  obtain⟨a,cap,rfl,P,O,y,s⟩:=h;cases a with
  |none=>
    have z:=y Z;subst z;have q:l=[]:=List.eq_nil_of_length_eq_zero V;subst q;exact .inl ⟨Z,Z⟩
  |some a=>
    right;by_cases q:l.length=0
    · have:l=[]:=List.eq_nil_of_length_eq_zero q;subst this;exact⟨a,cap,[],Z,by simp,fun j u h=>by simp at h,fun u h=>by simp at h,fun i h=>absurd h<|Nat.not_lt_zero _⟩
    · obtain⟨b,o,cells,E,N,p,K,t,I⟩:=s 0 V;cases p;have c:∀i (e:i<l.length),R.rd w A ((cells.toList.drop<|o+i*R.sz).take R.sz) l[i]:=by
        intro i e;obtain⟨b',L,n,J,C,p,_,k,r⟩:=s i e;cases p;rw[t]at k;cases k;exact r
      have d:=R.len<|c (l.length-1) V;simp only[List.length_take,List.length_drop,Array.length_toList]at d;have m:=R.pos;have x:o+l.length*R.sz<=cells.size:=by
        have M:l.length*R.sz=(l.length-1)*R.sz+R.sz:=by
          conv=>lhs;rw[show l.length=(l.length-1)+1 by omega]
          rw[Nat.add_mul,Nat.one_mul]
        omega
      refine⟨⟨b,o,none⟩,cap,(cells.toList.drop o).take<|l.length*R.sz,Z,?_,?_,?_,?_⟩
      · simp only[List.length_take,List.length_drop,Array.length_toList];omega
      · intro j u f;rw[List.getElem?_take]at f;split at f
        · rw[List.getElem?_drop]at f;have G:(⟨b,o,none⟩:Addr).add j=⟨b,o+j,none⟩:=by unfold Addr.add;split<;>simp_all
          rw[G];simpa[World.cell?,t]using f
        · cases f
      · intro u f;obtain⟨j,g⟩:=List.getElem?_of_mem f;rw[List.getElem?_take]at g;split at g
        · next hlt=>
          rw[List.getElem?_drop]at g;have e:j / R.sz<l.length:=Nat.div_lt_of_lt_mul (by rw[Nat.mul_comm];exact hlt);refine R.one (c (j / R.sz) e) u ?_;refine List.mem_of_getElem? (i:=j%R.sz) ?_;rw[List.getElem?_take,if_pos (Nat.mod_lt _ m),List.getElem?_drop];rw[show o+j / R.sz*R.sz+j%R.sz=o+j by rw[Nat.add_assoc,Nat.div_add_mod' j R.sz]];exact g
        · cases g
      · intro i e;rw[List.drop_take,List.take_take,List.drop_drop,Nat.min_eq_left]
        · exact c i e
        · have:(i+1)*R.sz<=l.length*R.sz:=Nat.mul_le_mul_right _ e;rw[Nat.add_mul]at this;omega
theorem OZ(c:List Value):∀(cells:Array Value) (o:Nat),o+c.length<=cells.size->
  (c.zipIdx.foldl (fun cs(p:Value×Nat)=>cs.setIfInBounds (o+p.2) p.1) cells).toList=Gl cells.toList o c:=by
 suffices a:∀(k:Nat) (cells:Array Value) (o:Nat),o+k+c.length<=cells.size->
   ((c.zipIdx k).foldl (fun cs(p:Value×Nat)=>cs.setIfInBounds (o+p.2) p.1) cells).toList=Gl cells.toList (o+k) c by
  intro cells o h;have:=a 0 cells o (by simpa using h);simpa using this
 induction c with
 |nil=>intro k cells o h;simp[Gl]
 |cons x r ih=>
  intro k cells o h;simp only[List.length_cons]at h;rw[List.zipIdx_cons,List.foldl_cons,ih (k+1) _ o (by simp;omega)];simp only[Array.toList_setIfInBounds,Gl];rw[show o+(k+1)=o+k+1 by omega];apply List.ext_getElem?;intro i;simp only[List.append_assoc,List.getElem?_append,List.length_take,List.length_set,Array.length_toList,List.getElem?_take,List.getElem?_set,List.getElem?_drop,List.length_cons,List.getElem?_cons]
  grind
theorem L9{a:Nat}(j:0<a):∀(vs:List Value) (k:Nat) (cells:Array Value),(∀v∈vs,v.cells.size=a)->(k+vs.length)*a<=cells.size->
    ∃out,Instr.fill (fun i=>some (i*a,a)) cells ((vs.zipIdx k).map fun p=>(p.2,p.1))=some out/\out.toList=Gl cells.toList (k*a) (vs.map fun v=>v.cells.toList).flatten
  |[],k,cells,_,_=>⟨cells,rfl,by simp[Gl]⟩
  |v::r,k,cells,hv,hs=>by
    have e:v.cells.size=a:=hv v zq3;simp only[List.length_cons]at hs;have f:(k+1+r.length)*a<=cells.size:=by rw[show k+1+r.length=k+(r.length+1) by omega];exact hs
    have n:k*a+a<=cells.size:=by
      have:(k+1)*a<=(k+1+r.length)*a:=Nat.mul_le_mul_right _ V;rw[Nat.add_mul,Nat.one_mul]at this;omega
    have l:=OZ v.cells.toList cells (k*a) (by rw[Array.length_toList,e];exact n);let c2:=v.cells.zipIdx.foldl (fun cs(p:Value×Nat)=>cs.setIfInBounds (k*a+p.2) p.1) cells;have b:c2.toList=Gl cells.toList (k*a) v.cells.toList:=by
      rw[<-l];show(v.cells.zipIdx.foldl _ cells).toList=_;rw[<-Array.foldl_toList,Array.toList_zipIdx]
    have d:c2.size=cells.size:=by
      have:=congrArg List.length b;simp only[Gl,List.length_append,List.length_take,List.length_drop,Array.length_toList]at this;omega
    obtain⟨out,h,g⟩:=L9 j r (k+1) c2 (fun x m=>hv x (by simp[m])) (by rw[d];exact f);refine⟨out,?_,?_⟩
    · rw[List.zipIdx_cons,List.map_cons];unfold Instr.fill;simp only[e,ne_eq,not_true_eq_false,decide_false,Bool.false_or];rw[if_neg (by simp;omega)];exact h
    · rw[g,b];simp only[List.map_cons,List.flatten_cons,Gl];rw[show(k+1)*a=k*a+a by rw[Nat.add_mul,Nat.one_mul]];have o:v.cells.toList.length=a:=by rw[Array.length_toList,e]
      generalize v.cells.toList=c at*;generalize (r.map fun v=>v.cells.toList).flatten=q;apply List.ext_getElem?;intro i;simp only[List.append_assoc,List.getElem?_append,List.length_take,Array.length_toList,List.length_append,List.getElem?_take,List.getElem?_drop,List.length_drop]
      grind
def Cv{α:Type}(R:jN α)(w:World)(A:BS):List Value->List α->Prop
 |[],[]=>True
 |v::vs,x::xs=>R.rd w A v.cells.toList x/\Cv R w A vs xs
 |_,_=>False
theorem Cv.len{α:Type}{R:jN α}{w:World}{A:BS}:∀{vs:List Value} {xs:List α},Cv R w A vs xs->vs.length=xs.length
 |[],[],_=>rfl
 |v::vs,x::xs,h=>by simp[Cv.len h.2]
 |[],_::_,h=>h.elim
 |_::_,[],h=>h.elim
theorem Cv.sizes{α:Type}{R:jN α}{w:World}{A:BS}:∀{vs:List Value} {xs:List α},Cv R w A vs xs->∀v∈vs,v.cells.size=R.sz
  |[],[],_=>by simp
  |v::vs,x::xs,h=>by
    intro u a;rcases List.mem_cons.1 a with rfl|a
    · have:=R.len h.1;simpa using this
    · exact Cv.sizes h.2 u a
  |[],_::_,h=>h.elim
  |_::_,[],h=>h.elim
theorem RL{a:Nat}:∀{vs:List Value},(∀v∈vs,v.cells.size=a)->(vs.map fun v=>v.cells.toList).flatten.length=vs.length*a
 |[],_=>by simp
 |v::r,h=>by
  have b:=h v zq3;have d:=RL fun u c=>h u<|List.mem_cons_of_mem _ c;simp only[List.map_cons,List.flatten_cons,List.length_append,d,Array.length_toList,b,List.length_cons,Nat.add_mul];omega
theorem Cv.at{α:Type}{R:jN α}{w:World}{A:BS}:∀{vs:List Value} {xs:List α},Cv R w A vs xs->∀i (h:i<xs.length),R.rd w A (((vs.map fun v=>v.cells.toList).flatten.drop (i*R.sz)).take R.sz) xs[i]
 |[],[],_,i,h=>absurd h (Nat.not_lt_zero _)
 |v::vs,x::xs,h,i,hi=>by
  have a:v.cells.toList.length=R.sz:=R.len h.1;cases i with
  |zero=>
   simp only[List.map_cons,List.flatten_cons,Nat.zero_mul,List.drop_zero,List.getElem_cons_zero];rw[List.take_append_of_le_length V,List.take_of_length_le V];exact h.1
  |succ i=>
   have:=Cv.at h.2 i (by simpa using hi);simp only[List.map_cons,List.flatten_cons,List.getElem_cons_succ];rw[List.drop_append,List.drop_eq_nil_of_le (by rw[a,Nat.add_mul];omega),List.nil_append,a,show(i+1)*R.sz-R.sz=i*R.sz by rw[Nat.add_mul];omega];exact this
 |[],_::_,h,_,_=>h.elim
 |_::_,[],h,_,_=>h.elim
structure Struct(P:Program)(T:TypeId)(zs:List Value)(pl:List (Nat×Nat)):Prop where
  zero:(P.info? T).map (·.zero)=some (some (.agg zs.toArray))
  desc:∃fs,P.underlying T=some (.struct fs)/\fs.toList.map (fun f=>(f.offset,(P.info? f.type).map (·.size)))=pl.map (fun p=>(p.1,some p.2))
def Qr(b:List (Nat×Nat))(cs:List Value):List (Nat×Value)->List Value->Prop
 |[],out=>cs=out
 |(i,v)::r,out=>∃off a vs,b[i]? =some (off,a)/\v.cells.toList=vs/\vs.length=a/\off+a<=cs.length/\Qr b (Gl cs off vs) r out
theorem VJ{g:List (Nat×Nat)}:∀{a:List (Nat×Value)} {cs out:List Value},Qr g cs a out->Instr.fill (fun i=>g[i]?) cs.toArray a=some out.toArray
 |[],cs,out,h=>by cases h;rfl
 |(i,v)::r,cs,out,h=>by
  obtain⟨off,b,vs,k,f,e,m,l⟩:=h;unfold Instr.fill;simp only[k];have c:v.cells.size=b:=by rw[<-e,<-f,Array.length_toList]
  rw[if_neg (by simp[c];omega)];have j:=OZ vs cs.toArray off (by rw[e];simpa using m);have:(v.cells.zipIdx.foldl (fun cs(p:Value×Nat)=>cs.setIfInBounds (off+p.2) p.1) cs.toArray)=(Gl cs off vs).toArray:=by
   apply Array.ext';rw[<-Array.foldl_toList,Array.toList_zipIdx,f];exact j
  have d:=VJ l;rw[<-this]at d;exact d
section
variable{P:Program}{ops:Array Oper}{Q:Exit->Act->World->Prop}{n:Nat}{env:Nat->Value}{w w' w0:World}{M K:BS}{hp:Nat->Chunk}{rest:List Oper}
 {d:Option Nat} {op:Op} {ty:TypeId} {pos:String} {af:Array Edge} {v:Value} {g:Option (Nat×Bool)} {T:TypeId} {ρ:Operand->Value} {x y:Operand}
theorem Ep(h:w.grownBy w' v.ownBlock):bG (ob v) w w':=
 ⟨h.os,h.tape,h.output,h.size,fun b a c=>h.block b c (fun e=>a (Y8.2 e.symm))⟩
theorem Gn{E:TypeId}{f b:Nat}{a:Option Addr}{l c:Nat}(e:pR P T E f b)(j:ρ x=.slice a l c)(m:l<=c)(k:ρ y=.slice none 0 0):
  (execOp ρ ⟨d,.call {callee:=.builtin .append,args:= #[x,y],argTypes:= #[T,T]},ty,pos,af,g⟩).run P w=.ok (.value (.slice a l c)) w:=by
 obtain⟨i,z,h,n,o,_,_⟩:=e.info;cases a<;>simp[execOp,resolve,invoke,builtin,j,k,Builtin.append_,underlying,e.desc,sizeOf,typeInfo,h,Builtin.lenOf,m,Builtin.firstCells,storeCells]
theorem VK{α:Type}{R:jN α}{E:TypeId}{sz e:Nat}{A:BS}{u:Value}{l m:List α}(q:pR P T E sz e)(n:R.sz=sz)(hx:ρ x=v)(hv:eP R E w A v l)(O:ρ y=u)(hu:ik R w BE A u m)
    (hA:∀b,ob v b->A b) (a:(l.length+m.length)*e<=140737488355328) (hm:l.length+m.length<=9223372036854775807):
    ∃o w',(execOp ρ ⟨d,.call {callee:=.builtin .append,args:= #[x,y],argTypes:= #[T,T]},ty,pos,af,g⟩).run P w=.ok (.value o) w'/\eP R E w' A o (l++m)/\bG (ob v) w w'/\(∀b,ob o b->b<w.heap.size->ob v b):=by
  subst n;have a0:=hv;obtain⟨xs,B,h3⟩:=hv;rcases hu.row with⟨rfl,rfl⟩|⟨ad,c,news,rfl,n1,n2,n3,n4⟩
  · have hw:(execOp ρ ⟨d,.call {callee:=.builtin .append,args:= #[x,y],argTypes:= #[T,T]},ty,pos,af,g⟩).run P w=.ok (.value v) w:=by
      rcases B.2 with⟨rfl,hn⟩|⟨gg,cap,cur,rfl,_,_,hc,_⟩
      · exact Gn q hx (Nat.le_refl _) O
      · exact Gn q hx hc O
    exact⟨v,w,hw,by simpa using a0,bG.refl _ _,fun _ a _=>a⟩
  · obtain⟨i,z,M,hz,n,t,S⟩:=q.info;obtain⟨o,w',k,J,hg,_⟩:=run_append_own (P:=P) w 0 T ty E i z R.sz e q.desc M hz n t S R.pos v l.length xs B ad m.length c news n1 n2 n3 (by unfold maxLen;omega) a (Nat.zero_le _);have hk:=Ep hg;have p:∀b,ob o b->b<w.heap.size->ob v b:=by
      rcases B.2 with⟨rfl,hn⟩|⟨gg,cap,cur,rfl,_,hgg,hc,hcm,hcs,htake⟩
      · by_cases C:m.length=0
        · have r:news=[]:=List.eq_nil_of_length_eq_zero (by rw[n1,C];simp);subst r;have f:(Builtin.append_ #[T,T] ty #[.slice none 0 0,.slice (some ad) m.length c]).run P w=.ok (.slice none 0 0) w:=by
            simp[Builtin.append_,underlying,q.desc,sizeOf,typeInfo,M,Builtin.lenOf,C,Builtin.firstCells,loadCells,loadCellsFrom]
          rw[f]at k;cases k;exact fun b a _=>a
        · have f:=run_append_nil (P:=P) w T ty E i z q.desc M hz ad m.length c news (by rw[n];exact n1) n2 V V (by rw[t];have:=a;rw[Nat.add_mul]at this;omega);rw[f]at k;cases k;intro b a L;simp[ob]at a;omega
      · by_cases h:l.length+m.length<=cap
        · have N:l.length*i.size+news.length<=cur.size:=by rw[n1,n,hcs,<-Nat.add_mul];exact Nat.mul_le_mul_right _ h
          have f:=run_append_room (P:=P) w T ty E i q.desc M gg l.length cap cur hgg ad m.length c news (by rw[n];exact n1) n2 n3 h N;rw[f]at k;cases k;exact fun b a _=>a
        · have holds:∀j u,xs[j]? =some u->w.cell? ((⟨gg,0,none⟩:Addr).add j)=some u:=B.cells (g:=gg) Z;have f:=run_append_grow (P:=P) w T ty E i z q.desc M hz ⟨gg,0,none⟩ l.length cap xs (by rw[n];exact B.1) holds ad m.length c news (by rw[n];exact n1) n2 V V (growslice_fits V (by rw[t];exact a));rw[f]at k;cases k;intro b a L;simp[ob]at a;omega
    have K:(execOp ρ ⟨d,.call {callee:=.builtin .append,args:= #[x,y],argTypes:= #[T,T]},ty,pos,af,g⟩).run P w=.ok (.value o) w':=by
      simp only[execOp,resolve,invoke,builtin,Sem.run_bind,Sem.run_pure,Result.andThen_ok,List.map_toArray,List.map_cons,List.map_nil,hx,O,k]
    refine⟨o,w',K,⟨xs++news,by rw[List.length_append];exact J,?_⟩,hk,p⟩;intro i X;have G:=B.1;have I:∀b,A b\/ob o b->b<w.heap.size->A b\/ob v b:=fun b a L=>a.imp id fun a=>p b a L;by_cases s:i<l.length
    · have h5:=R.go (h3 i s) hk (fun b a _=>.inr a) I;have Q:(i+1)*R.sz<=l.length*R.sz:=Nat.mul_le_mul_right _ s;rw[Nat.add_mul]at Q;rw[List.getElem_append_left s,List.drop_append_of_le_length V,List.take_append_of_le_length (by rw[List.length_drop];omega)];exact h5
    · rw[List.length_append]at X;have h5:=R.go (n4 (i-l.length) V) hk (fun b a _=>hA b a) fun b a L=>(I b a L).elim id<|hA b;rw[List.getElem_append_right V,List.drop_append,List.drop_eq_nil_of_le (by rw[G];exact Nat.mul_le_mul_right _ V),List.nil_append,G,<-Nat.sub_mul];exact h5
theorem SH.yX{α:Type}{R:jN α}{E:TypeId}(h:SH w0 M K w hp)(i:Nat):SH w0 M K w (bN hp i (.own R E (.slice none 0 0) ([]:List α))):=
 h.learn i (bG.refl BE w) (fun _ h=>h.elim) eP.nil
theorem oC{α:Type}{R:jN α}{E:TypeId}{j c:Nat}{u:Value}{l m:List α}(h:SH w0 M K w hp)(i:Nat)(e:hp i=.own R E v l)(C:ik R w BE (SH.A M hp) u m)(t:pR P T E j c)(p:R.sz=j)(z:ev n env x=v)(I:ev n env y=u)
    (a:(l.length+m.length)*c<=140737488355328) (s:l.length+m.length<=9223372036854775807)
    (k:∀w' f,SH w0 M K w' (bN hp i (.own R E f (l++m)))->WL P ops Q rest n (fq env d f) w'):
    WL P ops Q (⟨d,.call {callee:=.builtin .append,args:= #[x,y],argTypes:= #[T,T]},ty,pos,af,none⟩::rest) n env w:=by
  obtain⟨f,w',B,q,o,G⟩:=VK (d:=d) (ty:=ty) (pos:=pos) (af:=af) (g:=none) t p z (h.dS i e) I C (fun b a=>.inr ⟨i,by rw[e];exact a⟩) a s;refine F B (k w' f (h.step i o (fun b a _=>by rw[e];exact a) (fun b a r=>by rw[e];exact G b a r) ?_));refine eP.go q (bG.refl BE w') (fun _ h=>h.elim) (fun _ h=>h.elim) fun b a _=>?_;rcases a with a|a|a
  · exact .inl<|.inl a
  · exact .inl<|.inr<|jO a
  · exact .inr a
theorem Zd{α:Type}{R:jN α}{E:TypeId}{L m:Nat}{A:BS}{a:Array (Nat×Operand)}{len:Nat}{vs:List Value}{xs:List α}(K:pR P T E L m)(Q:R.sz=L)
    (hx:(a.toList.map fun p=>(p.1,ev n env p.2))=vs.zipIdx.map fun p=>(p.2,p.1)) (y:vs.length=len) (G:Cv R w A vs xs) (hA:∀b,A b->b<w.heap.size) (a0:len*L<=16777216):
    ∃u w',(execOp (ev n env) ⟨d,.buildSlice T len a,ty,pos,af,g⟩).run P w=.ok (.value u) w'/\Grow w w'/\eP R E w' A u xs/\∀b,ob u b->w.heap.size=b:=by
  subst Q;subst y;obtain⟨i,z,O,X,q,a1,S⟩:=K.info;have N:=G.sizes;have l:=G.len;let zero:Array Value:=if vs.length*R.sz=0 then #[]else z.cells
  let c:Array Value:=(Array.range (vs.length*R.sz)).map (zero[· %zero.size]!);have f:c.size=vs.length*R.sz:=by simp[c]
  obtain⟨out,s,J⟩:=L9 R.pos vs 0 c N (by rw[f];simp);have e:=RL N;have r:out.toList=(vs.map fun v=>v.cells.toList).flatten:=by
    rw[J,Nat.zero_mul];simp only[Gl,List.take_zero,List.nil_append,Nat.zero_add];rw[List.drop_eq_nil_of_le (by rw[Array.length_toList,f,e];omega),List.append_nil]
  have j:out.size=vs.length*R.sz:=by rw[<-Array.length_toList,r,e]
  have o:(a.map fun p=>(p.1,ev n env p.2)).toList=vs.zipIdx.map fun p=>(p.2,p.1):=by simpa using hx
  have B:(execOp (ev n env) ⟨d,.buildSlice T vs.length a,ty,pos,af,g⟩).run P w=.ok (.value<|.slice (some ⟨w.heap.size,0,none⟩) vs.length vs.length) (w.alloc<|.cells out E):=by
    simp only[execOp,Instr.buildSlice,underlying,sizeOf,typeInfo];have M:¬(vs.length*R.sz>2 ^ 24):=by omega
    by_cases t:vs.length*R.sz=0
    · simp only[Sem.run_bind,run_program,Result.andThen_ok,K.desc,Sem.run_pure,O,q,Sem.run_ite,t,if_true];have:out= #[]:=Array.eq_empty_of_size_eq_zero (by rw[j,t]);have C:Instr.fill (fun i=>some (i*R.sz,R.sz)) ((Array.range 0).map fun x=>(#[]:Array Value)[x%(#[]:Array Value).size]!) (a.map fun p=>(p.1,ev n env p.2)).toList=some out:=by
        rw[o];have:c=(Array.range 0).map (fun x=>(#[]:Array Value)[x%(#[]:Array Value).size]!):=by simp[c,t]
        rw[<-this];exact s
      rw[C];simp[newRow,World.alloc,-World.alloc_eq]
    · simp only[Sem.run_bind,run_program,Result.andThen_ok,K.desc,Sem.run_pure,O,q,Sem.run_ite,if_neg M,t,if_false,zeroValue,typeInfo,X];have C:Instr.fill (fun i=>some (i*R.sz,R.sz)) ((Array.range<|vs.length*R.sz).map fun x=>z.cells[x%z.cells.size]!) (a.map fun p=>(p.1,ev n env p.2)).toList=some out:=by
        rw[o];have:c=(Array.range<|vs.length*R.sz).map (fun x=>z.cells[x%z.cells.size]!):=by simp[c,zero,t]
        rw[<-this];exact s
      rw[C];simp[newRow,World.alloc,-World.alloc_eq]
  refine⟨_,_,B,Grow.alloc _ _,⟨out.toList,⟨by rw[Array.length_toList,j,l],.inr ⟨w.heap.size,vs.length,out,by rw[l],Nat.zero_le _,Cu _ _,by omega,?_,j,?_⟩⟩,?_⟩,?_⟩
  · unfold maxLen;have:vs.length<=vs.length*R.sz:=Nat.le_mul_of_pos_right _ R.pos;omega
  · rw[List.take_of_length_le];rw[Array.length_toList,j,l];exact Nat.le_refl _
  · intro i I;have h5:=R.go (A':=fun b=>A b\/ob (.slice (some ⟨w.heap.size,0,none⟩) vs.length vs.length) b) (G.at i I) (Grow.alloc w (.cells out E)) (fun _ h=>h.elim) (fun b k hl=>by
      rcases k with k|k
      · exact k
      · simp[ob]at k;omega)
    rw[r];exact h5
  · intro b k;simp[ob]at k;exact k.symm
theorem wu{α:Type}{R:jN α}{E:TypeId}{f c:Nat}{a:Array (Nat×Operand)}{len:Nat}{vs:List Value}{xs:List α}(h:SH w0 M K w hp)(i:Nat)(r:pR P T E f c)(m:R.sz=f)
  (t:(a.toList.map fun p=>(p.1,ev n env p.2))=vs.zipIdx.map fun p=>(p.2,p.1)) (e:vs.length=len) (s:Cv R w (SH.A M hp) vs xs) (j:Nat.ble (len*f) 16777216=true)
  (k:∀w' u,SH w0 M K w' (bN hp i (.own R E u xs))->WL P ops Q rest n (fq env d u) w'):
  WL P ops Q (⟨d,.buildSlice T len a,ty,pos,af,none⟩::rest) n env w:=by
 obtain⟨u,w',v,q,l,x⟩:=Zd (d:=d) (ty:=ty) (pos:=pos) (af:=af) (g:=none) r m t e s h.lt<|Nat.le_of_ble_eq_true j;exact F v<|k w' u<|h.DD i q l fun b o=>Nat.le_of_eq<|x b o
theorem run_places{P:Program}{w:World}:∀(b:List Field) (c:List (Nat×Nat)),b.map (fun f=>(f.offset,(P.info? f.type).map (·.size)))=c.map (fun p=>(p.1,some p.2))->
    (b.mapM (m:=Sem) fun f=>do pure (f.offset,<-sizeOf f.type)).run P w=.ok c w
  |[],[],_=>rfl
  |[],_::_,h=>by simp at h
  |_::_,[],h=>by simp at h
  |f::b,p::c,h=>by
    simp only[List.map_cons,List.cons.injEq,Prod.mk.injEq]at h;obtain⟨⟨j,d⟩,g⟩:=h;have e:=run_places (w:=w) b c g;obtain⟨i,a,k⟩:∃i,P.info? f.type=some i/\i.size=p.2:=by
      cases a:P.info? f.type with
      |none=>simp[a]at d
      |some i=>simp[a]at d;exact⟨i,Z,d⟩
    rw[List.mapM_cons];simp only[Sem.run_bind,sizeOf,typeInfo,run_program,Result.andThen_ok,a,Sem.run_pure,k,j];simp only[sizeOf,typeInfo]at e;rw[e];simp
theorem Ac{zs out:List Value}{b:List (Nat×Nat)}{a:Array (Nat×Operand)}{pv:List (Nat×Value)}(n:Struct P T zs b)(hp:(a.toList.map fun p=>(p.1,ρ p.2))=pv)(s:Qr b zs pv out):
  (execOp ρ ⟨d,.build T a,ty,pos,af,g⟩).run P w=.ok (.value (.agg out.toArray)) w:=by
 obtain⟨o,j,k⟩:=n.desc;obtain⟨i,c,q⟩:∃i,P.info? T=some i/\i.zero=some (.agg zs.toArray):=by
  have:=n.zero;cases c:P.info? T with
  |none=>simp[c]at this
  |some i=>simp[c]at this;exact⟨i,Z,this⟩
 have r:=run_places (w:=w) o.toList b k;have l:(o.mapM (m:=Sem) fun f=>do pure (f.offset,<-sizeOf f.type)).run P w=.ok b.toArray w:=by
  rw[Array.mapM_eq_mapM_toList];simp only[Sem.run_map,r,Result.andThen_ok]
 have h:(a.map fun p=>(p.1,ρ p.2)).toList=pv:=by rw[<-hp];simp
 have t:=VJ s;simp only[execOp,Instr.build,zeroValue,typeInfo,underlying];simp only[Sem.run_bind,run_program,Result.andThen_ok,c,Sem.run_pure,q,j,l,h,Value.cells];have e:(fun(x:Nat)=>b.toArray[x]?)=fun(i:Nat)=>b[i]? :=by funext x;simp
 rw[e,t];simp
def isNil:Value->Bool| .slice none _ _=>true|_=>false
theorem Qs{α:Type}{R:jN α}{T2 E:TypeId}{k:Nat}{B A:BS}{l:List α}{e:World}(j:SliceOf P T E k)(h:ρ x=v)(f:ik R e B A v l)(i:ρ y=.slice none 0 0):(execOp ρ ⟨d,.binOp .eql T x y T2,ty,pos,af,g⟩).run P w=.ok (.value (.bool (isNil v))) w:=by
 obtain⟨a,cap,rfl,p,o,m,n⟩:=f;have b:∀a l c,(Op.equalIn Op.maxDepth T (.slice a l c)<|.slice none 0 0).run P w=.ok a.isNone w:=by
  intro a l c;show(Op.equalIn (9999+1) T (.slice a l c)<|.slice none 0 0).run P w=_;unfold Op.equalIn;simp only[Sem.run_bind,underlying,run_program,Result.andThen_ok,j.desc,Sem.run_pure];cases a<;>simp
 cases a<;>simp[execOp,h,i,eqGuard,binOp,isNil,Op.equal,b]
theorem DF{α:Type}{R:jN α}{B A:BS}{l:List α}(d:ik R w B A v l)(h:isNil v=true):v=.slice none 0 0/\l=[]:=by
 obtain⟨a,cap,rfl,f,e,c,g⟩:=d;cases a with
 |none=>
  have:=c Z;subst this;have b:l.length=0:=by omega
  exact⟨by rw[b],List.eq_nil_of_length_eq_zero b⟩
 |some a=>simp[isNil]at h
theorem SH.Ad{α:Type}{R:jN α}{E:TypeId}{l:List α}{k:Int}{a:α}{b:Nat}(h:SH w0 M K w hp)(i:Nat)(m:hp i=.own R E v l)(n:ob v b)(g:l[k.toNat]? =some a):
    ∃cs,At w b (k.toNat*R.sz) cs/\R.rd w (SH.A M hp) cs a:=by
  have d:k.toNat<l.length:=by
    rcases Nat.lt_or_ge k.toNat l.length with h|h
    · exact h
    · rw[List.getElem?_eq_none h]at g;cases g
  have j:l[k.toNat]=a:=by rw[List.getElem?_eq_getElem d]at g;exact Option.some.inj g
  obtain⟨a',cap,rfl,x,u,t,q⟩:=h.eH i m;obtain⟨b',o,cells,c,r,rfl,_,s,f⟩:=q k.toNat d;have:b=b':=n;subst this;have ho:o=0:=by
    obtain⟨xs,p,_⟩:=h.dS i m;rcases p.2 with⟨e,_⟩|⟨_,_,_,e,_⟩
    · cases e
    · cases e;rfl
  subst ho;rw[j]at f;rw[Nat.zero_add]at f;exact⟨_,⟨cells,c,r,s,by rw[R.len f]⟩,f⟩
theorem SH.wI{α:Type}{R:jN α}{E:TypeId}{m:Nat}{l:List α}{k:Int}{a:α}(h:SH w0 M K w hp)(i:Nat)(c:hp i=.own R E v l)(o:SliceOf P T E m)(e:R.sz=m)(f:0<=k)(n:l[k.toNat]? =some a):
    ∃b,ob v b/\IxOk P T v k (.pointer (some ⟨b,k.toNat*m,none⟩)):=by
  subst e;have t:k.toNat<l.length:=by
    rcases Nat.lt_or_ge k.toNat l.length with h|h
    · exact h
    · rw[List.getElem?_eq_none h]at n;cases n
  obtain⟨xs,r,_⟩:=h.dS i c;rcases r.2 with⟨rfl,hn⟩|⟨g',cap,cur,rfl,_⟩
  · omega
  refine⟨g',Z,fun ρ x y w d ty pos af g q s=>?_⟩;obtain⟨i,c,e⟩:∃i,P.info? E=some i/\i.size=R.sz:=by
    have:=o.info;cases c:P.info? E with
    |none=>simp[c]at this
    |some i=>simp[c]at this;exact⟨i,Z,this⟩
  simp only[execOp,Instr.indexAt,q,s,asIntOf,underlying,sizeOf,typeInfo];have p:(⟨g',0,none⟩:Addr).add (k.toNat*R.sz)=⟨g',k.toNat*R.sz,none⟩:=by
    unfold Addr.add;split
    · next hz=>rw[hz]
    · simp
  have j:k<(l.length:Int):=by omega
  simp[o.desc,c,e,f,j,p]
theorem SH.cutO{α:Type}{R:jN α}{E:TypeId}{S:Nat}{l:List α}{b:Int}(h:SH w0 M K w hp)(i:Nat)(J:hp i=.own R E v l)(q:SliceOf P T E S)(X:R.sz=S)(m:0<=b)(O:b<=l.length):
    ∃u,SH w0 M K w (bN hp i (.own R E u (l.take b.toNat)))/\SlOk P T v 0 b l.length u:=by
  subst X;have n:b.toNat<=l.length:=by omega
  have d:(l.take b.toNat).length=b.toNat:=by rw[List.length_take];omega
  obtain⟨xs,C,q2⟩:=h.dS i J;obtain⟨u,L,hr⟩:=r_sl (P:=P) (T:=T) q (h.eH i J) (Int.le_refl 0) m O;have hv:∃cap,v=.slice none 0 0\/∃g,v=.slice (some ⟨g,0,none⟩) l.length cap:=by
    rcases C.2 with⟨rfl,_⟩|⟨g',cap,cur,rfl,_⟩
    · exact⟨0,.inl Z⟩
    · exact⟨cap,.inr ⟨g',Z⟩⟩
  have e:=L (fun o=>match o with| .tmp 0=>v| .const v=>v|_=>undef) (.tmp 0) none (some<|.const<|.int .i64 b) w none 0 "" #[] none Z (.inl ⟨Z,Z⟩) (.inr Z);rcases C.2 with⟨rfl,hn⟩|⟨g',cap,cur,rfl,e1,e2,e3,e4,e5,e6⟩
  · have I:l=[]:=List.eq_nil_of_length_eq_zero hn;subst I;obtain⟨a,cap,rfl,h1,h2,h3,h4⟩:=hr;have A:b=0:=by simp at O;omega
    subst A;have:a=none/\cap=0:=by
      obtain⟨p,k⟩:∃p,P.info? E=some p:=by
        have:=q.info;cases r:P.info? E with
        |none=>simp[r]at this
        |some i=>exact⟨i,rfl⟩
      simp[execOp,Instr.sliceAt,Instr.slice,underlying,q.desc,Instr.sliceBounds,Instr.sliceBound,asIntOf,sizeOf,typeInfo,k,cut]at e;exact⟨e.1.symm,e.2.symm⟩
    obtain⟨rfl,rfl⟩:=this;refine⟨_,?_,L⟩;have:=h.step (c:=.own R E (.slice none 0 0) ([]:List α)) i (bG.refl BE w) (fun _ h=>h.elim) (fun _ h=>h.elim) eP.nil;simpa[cut]using this
  · have N:u=.slice (some ⟨g',0,none⟩) b.toNat cap:=by
      obtain⟨p,k,z⟩:∃p,P.info? E=some p/\p.size=R.sz:=by
        have:=q.info;cases r:P.info? E with
        |none=>simp[r]at this
        |some i=>simp[r]at this;exact⟨i,Z,this⟩
      obtain⟨t,rfl⟩:=Int.eq_ofNat_of_zero_le m;have G:t<=cap:=by simp at n;omega
      have s:(⟨g',0,none⟩:Addr).add 0=⟨g',0,none⟩:=rfl;have a1:(0:Int)<=(t:Int):=Int.natCast_nonneg t;have a0:(t:Int)<=(cap:Int):=by omega
      by_cases y:cap=0
      · subst y;have m:t=0:=by omega
        subst m;simp[execOp,Instr.sliceAt,Instr.slice,underlying,q.desc,Instr.sliceBounds,Instr.sliceBound,asIntOf,sizeOf,typeInfo,k,z]at e;simpa using e.symm
      · simp[execOp,Instr.sliceAt,Instr.slice,underlying,q.desc,Instr.sliceBounds,Instr.sliceBound,asIntOf,sizeOf,typeInfo,k,z,G,y,s]at e;simpa using e.symm
    subst N;refine⟨_,h.step (c:=.own R E (.slice (some ⟨g',0,none⟩) b.toNat cap) (l.take b.toNat)) i (bG.refl BE w) (fun _ h=>h.elim) (fun x f _=>by rw[J];exact f) ⟨xs.take (b.toNat*R.sz),⟨?_,.inr ⟨g',cap,cur,by rw[d],e1,e2,?_,e4,e5,?_⟩⟩,?_⟩,L⟩
    · rw[d,List.length_take,C.1,Nat.min_eq_left (Nat.mul_le_mul_right _ n)]
    · rw[d];omega
    · rw[d,<-e6,List.take_take,Nat.min_eq_left (Nat.mul_le_mul_right _ n)]
    · intro j Q;rw[d]at Q;have B:j<l.length:=by omega
      have r:=R.go (A':=fun x=>(M x\/SH.av hp i (.own R E (.slice (some ⟨g',0,none⟩) b.toNat cap) (l.take b.toNat)) x)\/ob (.slice (some ⟨g',0,none⟩) b.toNat cap) x) (q2 j B) (bG.refl BE w) (fun _ h=>h.elim) (fun x f _=>by
        rcases f with(f|f|f)|f
        · exact .inl<|.inl f
        · exact .inl<|.inr<|jO f
        · exact .inr f
        · exact .inr f)
      rw[List.getElem_take];rw[List.drop_take,List.take_take,Nat.min_eq_left]
      · exact r
      · have:(j+1)*R.sz<=b.toNat*R.sz:=Nat.mul_le_mul_right _ Q;rw[Nat.add_mul]at this;omega
theorem Gp{α:Type}{l:List α}{i o s off:Nat}{x:α}(ho:o=i+off):((l.set o x).drop i).take s=((l.drop i).take s).set off x:=by
 subst ho;rw[List.drop_set,if_neg V,Nat.add_sub_cancel_left,List.take_set]
theorem EJ{α:Type}{l:List α}{i o s:Nat}{x:α}(h:o<i\/i+s<=o):((l.set o x).drop i).take s=(l.drop i).take s:=by
  rw[List.drop_set];split
  · rfl
  · rw[List.take_set,List.set_eq_of_length_le];rw[List.length_take];omega
theorem Ij{α:Type}{R:jN α}{E:TypeId}{N:Nat}{l:List α}{k:Int}{a a':α}{b off:Nat}{z u:Value}(h:SH w0 M K w hp)(i:Nat)(s:hp i=.own R E u l)(t:ob u b)(X:R.sz=N)(r:l[k.toNat]? =some a)(hT:One P T z)(c:ev n env x=.pointer (some ⟨b,k.toNat*N+off,none⟩))
    (hy:ev n env y=v) (h1:v.oneCell'=true) (q:Nat.blt off N=true) (hset:∀cs,R.rd w (SH.A M hp) cs a->R.rd w (SH.A M hp) (cs.set off v) a')
    (kk:∀w',SH w0 M K w' (bN hp i (.own R E u (l.set k.toNat a')))->WL P ops Q rest n (fq env d undef) w'):
    WL P ops Q (⟨d,.store T x y,ty,pos,af,none⟩::rest) n env w:=by
  subst X;rw[Nat.blt_eq]at q;have g:k.toNat<l.length:=by
    rcases Nat.lt_or_ge k.toNat l.length with h|h
    · exact h
    · rw[List.getElem?_eq_none h]at r;cases r
  have J:l[k.toNat]=a:=by rw[List.getElem?_eq_getElem g]at r;exact Option.some.inj r
  generalize k.toNat=k at*;have e:∀b,ob u b->SH.A M hp b:=fun b t=>.inr ⟨i,by rw[s];exact t⟩;obtain⟨xs,O,q3⟩:=h.dS i s;rcases O.2 with⟨rfl,hn⟩|⟨g',cap,cur,rfl,e1,e2,e3,e4,e5,e6⟩
  · omega
  have B:b=g':=t;subst B;have G:(k+1)*R.sz<=l.length*R.sz:=Nat.mul_le_mul_right _ g;have a0:l.length*R.sz<=cap*R.sz:=Nat.mul_le_mul_right _ e3;rw[Nat.add_mul]at G;have I:k*R.sz+off<cur.size:=by omega
  have p:=bG.qM w b<|.cells (cur.setIfInBounds (k*R.sz+off) v) E (0,0);refine uE (Ig hT c e2 I hy h1) (kk _ (h.step i p (fun x c _=>by rw[s];exact c) (fun x c _=>by rw[s];exact c) ⟨xs.set (k*R.sz+off) v,⟨?_,.inr ⟨b,cap,cur.setIfInBounds (k*R.sz+off) v,?_,e1,?_,?_,e4,?_,?_⟩⟩,?_⟩))
  · rw[List.length_set,List.length_set];exact O.1
  · rw[List.length_set]
  · rw[rE (iq e2)]
  · rw[List.length_set];exact e3
  · simpa using e5
  · rw[List.length_set,Array.toList_setIfInBounds,List.take_set,e6]
  · intro f L;have C:f<l.length:=by rwa[List.length_set]at L
    have m:=fun cs a(h:R.rd w (SH.A M hp) cs a)=>R.go (A':=fun x=>(M x\/(SH.av hp i (.own R E (.slice (some ⟨b,0,none⟩) l.length cap) (l.set k a'))) x)\/ob (.slice (some ⟨b,0,none⟩) l.length cap) x) h p (fun x c _=>e x c) (fun x c _=>by
      rcases c with(c|c|c)|c
      · exact .inl c
      · exact .inr<|jO c
      · exact e x c
      · exact e x c)
    have S:=fun j(hj:j<l.length)=>R.go (A':=SH.A M hp) (q3 j hj) (bG.refl BE w) (fun _ h=>h.elim) fun x c _=>.inl c;by_cases o:f=k
    · subst o;rw[List.getElem_set_self,Gp rfl];exact m _ _<|hset _<|J▸S f g
    · rw[List.getElem_set_ne (Ne.symm o),EJ]
      · exact m _ _<|S f C
      · rcases Nat.lt_or_ge k f with h5|h5
        · left;have:(k+1)*R.sz<=f*R.sz:=Nat.mul_le_mul_right _ h5;rw[Nat.add_mul]at this;omega
        · right;have:(f+1)*R.sz<=k*R.sz:=Nat.mul_le_mul_right _ V;rw[Nat.add_mul]at this;omega
structure WK(P:Program)(ops:Array Oper)(w:World)(Q:Act->Prop)(l:List Oper)(n:Nat)(env:Nat->Value):Prop where
 out:wpQuiet P ops (fun x=>x=w) Q l (act n env)
end
section
variable{P:Program}{ops:Array Oper}
theorem sQ{w:World}{Q:Act->Prop}:∀{l:List Oper} {a:Act},wpQuiet P ops (fun x=>x=w) Q l a->wpStill P ops w Q l a
  |[],_,h=>h
  |o::rest,a,h=>by
    unfold wpQuiet at h;unfold wpStill;split
    · rename_i c;rw[if_pos c]at h;obtain⟨v,i,d⟩:=h;have b:=i w Z;unfold Oper.quietAt at b;unfold Oper.still;generalize (execOp a.eval o).run P w=r at b⊢;cases r with
      |ok n w'=>
        cases n<;>simp only[Oper.quietUpon]at b<;>simp only[Oper.stillUpon];case value u=>exact⟨b.1,by rw[b.2];exact sQ d⟩
        case skip=>exact⟨b.1,by rw[<-b.2];exact sQ d⟩
        case enter f args=>exact⟨b.1,v,b.2.mono (fun e g h=>h),sQ d⟩
      |halt x w'=>simp only[Oper.quietUpon]at b
    · rename_i c;rw[if_neg c]at h;exact sQ h
end
section
variable{P:Program}{ops:Array Oper}{Q:Exit->Act->World->Prop}{n:Nat}{env:Nat->Value}{w w' w0:World}{M K:BS}{hp:Nat->Chunk}{rest:List Oper}
 {d:Option Nat} {op:Op} {ty:TypeId} {pos:String} {af:Array Edge} {v:Value} {g:Option (Nat×Bool)} {T:TypeId} {ρ:Operand->Value} {x y:Operand}
variable{Q1:Act->Prop}
theorem aG(c:(execOp (ev n env) ⟨d,op,ty,pos,af,none⟩).run P w=.ok (.value v) w)(h:WK P ops w Q1 rest n (fq env d v)):WK P ops w Q1 (⟨d,op,ty,pos,af,none⟩::rest) n env:=by
  refine⟨?_⟩;unfold wpQuiet;have a:Region.wanted ⟨d,op,ty,pos,af,none⟩ (yielded ops (act n env).tmps)=true:=rfl;rw[if_pos a];refine⟨v,fun w' b=>?_,?_⟩
  · subst b;unfold Oper.quietAt;rw[iK,c];exact⟨Z,Z⟩
  · rw[yP];exact h.out
theorem gy{j dj:Nat}{b:Bool}(g:(ops[j]?).bind (·.dst)=some dj)(e:ev n env (.tmp dj)=.bool b)(h:WK P ops w Q1 (⟨d,op,ty,pos,af,none⟩::rest) n env):WK P ops w Q1 (⟨d,op,ty,pos,af,some (j,b)⟩::rest) n env:=by
  have f:=Dz (ops:=ops) g e;have c:Region.wanted ⟨d,op,ty,pos,af,some (j,b)⟩ (yielded ops (act n env).tmps)=true:=by simp[Region.wanted,f]
  have a:Region.wanted ⟨d,op,ty,pos,af,none⟩ (yielded ops (act n env).tmps)=true:=rfl;obtain⟨h⟩:=h;refine⟨?_⟩;unfold wpQuiet at h⊢;rw[if_pos a]at h;rw[if_pos c];exact h
theorem VL(a:Region.wanted ⟨d,op,ty,pos,af,g⟩ (yielded ops (act n env).tmps)=false)(h:WK P ops w Q1 rest n (fq env d undef)):WK P ops w Q1 (⟨d,op,ty,pos,af,g⟩::rest) n env:=by
 refine⟨?_⟩;unfold wpQuiet;rw[if_neg (by rw[a];decide),yP];exact h.out
theorem dY{j dj:Nat}{b b':Bool}(f:(ops[j]?).bind (·.dst)=some dj)(c:ev n env (.tmp dj)=.bool b')(a:(b'==b)=false)(h:WK P ops w Q1 rest n (fq env d undef)):WK P ops w Q1 (⟨d,op,ty,pos,af,some (j,b)⟩::rest) n env:=
  VL (by have e:=Dz (ops:=ops) f c;simpa[Region.wanted,e]using a) h
theorem Gq{j dj:Nat}(c:(ops[j]?).bind (·.dst)=some dj)(b:ev n env (.tmp dj)=undef):yielded ops (act n env).tmps j=none:=by
  unfold yielded;have a:(act n env).eval (.tmp dj)=undef:=by rw[iK];exact b
  simp only[c,Option.bind_some];simp only[Act.eval]at a;cases h2:(act n env).tmps[dj]? with
  |none=>rfl
  |some x=>simp[Array.getD_eq_getD_getElem?,h2]at a;subst a;rfl
theorem vP{j dj:Nat}{b:Bool}(c:(ops[j]?).bind (·.dst)=some dj)(a:ev n env (.tmp dj)=undef)(h:WK P ops w Q1 rest n (fq env d undef)):WK P ops w Q1 (⟨d,op,ty,pos,af,some (j,b)⟩::rest) n env:=
  VL (by simp[Region.wanted,Gq c a]) h
theorem VM{j dj:Nat}{b:Bool}(e:(ops[j]?).bind (·.dst)=some dj)(a:ev n env (.tmp dj)=undef)(h:WL P ops Q rest n (fq env d undef) w):WL P ops Q (⟨d,op,ty,pos,af,some (j,b)⟩::rest) n env w:=by
  have c:Region.wanted ⟨d,op,ty,pos,af,some (j,b)⟩ (yielded ops (act n env).tmps)=false:=by simp[Region.wanted,Gq e a]
  refine⟨?_⟩;unfold wpList;rw[if_neg (by rw[c];decide),yP];exact h.out
theorem VN{j dj:Nat}{b a:Bool}(c:Bool)(i:(ops[j]?).bind (·.dst)=some dj)(g:ev n env (.tmp dj)=gv c (.bool b))
    (k:(c&&(b==a))=true->(execOp (ev n env) ⟨d,op,ty,pos,af,none⟩).run P w=.ok (.value v) w) (h:WK P ops w Q1 rest n (fq env d (gv (c&&(b==a)) v))):
    WK P ops w Q1 (⟨d,op,ty,pos,af,some (j,a)⟩::rest) n env:=by
  by_cases e:(c&&(b==a))=true
  · have m:=gl e;have l:=gr e;rw[ed m]at g;rw[ed e]at h;have o:b=a:=by simpa using l
    subst o;exact gy i g<|aG (k e) h
  · have f:(c&&(b==a))=false:=by simpa using e
    rw[f]at h;cases c with
    |true=>exact dY i g (by simpa using f) h
    |false=>exact vP i g h
theorem yx{j dj:Nat}{b a:Bool}(f:(ops[j]?).bind (·.dst)=some dj)(c:ev n env (.tmp dj)=.bool b)
    (e:(b==a)=true->(execOp (ev n env) ⟨d,op,ty,pos,af,none⟩).run P w=.ok (.value v) w) (h:WK P ops w Q1 rest n (fq env d (gv (b==a) v))):
    WK P ops w Q1 (⟨d,op,ty,pos,af,some (j,a)⟩::rest) n env:=
  VN true f c (fun h=>e (by simpa using h)) (by simpa using h)
theorem zU{l:List Oper}(h:WL P ops Q l n env w):WK P ops w (fun a=>wpList P ops Q l a w) [] n env:=⟨h.out⟩
theorem qf{id:Nat}(k:Nat){l:List Oper}(c:P.follows .mixedOrders=true)(b:Region.lexTailB .any l.toArray k=true)(h:SH w0 M K w hp)
  (d:∀w,SH w0 M K w hp->WK P l.toArray w (fun a=>wpList P l.toArray Q (l.drop k) a w) (l.take k) n env):WC P (Code.region id l.toArray true) Q n env w:=
 ⟨wp_region_still_tail k c b (sQ (d _ (h.grow (Grow.drew w))).out)⟩
theorem AP{id:Nat}{l:List Oper}(c:P.follows .mixedOrders=true)(b:Region.lexB .any l.toArray=true)(h:SH w0 M K w hp)
  (d:∀w,SH w0 M K w hp->WK P l.toArray w (fun a=>∀w',w'=w->Q .normal a w') l n env):WC P (Code.region id l.toArray true) Q n env w:=
 ⟨wp_region_quiet (C:=fun x=>x=w.drew) c b Z (d _ (h.grow (Grow.drew w))).out⟩
theorem yz(h:Q .normal (act n env) w):WK P ops w (fun a=>∀w',w'=w->Q .normal a w') [] n env:=⟨fun _ e=>by rw[e];exact h⟩
end
open Go.RowKit
section
variable{P:Program}{ops:Array Oper}{Q:Exit->Act->World->Prop}{n:Nat}{env:Nat->Value}{w w' w0:World}{M K:BS}{hp:Nat->Chunk}{rest:List Oper}
 {d:Option Nat} {op:Op} {ty:TypeId} {pos:String} {af:Array Edge} {v:Value} {g:Option (Nat×Bool)} {T:TypeId} {ρ:Operand->Value} {x y:Operand}
theorem Ae{v:Value}(h:v.oneCell'=true):v.cells= #[v]:=by
 cases v<;>first|rfl|simp[Value.oneCell']at h
theorem jw{v:Value}(h:v.oneCell'=true):v.cells.toList=[v]:=by rw[Ae h]
theorem ik.rdc{α:Type}{R:jN α}{A:BS}{l:List α}(h:fC R w A v l):(zC R).rd w A v.cells.toList l:=by
 rw[Ae h.one];exact⟨v,Z,h⟩
theorem O0{c d:Bool}{v:Value}(h:c=true):gv (c&&d) v=gv d v:=by rw[h,Bool.true_and]
theorem bE:∀v∈([]:List Value),v.oneCell'=true:=fun _ h=>by cases h
theorem aj{a:Value}{l:List Value}(b:a.oneCell'=true)(c:∀v∈l,v.oneCell'=true):∀v∈a::l,v.oneCell'=true:=fun v h=>by
  rcases List.mem_cons.1 h with rfl|h
  · exact b
  · exact c v h
def Room{α:Type}(a:Nat)(l m:List α):Prop:=(l.length+m.length)*a<=140737488355328/\l.length+m.length<=9223372036854775807
instance {α:Type} (bytes:Nat) (l m:List α):Decidable (Room bytes l m):=inferInstanceAs (Decidable (_/\_))
theorem Room.mk{α:Type}{a:Nat}{l m:List α}(c:(l.length+m.length)*a<=140737488355328)(b:l.length+m.length<=9223372036854775807):Room a l m:=⟨c,b⟩
theorem set1{α:Type}{R:jN α}{A:BS}{cs:List Value}{a a':α}{v:Value}(h:R.rd w A v.cells.toList a')(d:R.rd w A cs a)(e:R.sz=1:=by rfl)(b:v.oneCell'=true:=by assumption):R.rd w A (cs.set 0 v) a':=by
 have:=R.len d;rw[e]at this
 match cs,this with
 |[c],_=>rw[jw b]at h;exact h
theorem kz{f:FuncId}{first captured:Array Value}{xs:Array Operand}{a:Array TypeId}{args:List Value}(g:Ih P f)(i:ev n env x=.func (.func f) first captured)
  (c:first.toList++xs.toList.map (ev n env)++captured.toList=args) (b:Calls P f args.toArray w (fun e w'=>∃v,e=.returned v/\WL P ops Q rest n (fq env d v) w')):
  WL P ops Q (⟨d,.call {callee:=.value x,args:=xs,argTypes:=a},ty,pos,af,none⟩::rest) n env w:=
 cO g i c b (fun _ _ h=>h)
theorem om{α:Type}{a b:α}{l m:List α}(h:a=b)(c:l=m):a::l=b::m:=by rw[h,c]
theorem VO{f:FuncId}{first captured:Array Value}{xs:Array Operand}{y:Array TypeId}{args:List Value}{j dj:Nat}{b a:Bool}(g:Bool)(m:(ops[j]?).bind (·.dst)=some dj)(l:ev n env (.tmp dj)=gv g (.bool b))(s:Ih P f)(t:ev n env x=.func (.func f) first captured)
    (r:(g&&(b==a))=true->first.toList++xs.toList.map (ev n env)++captured.toList=args) (q:Calls P f args.toArray w (fun e w'=>Grow w w'/\e=.returned v))
    (k:∀w',Grow w w'->WL P ops Q rest n (fq env d (gv (g&&(b==a)) v)) w'):
    WL P ops Q (⟨d,.call {callee:=.value x,args:=xs,argTypes:=y},ty,pos,af,some (j,a)⟩::rest) n env w:=by
  by_cases c:(g&&(b==a))=true
  · have o:=gl c;have z:=gr c;rw[ed o]at l;have p:b=a:=by simpa using z
    subst p;refine KU m l<|cO s t (r c) q ?_;rintro e w'⟨u,rfl⟩;refine⟨_,Z,?_⟩;have:=k w' u;rw[ed c]at this;exact this
  · have i:(g&&(b==a))=false:=by simpa using c
    have h:=k w<|bG.refl _ _;rw[i]at h;cases g with
    |true=>exact jy m l (by simpa using i) h
    |false=>exact VM m l h
theorem RN{f:FuncId}{first captured:Array Value}{xs:Array Operand}{m:Array TypeId}{args:List Value}{j dj:Nat}{b a:Bool}(p:(ops[j]?).bind (·.dst)=some dj)(c:ev n env (.tmp dj)=.bool b)(i:Ih P f)(l:ev n env x=.func (.func f) first captured)
    (g:(b==a)=true->first.toList++xs.toList.map (ev n env)++captured.toList=args) (o:Calls P f args.toArray w (fun e w'=>Grow w w'/\e=.returned v))
    (k:∀w',Grow w w'->WL P ops Q rest n (fq env d (gv (b==a) v)) w'):
    WL P ops Q (⟨d,.call {callee:=.value x,args:=xs,argTypes:=m},ty,pos,af,some (j,a)⟩::rest) n env w:=
  VO true p c i l (fun h=>g (by simpa using h)) o (by simpa using k)
theorem SH.oI{α:Type}{R:jN α}{E:TypeId}{l:List α}(h:SH w0 M BE w hp)(i:Nat)(c:hp i=.own R E v l):eP R E w M v l/\∀b,ob v b->w0.heap.size<=b:=
 ⟨eP.go (h.dS i c) (bG.refl BE w) (fun _ h=>h.elim) (fun _ h=>h.elim) (fun b a _=>.inl (.inl a)),fun b a=>h.fresh i b (by rw[c];exact a)⟩
theorem lZ{s:Nat}:∀b,ob (.slice none 0 0) b->s<=b:=fun _ h=>h.elim
theorem xe{P:Program}{E:TypeId}{z:Value}{s b:Nat}(h:(P.info? E).map (fun i=>(i.zero,i.size,i.bytes))=some (some z,s,b))(a:z.cells.size=s):∃i z,P.info? E=some i/\i.zero=some z/\i.size=s/\i.bytes=b/\z.cells.size=s:=by
 cases hi:P.info? E with
 |none=>simp[hi]at h
 |some i=>simp[hi]at h;exact⟨i,z,Z,h.1,h.2.1,h.2.2,a⟩
theorem r_max{T2:TypeId}{p q:Int}(b:ρ x=.int .i64 p)(a:ρ y=.int .i64 q):(execOp ρ ⟨d,.call {callee:=.builtin .max,args:= #[x,y],argTypes:= #[T,T2]},ty,pos,af,g⟩).run P w=.ok (.value (.int .i64 (max p q))) w:=by
 have h:(if q>p then q else p)=max p q:=by split<;>omega
 simp[execOp,resolve,invoke,builtin,Builtin.max_,Builtin.max2,b,a,h]
theorem r_min{T2:TypeId}{p q:Int}(b:ρ x=.int .i64 p)(a:ρ y=.int .i64 q):(execOp ρ ⟨d,.call {callee:=.builtin .min,args:= #[x,y],argTypes:= #[T,T2]},ty,pos,af,g⟩).run P w=.ok (.value (.int .i64 (min p q))) w:=by
 have h:(if q<p then q else p)=min p q:=by split<;>omega
 simp[execOp,resolve,invoke,builtin,Builtin.min_,Builtin.min2,b,a,h]
theorem DI{zs vs cs:List Value}{b i:Nat}(l:SH w0 M K w hp)(k:hp i=.blk b cs)(j:xc P T zs)(e:vs.length=zs.length)(f:cs=vs):(loadVar T ⟨b,0,none⟩).run P w=.ok (.agg vs.toArray) w:=by
 subst f;have h:=AO (P:=P) (ρ:=fun _=>.pointer (some ⟨b,0,none⟩)) (d:=none) (ty:=0) (pos:= "") (af:= #[]) (g:=none) (x:=.tmp 0) (o:=0) (vs:=cs) l i k j Z (by rw[<-e];simp) e;simp only[execOp,Instr.loadAt,Instr.sureAddr]at h;have c:((loadVar T ⟨b,0,none⟩).run P w).andThen (fun a w'=>Result.ok (Next.value a) w')=Result.ok (Next.value (Value.agg cs.toArray)) w:=by simpa using h
 cases hres:(loadVar T ⟨b,0,none⟩).run P w with
 |ok v w'=>rw[hres]at c;simp at c;rw[c.1,c.2]
 |halt x w'=>rw[hres]at c;simp[Result.andThen]at c
theorem SH.EK{α:Type}{R:jN α}{E:TypeId}{l:List α}(h:SH w0 M K w hp)(j i:Nat)(p:hp j=.own R E v l)(B:hp i=.no)(t:j≠i):SH w0 M K w (bN (bN hp j .no) i (.own R E v l)):=by
  have ho:=h.dS j p;have d:∀x b,(bN (bN hp j .no) i (.own R E v l) x).own' b->∃y,(hp y).own' b/\(x=i->y=j)/\(x≠i->y=x/\x≠j):=by
    intro x b a;by_cases e:x=i
    · subst e;rw[bX]at a;exact⟨j,by rw[p];exact a,fun _=>rfl,fun h=>absurd Z h⟩
    · rw[ek e]at a;by_cases c:x=j
      · subst c;rw[bX]at a;exact a.elim
      · rw[ek c]at a;exact⟨x,a,fun h=>absurd h e,fun _=>⟨Z,c⟩⟩
  have f:∀b,gN (bN (bN hp j .no) i<|.own R E v l) b->gN hp b:=fun b⟨x,o⟩=>let ⟨y,g,_⟩:=d x b o;⟨y,g⟩;refine⟨h.keep,h.ltM,fun x b a=>let ⟨y,g,_⟩:=d x b a;h.TQ y b g,fun x=>?_,fun x y k b o g=>?_,fun x b a=>let ⟨y,g,_⟩:=d x b a;h.old y b g⟩
  · by_cases e:x=i
    · subst e;rw[bX];have:=h.ok j;rw[p]at this;exact Chunk.sub this fun b a _=>f b a
    · rw[ek e];by_cases c:x=j
      · subst c;rw[bX];trivial
      · rw[ek c];exact Chunk.sub (h.ok x) (fun b a _=>f b a)
  · obtain⟨q,A,u,n⟩:=d x b o;obtain⟨r,s,z,m⟩:=d y b g;have:q≠r:=by
      by_cases e:x=i
      · have c:y≠i:=fun h=>k<|e.trans h.symm;rw[u e,(m c).1];exact fun h=>(m c).2 h.symm
      · by_cases c:y=i
        · rw[z c,(n e).1];exact(n e).2
        · rw[(n e).1,(m c).1];exact k
    exact h.apart q r this b A s
theorem SH.mo{α:Type}{R:jN α}{l:List α}(h:SH w0 M K w hp)(j i:Nat)(a:hp j=.rd R v l):SH w0 M K w (bN hp i (.rd R v l)):=h.bA i (h.fH j a)
theorem SH.Zg{α:Type}{R:jN α}{l:List α}(h:SH w0 M K w hp)(i:Nat)(c:hp i=.rd R v l):fC R w M v l:=
 (h.fH i c).sub (fun b a _=>.inl a) (fun b a _=>.inl a)
def clone{α:Type}(b:Nat)(a:List α):Option (List α):=gD (Room b ([]:List α) a) (some a)
structure Arr2(P:Program)(T E:TypeId):Prop where
  desc:P.underlying T=some (.array 2 E)
  zero:∃z0 z1,(P.info? T).map (·.zero)=some (some (.agg #[z0,z1]))
  size:(P.info? E).map (·.size)=some 1
  plain:∃F,P.underlying E=some (.slice F)
theorem RO{E:TypeId}{x y:Operand}{p q:Value}(f:Arr2 P T E)(l:ρ x=p)(m:ρ y=q)(s:p.oneCell'=true)(r:q.oneCell'=true):(execOp ρ ⟨d,.build T #[(0,x),(1,y)],ty,pos,af,g⟩).run P w=.ok (.value (.agg #[p,q])) w:=by
 obtain⟨e,k,b⟩:=f.zero;obtain⟨i,a,h⟩:∃i,P.info? T=some i/\i.zero=some (.agg #[e,k]):=by
  cases a:P.info? T with
  |none=>simp[a]at b
  |some i=>simp[a]at b;exact⟨i,Z,b⟩
 obtain⟨j,n,c⟩:∃j,P.info? E=some j/\j.size=1:=by
  have:=f.size;cases a:P.info? E with
  |none=>simp[a]at this
  |some i=>simp[a]at this;exact⟨i,Z,this⟩
 have c1:=Ae s;have c2:=Ae r;simp only[execOp,Instr.build,l,m,underlying,zeroValue,typeInfo,sizeOf];have o:(Value.agg #[e,k]).cells= #[e,k]:=rfl;simp[a,h,f.desc,n,c,Instr.fill,c1,c2,o,l,m]
theorem Ik{E:TypeId}{x y:Operand}{p q v:Value}{k:Nat}(f:Arr2 P T E)(o:ρ x=.agg #[p,q])(s:ρ y=.int .i64 k)(b:[p,q][k]? =some v):(execOp ρ ⟨d,.index T x y,ty,pos,af,g⟩).run P w=.ok (.value v) w:=by
  obtain⟨a,n⟩:=f.plain;obtain⟨j,r,c⟩:∃j,P.info? E=some j/\j.size=1:=by
    have:=f.size;cases hi:P.info? E with
    |none=>simp[hi]at this
    |some i=>simp[hi]at this;exact⟨i,Z,this⟩
  have l:k<2:=by
    rcases Nat.lt_or_ge k 2 with h|h
    · exact h
    · rw[List.getElem?_eq_none (by simpa using h)]at b;cases b
  have m:(#[p,q]:Array Value)[k]? =some v:=by simpa using b
  have e:((k:Int)<2):=by omega
  simp only[execOp,Instr.index,o,s,underlying,asIntOf,part,isAgg,sizeOf,typeInfo];simp[f.desc,r,c,n,e,l];rw[List.getElem?_eq_getElem (by simpa using l)]at b;exact Option.some.inj b
structure Zh(P:Program)(T:TypeId):Prop where
 desc:∃f0 f1,P.underlying T=some (.struct #[f0,f1])/\f0.name≠ "_" /\f1.name≠ "_" /\f0.offset=0/\f1.offset=1/\P.underlying f0.type=some (.int .i64)/\P.underlying f1.type=some (.int .i64)/\P.plainKey f0.type=true/\P.plainKey f1.type=true
 stood:P.stoodInHeld T=false
 guard:P.eqGuardType P.depth T=false
theorem Zi(j:Zh P T)(a b c e:Int):(Op.equalIn 10000 T (.agg #[.int .i64 a,.int .i64 b]) (.agg #[.int .i64 c,.int .i64 e])).run P w=.ok (decide (a=c)&&decide (b=e)) w:=by
  obtain⟨i,g,l,s,n,q,p,m,o,k,d⟩:=j.desc;have f:P.fieldsOf T= #[i,g]:=by simp[Program.fieldsOf,l]
  rw[show(10000:Nat)=9999+1 from rfl,run_equalIn_agg w 9999 T _ _ (by rw[f];exact l) j.stood,f];simp only[Op.eqFields,s,n,ne_eq,not_false_eq_true,if_true,q,p,Sem.run_bind];rw[run_part_plain w k (xs:= #[.int .i64 a,.int .i64 b]) (off:=0) (v:=.int .i64 a) rfl];simp only[Result.andThen_ok];rw[run_part_plain w k (xs:= #[.int .i64 c,.int .i64 e]) (off:=0) (v:=.int .i64 c) rfl];simp only[Result.andThen_ok];rw[show(9999:Nat)=9998+1 from rfl,run_equalIn_int w 9998 i.type .i64 .i64 a c m];simp only[Result.andThen_ok,Sem.run_ite,Sem.run_bind];by_cases h:a=c
  · subst h;simp only[beq_self_eq_true,Bool.not_true,Bool.false_eq_true,if_false];rw[run_part_plain w d (xs:= #[.int .i64 a,.int .i64 b]) (off:=1) (v:=.int .i64 b) rfl];simp only[Result.andThen_ok];rw[run_part_plain w d (xs:= #[.int .i64 a,.int .i64 e]) (off:=1) (v:=.int .i64 e) rfl];simp only[Result.andThen_ok];rw[run_equalIn_int w 9998 g.type .i64 .i64 b e o];by_cases r:b=e<;>simp[r]
  · simp[h]
theorem Zj{T2:TypeId}{a b c e:Int}(f:Zh P T)(h:ρ x=.agg #[.int .i64 a,.int .i64 b])(i:ρ y=.agg #[.int .i64 c,.int .i64 e]):(execOp ρ ⟨d,.binOp .eql T x y T2,ty,pos,af,g⟩).run P w=.ok (.value (.bool (decide (a=c)&&decide (b=e)))) w:=by
 simp only[execOp,h,i,Sem.run_bind,run_eqGuard_agg w .eql T x y _ _ f.guard,Result.andThen_ok,run_eql_struct,Zi f];simp
end
section
variable{σ:Type}{n:Nat}{e Jk:Nat->Value}{mod:Nat->Bool}{live:σ->List (Nat×Value)}{J:σ->World->Prop}{w:World}
theorem bI(s:σ)(b:J s w)(a:Holds e (live s):=by repeat (first|exact U|refine⟨rfl,?_⟩))
 (c:Bv mod e Jk:=by repeat (first|(with_reducible exact Bv.refl _ _)|(with_reducible exact Bv.VE _ _ _)|(with_reducible refine Bv.on ?_)|((with_reducible refine Bv.hin ?_ ?_);rfl)|(with_reducible refine Bv.un ?_)|((with_reducible refine Bv.os ?_ ?_);rfl)|((with_reducible refine Bv.uc ?_ ?_);rfl))):
 JP n mod Jk live J (act n e) w:=⟨s,e,rfl,c,a,b⟩
theorem ky{a:σ->Nat}{c:σ}(s:σ)(d:J s w)(b:a s<a c:=by dsimp only;omega)(f:Holds e (live s):=by repeat (first|exact U|refine⟨rfl,?_⟩))
 (g:Bv mod e Jk:=by repeat (first|(with_reducible exact Bv.refl _ _)|(with_reducible exact Bv.VE _ _ _)|(with_reducible refine Bv.on ?_)|((with_reducible refine Bv.hin ?_ ?_);rfl)|(with_reducible refine Bv.un ?_)|((with_reducible refine Bv.os ?_ ?_);rfl)|((with_reducible refine Bv.uc ?_ ?_);rfl))):
 JL n mod Jk live J a c (act n e) w:=⟨s,e,rfl,g,f,d,b⟩
end
section
variable{P:Program}{Q:Exit->Act->World->Prop}{n:Nat}{env:Nat->Value}{w:World}
theorem O1{c:Code}(m:Nat)(h:WC P c (Exit.then (Code.rounds P c Q m) Q) n env w):WC P (Code.loop c) Q n env w:=⟨wp_loop_rounds (m+1) h.out⟩
theorem DJ{c:Code}{m:Nat}(h:WC P c (Exit.then (Code.rounds P c Q m) Q) n env w):Exit.then (Code.rounds P c Q (m+1)) Q .normal (act n env) w:=h.out
end
theorem SH.cn{w0 w:World}{M K:BS}{hp:Nat->Chunk}(h:SH w0 M K w hp)(l:List (Nat×Chunk))(a:Qo hp l:=by repeat (first|exact U|refine⟨rfl,?_⟩)):SH w0 M K w (hset l):=h.canon l a
section
variable{α β σ ρ:Type}
theorem VP{l:List α}{k:Nat}(h:decide ((k:Int)<(l.length:Int))=true):∃x,l[k]? =some x/\l.drop k=x::l.drop (k+1):=by
 have a:k<l.length:=by have:=of_decide_eq_true h;omega
 exact⟨l[k],List.getElem?_eq_getElem a,List.drop_eq_getElem_cons a⟩
theorem VQ{l:List α}{k:Nat}(h:decide ((k:Int)<(l.length:Int))=false):l.drop k=[]:=by
 have:=of_decide_eq_false h;exact List.drop_eq_nil_of_le V
theorem oW{body:α->σ->(σ->ρ)->ρ}{k:σ->ρ}{x:α}{l:List α}{s:σ}:each body k (x::l) s=body x s (each body k l):=rfl
theorem Il{body:α->σ->(σ->ρ)->ρ}{k:σ->ρ}{s:σ}:each body k [] s=k s:=rfl
theorem AQ{body:Int->α->σ->(σ->ρ)->ρ}{k:σ->ρ}{x:α}{l:List α}{s:σ}{i:Int}:gF body k i (x::l) s=body i x s (gF body k (i+1) l):=rfl
theorem WX{body:Int->α->σ->(σ->ρ)->ρ}{k:σ->ρ}{s:σ}{i:Int}:gF body k i [] s=k s:=rfl
theorem upto_lt{body:Int->σ->(σ->ρ)->ρ}{k:σ->ρ}{s:σ}{i:Int}{j m:Nat}(h:j<m):upto body k i (m-j) s=body i s (upto body k (i+1) (m-(j+1))):=by
 rw[show m-j=(m-(j+1))+1 by omega];rfl
theorem upto_ge{body:Int->σ->(σ->ρ)->ρ}{k:σ->ρ}{s:σ}{i:Int}{j m:Nat}(h:m<=j):upto body k i (m-j) s=k s:=by
 rw[show m-j=0 by omega];rfl
theorem oZ{body:σ->(σ->Option β)->Option β}{m:Nat}{s:σ}{r:β}(h:again body m s=some r):∃m',m=m'+1/\body s (again body m')=some r:=by
 cases m with
 |zero=>cases h
 |succ m=>exact⟨m,rfl,h⟩
theorem gT{l:List α}{k:Nat}{i:Int}{x:α}(a:i=(k:Int))(h:l[k]? =some x):l[i.toNat]? =some x:=by subst a;simpa using h
theorem je{k:Nat}{i:Int}(a:i=(k:Int)):0<=i:=by omega
theorem gU{l:List α}{k:Nat}{i:Int}(c:l.length<=9223372036854775807)(b:i=(k:Int))(a:decide (i<(l.length:Int))=true):jY (i+1):=by
 have:=of_decide_eq_true a;exact⟨by omega,by omega⟩
end
open Go.RowKit
section
variable{P:Program}{ops:Array Oper}{C:World->Prop}{Q:Exit->Act->World->Prop}{n:Nat}{env:Nat->Value}{w w':World}{rest:List Oper}
 {d:Option Nat} {op:Op} {ty:TypeId} {pos:String} {af:Array Edge} {v:Value} {g:Option (Nat×Bool)} {T:TypeId} {ρ:Operand->Value}
structure Raw(w:World)(gg cap sz:Nat)(E:TypeId)(cur:List Value):Prop where
 blk:w.heap[gg]? =some (.cells cur.toArray E (0,0))
 len:cur.length=cap*sz
 le:cap<=maxLen
end
theorem own_raw{α:Type}{R:jN α}{E:TypeId}{w:World}{A:BS}{v:Value}{l:List α}(h:eP R E w A v l)(k:0<l.length):
    ∃c cap a,v=.slice (some ⟨c,0,none⟩) l.length cap/\Raw w c cap R.sz E a/\l.length<=cap/\∀i (h:i<l.length),R.rd w (fun b=>A b\/b=c) ((a.drop (i*R.sz)).take R.sz) l[i]:=by
  obtain⟨xs,g,j⟩:=h;rcases g.2 with⟨rfl,hn⟩|⟨c,cap,a,rfl,e1,e2,e3,e4,e5,e6⟩
  · omega
  refine⟨c,cap,a.toList,Z,⟨by simpa using e2,by simpa using e5,e4⟩,e3,fun i f=>?_⟩;have d:(i+1)*R.sz<=l.length*R.sz:=Nat.mul_le_mul_right _ f;rw[Nat.add_mul]at d;have e:=j i f;rw[<-e6,List.drop_take,List.take_take,Nat.min_eq_left V]at e;exact e
section
variable{P:Program}{Q:Exit->Act->World->Prop}{n:Nat}{env:Nat->Value}{w w' w0:World}{M K:BS}{hp:Nat->Chunk}
theorem SH.given{α:Type}{R:jN α}{E:TypeId}{v u:Value}{l d:List α}(h:SH w0 M K w hp)(i:Nat)(c:hp i=.own R E v l)(ho:eP R E w' (fun b=>M b\/rest hp i b) u d)(e:bG (ob v) w w')(hn:∀b,ob u b->b<w.heap.size->ob v b):SH w0 M K w' (bN hp i (.own R E u d)):=by
  refine h.step i e (fun b a _=>by rw[c];exact a) (fun b a f=>by rw[c];exact hn b a f) ?_;refine eP.go ho (bG.refl BE w') (fun _ h=>h.elim) (fun _ h=>h.elim) fun b a _=>?_;rcases a with a|a|a
  · exact .inl<|.inl a
  · exact .inl<|.inr a
  · exact .inr a
theorem SH.giveO{α:Type}{R:jN α}{E:TypeId}{v:Value}{l:List α}(h:SH w0 M K w hp)(i:Nat)(c:hp i=.own R E v l):eP R E w (fun b=>M b\/rest hp i b) v l:=
 eP.go (h.dS i c) (bG.refl BE w) (fun _ h=>h.elim) (fun _ h=>h.elim) (fun b a _=>.inl (a.imp id jO))
theorem SH.Zk{α β:Type}{R:jN α}{R':jN β}{E:TypeId}{v u:Value}{l:List α}{e:List β}(h:SH w0 M K w hp)(i j:Nat)(d:hp i=.rd R v l)(c:hp j=.own R' E u e):fC R w (fun b=>M b\/ob u b) v l:=
 (h.fH i d).sub (fun b a _=>a.elim .inl (fun a=>.inr ⟨j,by rw[c];exact a⟩)) (fun b a _=>a.elim .inl (fun a=>.inr ⟨j,by rw[c];exact a⟩))
theorem fC.upO{α β:Type}{R:jN α}{R':jN β}{E:TypeId}{v u:Value}{l:List α}{d:List β}{i:Nat}(h:fC R w (fun b=>SH.A M hp b\/ob u b) v l):fC R w (SH.A M (bN hp i (.own R' E u d))) v l:=by
  have c:∀b,SH.A M (bN hp i<|.own R' E u d) b->SH.A M hp b\/ob u b:=by
    rintro b(a|⟨j,a⟩)
    · exact .inl<|.inl a
    · by_cases e:j=i
      · subst e;rw[bX]at a;exact .inr a
      · rw[ek e]at a;exact .inl (.inr ⟨j,a⟩)
  exact h.sub (fun b a _=>c b a) fun b a _=>c b a
end
open Go.RowKit
def selK(K:Act->World->Prop)(Q:Exit->Act->World->Prop):Exit->Act->World->Prop
 | .normal,a,w=>K a w
 |e,a,w=>Q e a w
section
variable{P:Program}{ops:Array Oper}
variable{Q:Exit->Act->World->Prop}{n:Nat}{env:Nat->Value}{w w0:World}{M K:BS}{hp:Nat->Chunk}
structure WH(P:Program)(ops:Array Oper)(ws:World)(Q:Exit->Act->World->Prop)(fuel:Nat)(listed:Array Bool)(n:Nat)(env:Nat->Value)(w:World):Prop where
 out:wpAnyH P .any ops (NoPanic Q) (Grow ws) fuel listed (act n env) w
theorem FI{id:Nat}{l:List Oper}(a:P.follows .mixedOrders=true)(b:SH w0 M K w hp)
  (h:∀w,SH w0 M K w hp->WH P l.toArray w Q l.length (Array.replicate l.length false) n env w):WC P (Code.region id l.toArray true) Q n env w:=
 ⟨wp_region_noPanic (wp_region_held (S:=Grow w.drew) a (h _ (b.grow (Grow.drew w))).out)⟩
theorem O3{S S':World->Prop}(c:∀w,S' w->S w):∀(fuel:Nat) (listed:Array Bool) (a:Act) (w:World),wpAnyH P .any ops Q S' fuel listed a w->wpAnyH P .any ops Q S fuel listed a w
 |0,_,_,_,h=>h
 |fuel+1,_,_,_,h=>⟨h.1,fun i d=>wpOp_mono (fun a' w' b=>⟨c _ b.1,O3 c fuel _ a' w' b.2⟩) (h.2 i d)⟩
variable{d:Option Nat}{op:Op}{ty:TypeId}{pos:String}{af:Array Edge}{v:Value}{g:Option (Nat×Bool)}{i fuel:Nat}{listed:Array Bool}
theorem dE:Region.wanted ⟨d,op,ty,pos,af,none⟩ (yielded ops (act n env).tmps)=true:=rfl
theorem Zl{ws:World}{o:Oper}(f:Grow ws w)(b:ops[i]? =some o)(d:Region.noSelect ops=true)(c:Region.free .any ops listed i=true)(a:(Region.ready .any ops listed).contains i=true)
  (e:YieldsIf P ops (Grow ws) o v (act n env)) (h:WH P ops ws Q fuel (listed.setIfInBounds i true) n (fq env o.dst v) w):WH P ops ws Q (fuel+1) listed n env w:=by
 refine⟨wpAnyH_take b d c a (fun _ _ _ h=>h) e f ?_⟩;rw[yP];exact h.out
theorem wh_ok{ws:World}(i:Nat)(m:Grow ws w)(e:ops[i]? =some ⟨d,op,ty,pos,af,g⟩)(b:Region.wanted ⟨d,op,ty,pos,af,g⟩ (yielded ops (act n env).tmps)=true)(k:Region.noSelect ops=true)(f:Region.free .any ops listed i=true)(c:(Region.ready .any ops listed).contains i=true)
  (l:∀a,Grow ws a->(execOp (ev n env) ⟨d,op,ty,pos,af,g⟩).run P a=.ok (.value v) a) (h:WH P ops ws Q fuel (listed.setIfInBounds i true) n (fq env d v) w):WH P ops ws Q (fuel+1) listed n env w:=
 Zl (o:=⟨d,op,ty,pos,af,g⟩) m e k f c (.inl ⟨b,fun a j=>by rw[iK];exact l a j⟩) h
theorem wh_done{ws:World}(a:Region.ready .any ops listed=[])(h:Q .normal (act n env) w):WH P ops ws Q fuel listed n env w:=⟨wpAnyH_done a (NoPanic.normal h) fuel⟩
def after(P:Program)(ops:Array Oper)(ws:World)(Q:Exit->Act->World->Prop)(fuel:Nat)(listed:Array Bool):Exit->Act->World->Prop:=
 selK (fun a' w'=>Grow ws w'/\wpAnyH P .any ops (NoPanic Q) (Grow ws) fuel listed a' w') (NoPanic Q)
theorem oo{ws:World}(a:Grow ws w)(h:WH P ops ws Q fuel listed n env w):after P ops ws Q fuel listed .normal (act n env) w:=⟨a,h.out⟩
theorem Cw{K:Act->World->Prop}{Q1:Exit->Act->World->Prop}(l:ops[i]? =some ⟨d,op,ty,pos,af,g⟩)(k:Region.wanted ⟨d,op,ty,pos,af,g⟩ (yielded ops (act n env).tmps)=true)
    (h:WL P ops (selK K Q1) [⟨d,op,ty,pos,af,none⟩] n env w):wpOp P ops Q1 i K (act n env) w:=by
  unfold wpOp;simp only[l,k,if_true];have b:=h.out;unfold wpList at b;rw[if_pos (show Region.wanted _ _=true from rfl)]at b;rcases b with b|⟨ha,hl⟩
  rotate_left
  · exact .inr ⟨ha,let ⟨a,w,h⟩:=hl;⟨a,w,h⟩⟩
  refine .inl ?_;unfold Oper.wp at b⊢;have e:(execOp (act n env).eval ⟨d,op,ty,pos,af,g⟩)=execOp (act n env).eval ⟨d,op,ty,pos,af,none⟩:=by unfold execOp;rfl
  rw[e];generalize (execOp (act n env).eval ⟨d,op,ty,pos,af,none⟩).run P w=r at b⊢;cases r with
  |ok nx w'=>
    cases nx with
    |value v=>exact b
    |skip=>exact b
    |defer d=>exact b
    |enter f args=>
      refine Calls.mono b fun e m j=>?_;cases e with
      |returned v=>exact j
      |panicked c=>exact j
      |outgrown=>exact j
    |row r args=>exact b
    |_=>exact b
  |halt x w'=>
    cases x<;>exact b
theorem wh_eff{ws:World}(i:Nat)(b:Region.ready .any ops listed=[i])(c:ops[i]? =some ⟨d,op,ty,pos,af,g⟩)(a:Region.wanted ⟨d,op,ty,pos,af,g⟩ (yielded ops (act n env).tmps)=true)
  (h:WL P ops (after P ops ws Q fuel (listed.setIfInBounds i true)) [⟨d,op,ty,pos,af,none⟩] n env w):WH P ops ws Q (fuel+1) listed n env w:=by
 refine⟨wpAnyH_all b zq3 fun k e=>?_⟩;obtain rfl:k=i:=by simpa using e
 exact Cw c a h
theorem VR{ws:World}{m:Option Nat}{e:Op}{c:TypeId}{a:String}{b:Array Edge}{o:Option (Nat×Bool)}(i j:Nat)(q:Region.ready .any ops listed=[i,j])(r:ops[i]? =some ⟨d,op,ty,pos,af,g⟩)(p:Region.wanted ⟨d,op,ty,pos,af,g⟩ (yielded ops (act n env).tmps)=true)
    (s:ops[j]? =some ⟨m,e,c,a,b,o⟩) (f:Region.wanted ⟨m,e,c,a,b,o⟩ (yielded ops (act n env).tmps)=true)
    (h:WL P ops (after P ops ws Q fuel (listed.setIfInBounds i true)) [⟨d,op,ty,pos,af,none⟩] n env w) (t:WL P ops (after P ops ws Q fuel (listed.setIfInBounds j true)) [⟨m,e,c,a,b,none⟩] n env w):WH P ops ws Q (fuel+1) listed n env w:=by
  refine⟨wpAnyH_all q zq3 fun k l=>?_⟩;rcases List.mem_cons.1 l with rfl|l
  · exact Cw r p h
  · obtain rfl:k=j:=by simpa using l
    exact Cw s f t
theorem wh_base{ws:World}(a:Grow ws w)(h:WH P ops w Q fuel listed n env w):WH P ops ws Q fuel listed n env w:=⟨O3 (fun _ h=>a.trans h) _ _ _ _ h.out⟩
variable{w':World}{rest:List Oper}{T:TypeId}{x y:Operand}
theorem wJ{α:Type}{R:jN α}{E:TypeId}{j c:Nat}{a:Array (Nat×Operand)}{len:Nat}{vs:List Value}{xs:List α}(h:SH w0 M K w hp)(i:Nat)(s:pR P T E j c)(r:R.sz=j)
  (v:(a.toList.map fun p=>(p.1,ev n env p.2))=vs.zipIdx.map fun p=>(p.2,p.1)) (e:vs.length=len) (t:Cv R w (SH.A M hp) vs xs) (l:Nat.ble (len*j) 16777216=true)
  (k:∀w' u,SH w0 M K w' (bN hp i (.own R E u xs))->Grow w w'->(∀b,ob u b->w.heap.size<=b)->WL P ops Q rest n (fq env d u) w'):
  WL P ops Q (⟨d,.buildSlice T len a,ty,pos,af,none⟩::rest) n env w:=by
 obtain⟨u,w',x,m,q,o⟩:=Zd (d:=d) (ty:=ty) (pos:=pos) (af:=af) (g:=none) s r v e t h.lt<|Nat.le_of_ble_eq_true l;exact F x<|k w' u (h.DD i m q fun b f=>Nat.le_of_eq<|o b f) m fun b f=>Nat.le_of_eq<|o b f
theorem bG.fresh{a b c:World}{N:BS}(h:Grow a b)(k:bG N b c)(e:∀x,N x->a.heap.size<=x):Grow a c:=h.step k (fun x d f=>by have:=e x d;omega)
end
open Go.RowKit Go.Deep
def BF{α:Type}(P:Program)(T:TypeId)(R:jN α):Prop:=
 ∀(a:Type) (enc:TypeId×Value->a) (w:World) (b:Nat->Bool) (c:Bool) (fuel:Nat) (cs:List Value) (x:DataW a×List MemPlace),DataW.trod enc P w 0 b c fuel T cs=some x->∃d,R.rd w BE cs d
theorem WY{P:Program}{T:TypeId}(d:P.underlying T=some (.int .i64)):BF P T dm:=by
 intro a enc w b c fuel cs x h;obtain⟨n,rfl,_,e⟩:=DataW.trod_int d h;exact⟨n,Z⟩
theorem EL{α:Type}{P:Program}{T E:TypeId}{R:jN α}(ht:P.underlying T=some (.slice E))(M:P.cellsOf E=R.sz)(h:BF P E R):BF P T (zC R):=by
  intro g enc w s G fuel cs x hx;rcases open_slice ht hx with⟨rfl,rfl⟩|⟨a,len,cap,m,n,D,Pl,rfl,_,hl,hm,hmm,rfl,hel⟩
  · exact⟨[],_,Z,ik.nil⟩
  · have a0:len<=m:=by rw[hmm];split<;>omega
    have z:∀i,i<len->∃d:α,∃b o cells c q,a=⟨b,o,none⟩/\w.heap[b]? =some (.cells cells c q)/\R.rd w BE ((cells.toList.drop<|o+i*R.sz).take R.sz) d:=by
      intro i p;obtain⟨l,Q,h2⟩:=hel i V;obtain⟨d,hd⟩:=h g enc w s G n l _ h2;refine⟨d,?_⟩;rw[M]at Q;obtain⟨_,O,r⟩:=World.cells?_some Q;have hp:=R.pos;have B:a.spot=none:=by
        obtain⟨A,S,_⟩:=hel 0 V;rw[M]at S;obtain⟨_,N,Zm⟩:=World.cells?_some S;have K:=Zm 0 hp;rw[Nat.zero_mul,add_add,Nat.zero_add]at K;have:∃v,A[0]? =some v:=⟨A[0]'V,List.getElem?_eq_getElem V⟩;obtain⟨v,L⟩:=this;rw[L]at K;have:=World.cell?_spot K;simpa[Addr.add]using this
      obtain⟨b,o,sp⟩:=a;simp only at B;subst B;have u:∀k,(⟨b,o,none⟩:Addr).add k=⟨b,o+k,none⟩:=by
        intro k;unfold Addr.add;split<;>simp_all
      have y:∀j,j<R.sz->w.cell? ⟨b,o+i*R.sz+j,none⟩=l[j]? :=by
        intro j C;have:=r j C;rw[add_add,u]at this;rw[<-this,Nat.add_assoc]
      have I:=y 0 hp;have L:l[0]? =some (l[0]'V):=List.getElem?_eq_getElem V;rw[L]at I;unfold World.cell? at I;cases t:w.heap[b]? with
      |none=>simp[t]at I
      |some ob=>
        cases ob with
        |cells cells c q=>
          refine⟨b,o,cells,c,q,Z,t,?_⟩;have e:(cells.toList.drop<|o+i*R.sz).take R.sz=l:=by
            apply List.ext_getElem?;intro j;rw[List.getElem?_take,List.getElem?_drop];by_cases C:j<R.sz
            · rw[if_pos C,<-y j C];simp[World.cell?,t]
            · rw[if_neg C,List.getElem?_eq_none V]
          rw[e];exact hd
        |_=>simp[t]at I
    obtain⟨f,hf⟩:∃f:(i:Nat)->i<len->α,∀i p,∃b o cells c q,a=⟨b,o,none⟩/\w.heap[b]? =some (.cells cells c q)/\R.rd w BE ((cells.toList.drop<|o+i*R.sz).take R.sz) (f i p):=
      ⟨fun i p=>Classical.choose (z i p),fun i p=>Classical.choose_spec (z i p)⟩
    refine⟨List.ofFn fun i:Fin len=>f i.val i.isLt,_,Z,some a,cap,by simp,by simpa using hl,hm,(fun h=>by cases h),?_⟩;intro i p;have J:i<len:=by simpa using p
    obtain⟨b,o,cells,c,q,rfl,t,X⟩:=hf i J;refine⟨b,o,cells,c,q,Z,fun h=>h,t,?_⟩;simpa using X
theorem Ma{a:Type}{enc:TypeId×Value->a}{P:Program}{w:World}{b:Nat->Bool}{c:Bool}{T:TypeId}{j:Array Field}{fuel:Nat}{cs:List Value}{x:DataW a×List MemPlace}(m:P.underlying T=some (.struct j))(h:DataW.trod enc P w 0 b c fuel T cs=some x):
    cs.length=P.cellsOf T/\∃n:Nat,∀(i:Nat) (f:Field),j[i]? =some f->∃y:DataW a×List MemPlace,DataW.trod enc P w 0 b c n f.type ((cs.drop f.offset).take (P.cellsOf f.type))=some y:=by
  obtain⟨xs,n,_,_,l,d,k⟩:=DataW.trod_struct m h;refine⟨l,n,fun i f g=>?_⟩;have:=k i f g;have e:i<xs.length:=by
    rw[d];rcases Nat.lt_or_ge i j.size with h1|h1
    · exact h1
    · rw[Array.getElem?_eq_none h1]at g;cases g
  rw[List.getElem?_eq_getElem e]at this;exact⟨_,this⟩
theorem yY{α:Type}{a:Type}{enc:TypeId×Value->a}{P:Program}{w:World}{b:Nat->Bool}{c:Bool}{g:Array Field}{n:Nat}{cs:List Value}{R:jN α}{i:Nat}{f:Field}
  (h:∀(i:Nat) (f:Field),g[i]? =some f->∃y:DataW a×List MemPlace,DataW.trod enc P w 0 b c n (Field.type f) ((cs.drop f.offset).take (P.cellsOf f.type))=some y) (l:g[i]? =some f) (k:P.cellsOf f.type=R.sz) (j:BF P f.type R):
  ∃d,R.rd w BE ((cs.drop f.offset).take R.sz) d:=by
 obtain⟨y,e⟩:=h i f l;rw[k]at e;exact j a enc w b c n _ _ e
theorem cells_one{l:List Value}{o:Nat}{v:Value}(h:(l.drop o).take 1=[v]):l[o]? =some v:=by
 have:=congrArg (fun l=>l[0]?) h;simpa[List.getElem?_take,List.getElem?_drop]using this
theorem EM{α:Type}{l:List α}{n:Nat}(h:l.length=n+1):∃a t,l=a::t/\t.length=n:=by
 cases l with
 |nil=>simp at h
 |cons a t=>exact⟨a,t,rfl,by simpa using h⟩
theorem nobody{w:World}:∀b,BE b->b<w.heap.size:=fun _ h=>h.elim
open Go.RowKit Go.MapKept
def TS(z:Value)(eD:List (Int×Value))(k:Int):Value:=match eD with|[]=>z|p::r=>if k=p.1 then p.2 else TS z r k
def Mc(eD:List (Int×Value))(k:Int)(v:Value):List (Int×Value):=match eD with|[]=>[(k,v)]|p::r=>if k=p.1 then(p.1,v)::r else p::Mc r k v
def WZ(eD:List (Int×Value))(k:Int):Bool:=match eD with|[]=>false|p::r=>if k=p.1 then true else WZ r k
def GD(eD:List (Int×Value))(k:Int)(i:Nat):Option (Nat×Value):=match eD with|[]=>none|p::r=>if k=p.1 then some (i,p.2)else GD r k (i+1)
theorem Af{eD:List (Int×Value)}{k:Int}:∀{a:List MapEntry} {i:Nat},a.map (fun e=>(e.key,e.val))=eD.map (fun p=>(Value.int .i64 p.1,p.2))->
    Instr.findNow (.int .i64) (.int .i64 k) a i=some (GD eD k i):=by
  induction eD with
  |nil=>intro a i h;cases a with|nil=>rfl|cons e r=>simp at h
  |cons p r ih=>
    intro a i h;cases a with
    |nil=>simp at h
    |cons e s=>
      simp only[List.map_cons,List.cons.injEq,Prod.mk.injEq]at h;obtain⟨⟨c,f⟩,d⟩:=h;unfold Instr.findNow GD;by_cases b:k=p.1
      · simp[Instr.sameNow,c,f,b]
      · have:(k==p.1)=false:=by simpa using b
        simp[Instr.sameNow,c,this,b,ih d]
theorem Md{z:Value}{k:Int}:∀{eD:List (Int×Value)} {i:Nat},TS z eD k=match GD eD k i with|some (_,v)=>v|none=>z
  |[],i=>rfl
  |p::r,i=>by
    unfold TS GD;by_cases a:k=p.1
    · simp[a]
    · simp only[a,if_false];exact Md
theorem Jm{k:Int}{v:Value}:∀{eD:List (Int×Value)} {i:Nat},GD eD k i=none->Mc eD k v=eD++[(k,v)]
  |[],i,_=>rfl
  |p::r,i,h=>by
    unfold GD at h;unfold Mc;by_cases a:k=p.1
    · simp[a]at h
    · simp only[a,if_false]at h⊢;rw[Jm h];rfl
theorem Jn{k:Int}{v u:Value}:∀{eD:List (Int×Value)} {i j:Nat},GD eD k i=some (j,u)->i<=j/\∃p,eD[j-i]? =some p/\p.1=k/\Mc eD k v=eD.set (j-i) (k,v)
  |[],i,j,h=>by cases h
  |p::r,i,j,h=>by
    unfold GD at h;unfold Mc;by_cases a:k=p.1
    · simp only[a,if_true,Option.some.injEq,Prod.mk.injEq]at h;obtain⟨rfl,_⟩:=h;refine⟨Nat.le_refl _,p,by simp,a.symm,?_⟩;simp[a]
    · simp only[a,if_false]at h⊢;obtain⟨e,q,c,b,d⟩:=Jn (v:=v) h;refine⟨by omega,q,?_,b,?_⟩
      · rw[show j-i=(j-(i+1))+1 by omega];simpa using c
      · rw[show j-i=(j-(i+1))+1 by omega,d];simp
section
variable{P:Program}{ops:Array Oper}{Q:Exit->Act->World->Prop}{n:Nat}{env:Nat->Value}{w w' w0:World}{M K:BS}{hp:Nat->Chunk}{rest:List Oper}
 {d:Option Nat} {op:Op} {ty:TypeId} {pos:String} {af:Array Edge} {v:Value} {g:Option (Nat×Bool)} {T:TypeId} {ρ:Operand->Value}
structure MapOf(P:Program)(T:TypeId)(z:Value):Prop where
  desc:∃K E,P.underlying T=some (.map K E)/\P.underlying K=some (.int .i64)/\(P.info? E).map (·.zero)=some (some z)
theorem O4:(execOp ρ ⟨d,.makeMap T none,ty,pos,af,g⟩).run P w=.ok (.value (.map (some w.heap.size))) (w.alloc (.map #[] 0)):=by
 simp[execOp,Instr.makeMap,World.alloc,-World.alloc_eq]
theorem VS{e:Bool}{K:TypeId}{k:Int}(a:P.underlying K=some (.int .i64)):(Instr.checkKey e 10000 K (.int .i64 k)).run P w=.ok () w:=
 run_checkKey a (by trivial) e 9999
theorem AL.push{b:Array MapEntry}{c:Nat}(h:AL b c)(k v:Value):AL (b.push {key:=k,val:=v,born:=c}) (c+1):=by
  refine⟨fun e a=>?_,?_⟩
  · simp only[Array.toList_push,List.mem_append,List.mem_singleton]at a;rcases a with a|rfl
    · exact Nat.lt_succ_of_lt<|h.1 e a
    · exact Nat.lt_succ_self c
  · rw[Array.toList_push,List.map_append,List.nodup_append];refine⟨h.2,by simp,fun x d y f=>?_⟩;simp only[List.map_cons,List.map_nil,List.mem_singleton]at f;obtain⟨e,a,rfl⟩:=List.mem_map.1 d;have:=h.1 e a;omega
theorem AL.modify{a:Array MapEntry}{c:Nat}(h:AL a c)(j:Nat)(k v:Value):AL (a.modify j fun e=>{e with key:=k,val:=v}) c:=by
  have e:(a.modify j fun e=>{e with key:=k,val:=v}).toList.map (·.born)=a.toList.map (·.born):=by
    apply List.ext_getElem?;intro i;simp only[List.getElem?_map,Array.getElem?_toList,Array.getElem?_modify];by_cases d:j=i
    · subst d;cases a[j]? <;>simp
    · simp[d]
  refine⟨fun x f=>?_,by rw[e];exact h.2⟩;have:x.born∈(a.modify j fun e=>{e with key:=k,val:=v}).toList.map (·.born):=List.mem_map.2 ⟨x,f,Z⟩;rw[e]at this;obtain⟨y,g,b⟩:=List.mem_map.1 this;rw[<-b];exact h.1 y g
theorem RP{z:Value}{x y:Operand}{b:Nat}{k:Int}{eD:List (Int×Value)}(t:MapOf P T z)(o:ρ x=.map (some b))(s:ρ y=.int .i64 k)(h:BD w b eD):
  (execOp ρ ⟨d,.lookup T x y false,ty,pos,af,g⟩).run P w=.ok (.value (TS z eD k)) w:=by
 obtain⟨K,E,u,j,f⟩:=t.desc;obtain⟨q,a,h,r,A⟩:=h;obtain⟨i,c,l⟩:∃i,P.info? E=some i/\i.zero=some z:=by
  cases c:P.info? E with
  |none=>simp[c]at f
  |some i=>simp[c]at f;exact⟨i,Z,f⟩
 have n:=Af (k:=k) (i:=0) r;have v:(getObj b).run P w=.ok (.map q a) w:=by simp[getObj,Sem.run,h]
 rw[Md (z:=z) (k:=k) (eD:=eD) (i:=0)];simp only[execOp,Instr.lookup,underlying,o,s];have m:=fun e=>VS (P:=P) (w:=w) (e:=e) (K:=K) (k:=k) j;simp only[Sem.run_bind,run_program,Result.andThen_ok,u,Sem.run_pure,v,m,Instr.findKey,underlying,j,n];cases ha:GD eD k 0 with
 |none=>simp[zeroValue,typeInfo,c,l]
 |some p=>simp
theorem Qt{z:Value}{x y u:Operand}{b:Nat}{k:Int}{eD:List (Int×Value)}(hT:MapOf P T z)(L:ev n env x=.map (some b))(N:ev n env y=.int .i64 k)(hu:ev n env u=v)(c:BD w b eD)
    (h:∀w',bG (fun x=>x=b) w w'->BD w' b (Mc eD k v)->WL P ops Q rest n (fq env d undef) w'):
    WL P ops Q (⟨d,.mapUpdate T x y u,ty,pos,af,none⟩::rest) n env w:=by
  obtain⟨K,E,S,G,h3⟩:=hT.desc;obtain⟨f,a,c,m,M⟩:=c;have t:=Af (k:=k) (i:=0) m;have X:(getObj b).run P w=.ok (.map f a) w:=by simp[getObj,Sem.run,c]
  have o:=iq c;have J:=fun e=>VS (P:=P) (w:=w) (e:=e) (K:=K) (k:=k) G;have g:f.toList.length=eD.length:=by have:=congrArg List.length m;simpa using this
  cases ha:GD eD k 0 with
  |none=>
    refine uE (w':=qM w b<|.map (f.push {key:=.int .i64 k,val:=v,born:=a})<|a+1) ?_<|h _ (bG.qM _ _ _) ⟨_,_,rE o,?_,M.push _ _⟩
    · rw[ha]at t;simp only[execOp,Instr.mapUpdate,underlying,L,N,hu];simp only[Sem.run_bind,run_program,Result.andThen_ok,S,Sem.run_pure,X,J,Instr.findKey,underlying,G,t,run_setObj_map _ c];rfl
    · rw[Jm ha];simp[m]
  |some p=>
    obtain⟨j,u0⟩:=p;obtain⟨_,q,A,I,hset⟩:=Jn (v:=v) ha;simp only[Nat.sub_zero]at A hset;have C:j<f.size:=by
      have r:j<eD.length:=by
        rcases Nat.lt_or_ge j eD.length with r|r
        · exact r
        · rw[List.getElem?_eq_none r]at A;cases A
      simpa[<-g]using r
    have s:f[j].key=.int .i64 k:=by
      have O:=congrArg (fun l=>l[j]?) m;simp[A,C]at O;rw[O.1,I]
    refine uE (w':=qM w b<|.map (f.modify j fun e=>{e with key:=.int .i64 k,val:=v}) a) ?_<|h _ (bG.qM _ _ _) ⟨_,_,rE o,?_,M.modify _ _ _⟩
    · rw[ha]at t;have B:(Instr.keyThatStays (.int .i64 k)<|.int .i64 k).run P w=.ok (.int .i64 k) w:=by simp[Instr.keyThatStays,Instr.sameBits]
      simp only[execOp,Instr.mapUpdate,underlying,L,N,hu];simp only[Sem.run_bind,run_program,Result.andThen_ok,S,Sem.run_pure,X,J,Instr.findKey,underlying,G,t,Array.getElem?_eq_getElem C,Option.map_some,Option.getD_some,s,B,run_setObj_map _ c];rfl
    · rw[hset,List.map_set,<-m];apply List.ext_getElem?;intro i;simp only[List.getElem?_map,Array.getElem?_toList,Array.getElem?_modify,List.getElem?_set,List.length_map,Array.length_toList];by_cases R:j=i
      · subst R;simp[C]
      · simp[R]
theorem W9{z:Value}{x y u:Operand}{b:Nat}{k:Int}{eD:List (Int×Value)}(hT:MapOf P T z)(L:ev n env x=.map (some b))(N:ev n env y=.int .i64 k)(hu:ev n env u=v)(c:BD w b eD)
    (h:∀w',bG (fun x=>x=b) w w'->BD w' b (Mc eD k v)->WL P ops Q rest n (fq env d undef) w'):
    WL P ops Q (⟨d,.insert T x y u,ty,pos,af,none⟩::rest) n env w:=by
  obtain⟨K,E,S,G,h3⟩:=hT.desc;obtain⟨f,a,c,m,M⟩:=c;have t:=Af (k:=k) (i:=0) m;have X:(getObj b).run P w=.ok (.map f a) w:=by simp[getObj,Sem.run,c]
  have o:=iq c;have J:=fun e=>VS (P:=P) (w:=w) (e:=e) (K:=K) (k:=k) G;have g:f.toList.length=eD.length:=by have:=congrArg List.length m;simpa using this
  cases ha:GD eD k 0 with
  |none=>
    refine uE (w':=qM w b<|.map (f.push {key:=.int .i64 k,val:=v,born:=a})<|a+1) ?_<|h _ (bG.qM _ _ _) ⟨_,_,rE o,?_,M.push _ _⟩
    · rw[ha]at t;simp only[execOp,Instr.mapUpdate,underlying,L,N,hu];simp only[Sem.run_bind,run_program,Result.andThen_ok,S,Sem.run_pure,X,J,Instr.findKey,underlying,G,t,run_setObj_map _ c];rfl
    · rw[Jm ha];simp[m]
  |some p=>
    obtain⟨j,u0⟩:=p;obtain⟨_,q,A,I,hset⟩:=Jn (v:=v) ha;simp only[Nat.sub_zero]at A hset;have C:j<f.size:=by
      have r:j<eD.length:=by
        rcases Nat.lt_or_ge j eD.length with r|r
        · exact r
        · rw[List.getElem?_eq_none r]at A;cases A
      simpa[<-g]using r
    have s:f[j].key=.int .i64 k:=by
      have O:=congrArg (fun l=>l[j]?) m;simp[A,C]at O;rw[O.1,I]
    refine uE (w':=qM w b<|.map (f.modify j fun e=>{e with key:=.int .i64 k,val:=v}) a) ?_<|h _ (bG.qM _ _ _) ⟨_,_,rE o,?_,M.modify _ _ _⟩
    · rw[ha]at t;have B:(Instr.keyThatStays (.int .i64 k)<|.int .i64 k).run P w=.ok (.int .i64 k) w:=by simp[Instr.keyThatStays,Instr.sameBits]
      simp only[execOp,Instr.mapUpdate,underlying,L,N,hu];simp only[Sem.run_bind,run_program,Result.andThen_ok,S,Sem.run_pure,X,J,Instr.findKey,underlying,G,t,Array.getElem?_eq_getElem C,Option.map_some,Option.getD_some,s,B,run_setObj_map _ c];rfl
    · rw[hset,List.map_set,<-m];apply List.ext_getElem?;intro i;simp only[List.getElem?_map,Array.getElem?_toList,Array.getElem?_modify,List.getElem?_set,List.length_map,Array.length_toList];by_cases R:j=i
      · subst R;simp[C]
      · simp[R]
theorem RQ{k:Int}:∀{eD:List (Int×Value)} {i:Nat},WZ eD k=(GD eD k i).isSome
  |[],i=>rfl
  |p::r,i=>by
    unfold WZ GD;by_cases a:k=p.1
    · simp[a]
    · simp only[a,if_false];exact RQ
theorem Xa{z:Value}{x y:Operand}{b:Nat}{k:Int}{eD:List (Int×Value)}(t:MapOf P T z)(o:ρ x=.map (some b))(s:ρ y=.int .i64 k)(h:BD w b eD):
  (execOp ρ ⟨d,.lookup T x y true,ty,pos,af,g⟩).run P w=.ok (.value (.tuple #[TS z eD k,.bool (WZ eD k)])) w:=by
 obtain⟨K,E,u,j,f⟩:=t.desc;obtain⟨q,a,h,r,A⟩:=h;obtain⟨i,c,l⟩:∃i,P.info? E=some i/\i.zero=some z:=by
  cases c:P.info? E with
  |none=>simp[c]at f
  |some i=>simp[c]at f;exact⟨i,Z,f⟩
 have n:=Af (k:=k) (i:=0) r;have v:(getObj b).run P w=.ok (.map q a) w:=by simp[getObj,Sem.run,h]
 rw[Md (z:=z) (k:=k) (eD:=eD) (i:=0),RQ (i:=0)];simp only[execOp,Instr.lookup,underlying,o,s];have m:=fun e=>VS (P:=P) (w:=w) (e:=e) (K:=K) (k:=k) j;simp only[Sem.run_bind,run_program,Result.andThen_ok,u,Sem.run_pure,v,m,Instr.findKey,underlying,j,n];cases ha:GD eD k 0 with
 |none=>simp[zeroValue,typeInfo,c,l]
 |some p=>simp
def lk{α:Type}(k:Int):List (Int×α)->Option α
 |[]=>none
 |p::r=>if k=p.1 then some p.2 else lk k r
theorem LC{α:Type}{f:α->Value}{z:α}{k:Int}:∀(l:List (Int×α)),TS (f z) (l.map fun p=>(p.1,f p.2)) k=f ((lk k l).getD z)
  |[]=>rfl
  |p::r=>by
    show(if k=p.1 then f p.2 else TS _ _ k)=f ((if k=p.1 then some p.2 else lk k r).getD z);by_cases h:k=p.1
    · simp[h]
    · simp only[h,if_false];exact LC r
theorem VU{α:Type}{f:α->Value}{k:Int}:∀(l:List (Int×α)),WZ (l.map fun p=>(p.1,f p.2)) k=(lk k l).isSome
  |[]=>rfl
  |p::r=>by
    show(if k=p.1 then true else WZ _ k)=(if k=p.1 then some p.2 else lk k r).isSome;by_cases h:k=p.1
    · simp[h]
    · simp only[h,if_false];exact VU r
theorem r_lk2{α:Type}{f:α->Value}{zz:α}{z:Value}{x y:Operand}{b:Nat}{k:Int}{eD:List (Int×Value)}(l:List (Int×α))(h:SH w0 M K w hp)(i:Nat)(n:hp i=.mp b eD)(m:MapOf P T z)(c:ρ x=.map (some b))(j:ρ y=.int .i64 k)(a:z=f zz)(e:eD=l.map fun p=>(p.1,f p.2)):
  (execOp ρ ⟨d,.lookup T x y true,ty,pos,af,g⟩).run P w=.ok (.value (.tuple #[f ((lk k l).getD zz),.bool (lk k l).isSome])) w:=by
 have:=Xa (d:=d) (ty:=ty) (pos:=pos) (af:=af) (g:=g) m c j<|h.TR i n;rw[a,e,LC,VU]at this;exact this
theorem r_lk1{α:Type}{f:α->Value}{zz:α}{z:Value}{x y:Operand}{b:Nat}{k:Int}{eD:List (Int×Value)}(l:List (Int×α))(h:SH w0 M K w hp)(i:Nat)(n:hp i=.mp b eD)(m:MapOf P T z)(c:ρ x=.map (some b))(j:ρ y=.int .i64 k)(a:z=f zz)(e:eD=l.map fun p=>(p.1,f p.2)):
  (execOp ρ ⟨d,.lookup T x y false,ty,pos,af,g⟩).run P w=.ok (.value (f ((lk k l).getD zz))) w:=by
 have:=RP (d:=d) (ty:=ty) (pos:=pos) (af:=af) (g:=g) m c j<|h.TR i n;rw[a,e,LC]at this;exact this
theorem FJ(h:SH w0 M K w hp)(i:Nat)(k:∀w' b,SH w0 M K w' (bN hp i (.mp b []))->WL P ops Q rest n (fq env d (.map (some b))) w'):WL P ops Q (⟨d,.makeMap T none,ty,pos,af,none⟩::rest) n env w:=
 F O4 (k _ _ (h.learn i (Grow.alloc _ _) (fun b a=>Nat.le_of_eq a.symm) ⟨#[],0,Cu _ _,rfl,by simp[AL]⟩))
theorem SH.mpSet{b:Nat}{eD oD:List (Int×Value)}(h:SH w0 M K w hp)(i:Nat)(c:hp i=.mp b eD)(e:bG (fun x=>x=b) w w')(d:BD w' b oD):SH w0 M K w' (bN hp i (.mp b oD)):=
 h.step i e (fun x a _=>by rw[c];exact a) (fun x a _=>by rw[c];exact a) d
theorem qi{z:Value}{x y u:Operand}{b:Nat}{k:Int}{eD oD:List (Int×Value)}(h:SH w0 M K w hp)(i:Nat)(a:hp i=.mp b eD)(m:MapOf P T z)(e:ev n env x=.map (some b))(l:ev n env y=.int .i64 k)(o:ev n env u=v)(j:Mc eD k v=oD)
  (g:∀w',SH w0 M K w' (bN hp i (.mp b oD))->WL P ops Q rest n (fq env d undef) w'):WL P ops Q (⟨d,.insert T x y u,ty,pos,af,none⟩::rest) n env w:=
 W9 m e l o (h.TR i a) fun w' f c=>g w' (h.mpSet i a f (j▸c))
theorem EN{z:Value}{x y u:Operand}{b:Nat}{k:Int}{eD oD:List (Int×Value)}(h:SH w0 M K w hp)(i:Nat)(a:hp i=.mp b eD)(m:MapOf P T z)(e:ev n env x=.map (some b))(l:ev n env y=.int .i64 k)(o:ev n env u=v)(j:Mc eD k v=oD)
  (g:∀w',SH w0 M K w' (bN hp i (.mp b oD))->WL P ops Q rest n (fq env d undef) w'):WL P ops Q (⟨d,.mapUpdate T x y u,ty,pos,af,none⟩::rest) n env w:=
 Qt m e l o (h.TR i a) fun w' f c=>g w' (h.mpSet i a f (j▸c))
end
theorem SH.O5{w:World}{M K:BS}{hp:Nat->Chunk}{w0:World}{b:Nat}{cs:List Value}(h:SH w0 M K w hp)(i:Nat)(ho:∃E,w.heap[b]? =some (.cells cs.toArray E (0,0)))(hn:∀b,¬gN hp b):SH w0 M K w (bN hp i (.pt b 0 cs)):=by
 obtain⟨E,ho⟩:=ho;exact h.know i (fun _ h=>h) ⟨hn b,_,_,_,ho,by simp⟩
open Go.RowKit
def hasB(s:Str)(c:UInt8):Bool:=decide (0<=Go.Lib.indexByte s c)
section
variable{P:Program}{ops:Array Oper}{Q:Exit->Act->World->Prop}{n:Nat}{env:Nat->Value}{w:World}{rest:List Oper}
 {d:Option Nat} {ty:TypeId} {pos:String} {af:Array Edge} {v:Value} {x:Operand}
theorem FK{f:FuncId}(c:List Value){xs:Array Operand}{r:Array TypeId}{args:List Value}{j dj:Nat}{b a:Bool}(i:Bool)(o:(ops[j]?).bind (·.dst)=some dj)(m:ev n env (.tmp dj)=gv i (.bool b))(u:Ih P f)(y:(i&&(b==a))=true->ev n env x=.func (.func f) #[] c.toArray)
    (t:(i&&(b==a))=true->xs.toList.map (ev n env)++c=args) (s:Calls P f args.toArray w (fun e w'=>Grow w w'/\e=.returned v))
    (k:∀w',Grow w w'->WL P ops Q rest n (fq env d (gv (i&&(b==a)) v)) w'):
    WL P ops Q (⟨d,.call {callee:=.value x,args:=xs,argTypes:=r},ty,pos,af,some (j,a)⟩::rest) n env w:=by
  by_cases g:(i&&(b==a))=true
  · have p:=gl g;have z:=gr g;rw[ed p]at m;have q:b=a:=by simpa using z
    subst q;refine KU o m<|cO u (y g) (by simpa using t g) s ?_;rintro e w'⟨A,rfl⟩;refine⟨_,Z,?_⟩;have:=k w' A;rw[ed g]at this;exact this
  · have l:(i&&(b==a))=false:=by simpa using g
    have h:=k w<|bG.refl _ _;rw[l]at h;cases i with
    |true=>exact jy o m (by simpa using l) h
    |false=>exact VM o m h
theorem Me{f:FuncId}(a:List Value){xs:Array Operand}{p:Array TypeId}{args:List Value}{j dj:Nat}{b c:Bool}(q:(ops[j]?).bind (·.dst)=some dj)(i:ev n env (.tmp dj)=.bool b)(m:Ih P f)(o:(b==c)=true->ev n env x=.func (.func f) #[] a.toArray)
    (l:(b==c)=true->xs.toList.map (ev n env)++a=args) (g:Calls P f args.toArray w (fun e w'=>Grow w w'/\e=.returned v))
    (k:∀w',Grow w w'->WL P ops Q rest n (fq env d (gv (b==c) v)) w'):
    WL P ops Q (⟨d,.call {callee:=.value x,args:=xs,argTypes:=p},ty,pos,af,some (j,c)⟩::rest) n env w:=
  FK a true q i m (fun h=>o (by simpa using h)) (fun h=>l (by simpa using h)) g (by simpa using k)
end
open Go.RowKit Go.Deep
def BG{α:Type}(P:Program)(T:TypeId)(R:jN α)(m:Nat):Prop:=
 ∀(a:Type) (enc:TypeId×Value->a) (w:World) (b:Nat->Bool) (c:Bool) (fuel:Nat) (cs:List Value) (x:DataW a×List MemPlace),fuel<=m->DataW.trod enc P w 0 b c fuel T cs=some x->∃d,R.rd w BE cs d
theorem BF.to{α:Type}{P:Program}{T:TypeId}{R:jN α}(h:BF P T R)(m:Nat):BG P T R m:=fun a enc w b c fuel cs x _ d=>h a enc w b c fuel cs x d
theorem Zn{α:Type}{P:Program}{T:TypeId}{R:jN α}(h:∀m,BG P T R m):BF P T R:=fun a enc w b c fuel cs x d=>h fuel a enc w b c fuel cs x (Nat.le_refl _) d
theorem BG.le{α:Type}{P:Program}{T:TypeId}{R:jN α}{m n:Nat}(h:BG P T R m)(hn:n<=m):BG P T R n:=fun a enc w b c fuel cs x d e=>h a enc w b c fuel cs x (Nat.le_trans d hn) e
theorem Gr{α:Type}{P:Program}{T E:TypeId}{R:jN α}{m0:Nat}(ht:P.underlying T=some (.slice E))(X:P.cellsOf E=R.sz)(h:BG P E R m0):BG P T (zC R) m0:=by
  intro g enc w p r fuel cs x a1 hx;rcases DataW.trod_slice ht hx with⟨rfl,rfl⟩|⟨a,len,cap,elems,rest,n,hfe,rfl,rfl,_,hl,hm,A,hel0,_,_⟩
  · exact⟨[],_,Z,ik.nil⟩
  · have J:∀i,i<len->∃m,w.cells? 0 (a.add<|i*P.cellsOf E) (P.cellsOf E)=some m/\∃y,DataW.trod enc P w 0 p r n E m=some y:=by
      intro i q;have:=hel0 i q;rw[List.getElem?_eq_getElem V]at this;obtain⟨c,M,S⟩:=Option.bind_eq_some_iff.1 this;exact⟨c,M,_,S⟩
    have C:∀i,i<len->∃d:α,∃b o cells l t,a=⟨b,o,none⟩/\w.heap[b]? =some (.cells cells l t)/\R.rd w BE ((cells.toList.drop<|o+i*R.sz).take R.sz) d:=by
      intro i q;obtain⟨m,M,y,S⟩:=J i V;obtain⟨d,hd⟩:=h g enc w p r n m _ V S;refine⟨d,?_⟩;rw[X]at M;obtain⟨_,A,s⟩:=World.cells?_some M;have hp:=R.pos;have K:a.spot=none:=by
        obtain⟨G,g1,_⟩:=J 0 V;rw[X]at g1;obtain⟨_,a0,Zm⟩:=World.cells?_some g1;have O:=Zm 0 hp;rw[Nat.zero_mul,add_add,Nat.zero_add]at O;have:∃v,G[0]? =some v:=⟨G[0]'V,List.getElem?_eq_getElem V⟩;obtain⟨v,Q⟩:=this;rw[Q]at O;have:=World.cell?_spot O;simpa[Addr.add]using this
      obtain⟨b,o,sp⟩:=a;simp only at K;subst K;have z:∀k,(⟨b,o,none⟩:Addr).add k=⟨b,o+k,none⟩:=by
        intro k;unfold Addr.add;split<;>simp_all
      have B:∀j,j<R.sz->w.cell? ⟨b,o+i*R.sz+j,none⟩=m[j]? :=by
        intro j I;have:=s j I;rw[add_add,z]at this;rw[<-this,Nat.add_assoc]
      have L:=B 0 hp;have Q:m[0]? =some (m[0]'V):=List.getElem?_eq_getElem V;rw[Q]at L;unfold World.cell? at L;cases u:w.heap[b]? with
      |none=>simp[u]at L
      |some ob=>
        cases ob with
        |cells cells l t=>
          refine⟨b,o,cells,l,t,Z,u,?_⟩;have e:(cells.toList.drop<|o+i*R.sz).take R.sz=m:=by
            apply List.ext_getElem?;intro j;rw[List.getElem?_take,List.getElem?_drop];by_cases I:j<R.sz
            · rw[if_pos I,<-B j I];simp[World.cell?,u]
            · rw[if_neg I,List.getElem?_eq_none V]
          rw[e];exact hd
        |_=>simp[u]at L
    obtain⟨f,hf⟩:∃f:(i:Nat)->i<len->α,∀i q,∃b o cells l t,a=⟨b,o,none⟩/\w.heap[b]? =some (.cells cells l t)/\R.rd w BE ((cells.toList.drop<|o+i*R.sz).take R.sz) (f i q):=
      ⟨fun i q=>Classical.choose (C i q),fun i q=>Classical.choose_spec (C i q)⟩
    refine⟨List.ofFn fun i:Fin len=>f i.val i.isLt,_,Z,some a,cap,by simp,by simpa using hl,hm,(fun h=>by cases h),?_⟩;intro i q;have N:i<len:=by simpa using q
    obtain⟨b,o,cells,l,t,rfl,u,hr⟩:=hf i N;refine⟨b,o,cells,l,t,Z,fun h=>h,u,?_⟩;simpa using hr
theorem Im{a:Type}{enc:TypeId×Value->a}{P:Program}{w:World}{b:Nat->Bool}{c:Bool}{T:TypeId}{k:Array Field}{fuel:Nat}{cs:List Value}{x:DataW a×List MemPlace}(o:P.underlying T=some (.struct k))(h:DataW.trod enc P w 0 b c fuel T cs=some x):
    cs.length=P.cellsOf T/\∃n:Nat,fuel=n+1/\∀(i:Nat) (f:Field),k[i]? =some f->∃y:DataW a×List MemPlace,DataW.trod enc P w 0 b c n f.type ((cs.drop f.offset).take (P.cellsOf f.type))=some y:=by
  obtain⟨xs,n,e,_,m,d,l⟩:=DataW.trod_struct o h;refine⟨m,n,e,fun i f j=>?_⟩;have:=l i f j;have g:i<xs.length:=by
    rw[d];rcases Nat.lt_or_ge i k.size with h1|h1
    · exact h1
    · rw[Array.getElem?_eq_none h1]at j;cases j
  rw[List.getElem?_eq_getElem g]at this;exact⟨_,this⟩
theorem rU{α:Type}{a:Type}{enc:TypeId×Value->a}{P:Program}{w:World}{b:Nat->Bool}{c:Bool}{g:Array Field}{n:Nat}{cs:List Value}{R:jN α}{i:Nat}{f:Field}
  (h:∀(i:Nat) (f:Field),g[i]? =some f->∃y:DataW a×List MemPlace,DataW.trod enc P w 0 b c n (Field.type f) ((cs.drop f.offset).take (P.cellsOf f.type))=some y) (l:g[i]? =some f) (k:P.cellsOf f.type=R.sz) (j:BG P f.type R n):
  ∃d,R.rd w BE ((cs.drop f.offset).take R.sz) d:=by
 obtain⟨y,e⟩:=h i f l;rw[k]at e;exact j a enc w b c n _ _ (Nat.le_refl _) e
open Go.RowKit
section
variable{P:Program}{ops:Array Oper}{Q:Exit->Act->World->Prop}{n:Nat}{env:Nat->Value}{w w' w0:World}{M K:BS}{hp:Nat->Chunk}{rest:List Oper}
 {d:Option Nat} {op:Op} {ty:TypeId} {pos:String} {af:Array Edge} {v:Value} {g:Option (Nat×Bool)} {T:TypeId} {ρ:Operand->Value}
theorem Xb(w:World)(dT q ty e:TypeId)(i:TypeInfo)(g o d h:Nat)(a:Addr)(c k:Nat)(b:Array Value)(t:TypeId)(cs:List Value)
  (s:P.underlying dT=some (.slice e)) (n:P.info? e=some i)
  (r:w.heap[g]? =some (.cells b t (0,0))) (hn:cs.length=Nat.min c d*i.size)
  (f:∀j v,cs[j]? =some v->w.cell? (a.add j)=some v) (l:o+cs.length<=b.size) (p:∀v∈cs,v.oneCell'=true):
  (Builtin.copy_ #[dT,q] ty #[.slice (some ⟨g,o,none⟩) d h,.slice (some a) c k]).run P w=
   .ok (goInt (Nat.min c d)) (w.setRow g (b.toList.take o++cs++b.toList.drop (o+cs.length)).toArray):=by
 have u:=run_loadCells_list (P:=P) w a cs f;have m:=run_storeCells_at P g o t cs 0 b w r (by simpa using l) p;simp[Builtin.copy_,run_underlying s,Builtin.lenOf,Builtin.firstCells,sizeOf,typeInfo,n,<-hn,u,m]
theorem TT{x y:Operand}{E B:TypeId}{b k l cap o p C m c:Nat}{a news:List Value}{A:Addr}(I:pR P T E b k)(q:Raw w l cap b E a)(L:ev n env x=.slice (some ⟨l,o*b,none⟩) p C)(J:ev n env y=.slice (some A) m c)
  (G:news.length=Nat.min m p*b) (g:∀j u,news[j]? =some u->w.cell? (A.add j)=some u) (O:∀u∈news,u.oneCell'=true) (s:o+Nat.min m p<=cap)
  (h:∀w',bG (fun x=>x=l) w w'->Raw w' l cap b E (a.take (o*b)++news++a.drop (o*b+news.length))->WL P ops Q rest n (fq env d (.int .i64 (Nat.min m p:Nat))) w'):
  WL P ops Q (⟨d,.call {callee:=.builtin .copy,args:= #[x,y],argTypes:= #[T,B]},ty,pos,af,none⟩::rest) n env w:=by
 obtain⟨i,z,N,R,t,M,K⟩:=I.info;have f:=q.len;have v:o*b+news.length<=cap*b:=by rw[G,<-Nat.add_mul];exact Nat.mul_le_mul_right _ s
 have e:=Xb (P:=P) w T B ty E i l (o*b) p C A m c a.toArray E news I.desc N q.blk (by rw[t];exact G) g (by simpa[f]using v) O;rw[KW q.blk]at e;have r:(execOp (ev n env) ⟨d,.call {callee:=.builtin .copy,args:= #[x,y],argTypes:= #[T,B]},ty,pos,af,none⟩).run P w=.ok (.value<|.int .i64 (Nat.min m p:Nat)) (qM w l<|.cells (a.take (o*b)++news++a.drop (o*b+news.length)).toArray E (0,0)):=by
  simp only[execOp,resolve,invoke,builtin,Sem.run_bind,Sem.run_pure,Result.andThen_ok,List.map_toArray,List.map_cons,List.map_nil,L,J,e];rfl
 refine F r<|h _ (bG.qM _ _ _) ⟨rE<|iq q.blk,?_,q.le⟩;rw[List.length_append,List.length_append,List.length_take,List.length_drop,f];omega
end
open Go.RowKit
section
variable{P:Program}{ops:Array Oper}
variable{Q:Exit->Act->World->Prop}{n:Nat}{env:Nat->Value}{w w0:World}{M K:BS}{hp:Nat->Chunk}
structure Mf(P:Program)(ops:Array Oper)(L:BS)(ws:World)(Q:Exit->Act->World->Prop)(fuel:Nat)(listed:Array Bool)(n:Nat)(env:Nat->Value)(w:World):Prop where
 out:wpAnyH P .any ops (NoPanic Q) (bG L ws) fuel listed (act n env) w
theorem kC{L:BS}{id:Nat}{l:List Oper}(a:P.follows .mixedOrders=true)(b:SH w0 M K w hp)
  (h:∀w,SH w0 M K w hp->Mf P l.toArray L w Q l.length (Array.replicate l.length false) n env w):WC P (Code.region id l.toArray true) Q n env w:=
 ⟨wp_region_noPanic (wp_region_held (S:=bG L w.drew) a (h _ (b.grow (Grow.drew w))).out)⟩
variable{d:Option Nat}{op:Op}{ty:TypeId}{pos:String}{af:Array Edge}{v:Value}{g:Option (Nat×Bool)}{i fuel:Nat}{listed:Array Bool}
theorem Xc{L:BS}{ws:World}{o:Oper}(f:bG L ws w)(b:ops[i]? =some o)(d:Region.noSelect ops=true)(c:Region.free .any ops listed i=true)(a:(Region.ready .any ops listed).contains i=true)
  (e:YieldsIf P ops (bG L ws) o v (act n env)) (h:Mf P ops L ws Q fuel (listed.setIfInBounds i true) n (fq env o.dst v) w):Mf P ops L ws Q (fuel+1) listed n env w:=by
 refine⟨wpAnyH_take b d c a (fun _ _ _ h=>h) e f ?_⟩;rw[yP];exact h.out
theorem Zo{L:BS}{ws:World}(i:Nat)(m:bG L ws w)(e:ops[i]? =some ⟨d,op,ty,pos,af,g⟩)(b:Region.wanted ⟨d,op,ty,pos,af,g⟩ (yielded ops (act n env).tmps)=true)(k:Region.noSelect ops=true)(f:Region.free .any ops listed i=true)(c:(Region.ready .any ops listed).contains i=true)
  (l:∀a,bG L ws a->(execOp (ev n env) ⟨d,op,ty,pos,af,g⟩).run P a=.ok (.value v) a) (h:Mf P ops L ws Q fuel (listed.setIfInBounds i true) n (fq env d v) w):Mf P ops L ws Q (fuel+1) listed n env w:=
 Xc (o:=⟨d,op,ty,pos,af,g⟩) m e k f c (.inl ⟨b,fun a j=>by rw[iK];exact l a j⟩) h
theorem Zp{L:BS}{ws:World}(a:Region.ready .any ops listed=[])(h:Q .normal (act n env) w):Mf P ops L ws Q fuel listed n env w:=⟨wpAnyH_done a (NoPanic.normal h) fuel⟩
def Mg(P:Program)(ops:Array Oper)(L:BS)(ws:World)(Q:Exit->Act->World->Prop)(fuel:Nat)(listed:Array Bool):Exit->Act->World->Prop:=
 selK (fun a' w'=>bG L ws w'/\wpAnyH P .any ops (NoPanic Q) (bG L ws) fuel listed a' w') (NoPanic Q)
theorem aM{L:BS}{ws:World}(a:bG L ws w)(h:Mf P ops L ws Q fuel listed n env w):Mg P ops L ws Q fuel listed .normal (act n env) w:=⟨a,h.out⟩
theorem whk_eff{L:BS}{ws:World}(i:Nat)(b:Region.ready .any ops listed=[i])(c:ops[i]? =some ⟨d,op,ty,pos,af,g⟩)(a:Region.wanted ⟨d,op,ty,pos,af,g⟩ (yielded ops (act n env).tmps)=true)
  (h:WL P ops (Mg P ops L ws Q fuel (listed.setIfInBounds i true)) [⟨d,op,ty,pos,af,none⟩] n env w):Mf P ops L ws Q (fuel+1) listed n env w:=by
 refine⟨wpAnyH_all b zq3 fun k e=>?_⟩;obtain rfl:k=i:=by simpa using e
 exact Cw c a h
theorem mq{L:BS}{ws:World}{m:Option Nat}{e:Op}{c:TypeId}{a:String}{b:Array Edge}{o:Option (Nat×Bool)}(i j:Nat)(q:Region.ready .any ops listed=[i,j])(t:ops[i]? =some ⟨d,op,ty,pos,af,g⟩)(p:Region.wanted ⟨d,op,ty,pos,af,g⟩ (yielded ops (act n env).tmps)=true)
    (r:ops[j]? =some ⟨m,e,c,a,b,o⟩) (f:Region.wanted ⟨m,e,c,a,b,o⟩ (yielded ops (act n env).tmps)=true)
    (h:WL P ops (Mg P ops L ws Q fuel (listed.setIfInBounds i true)) [⟨d,op,ty,pos,af,none⟩] n env w) (s:WL P ops (Mg P ops L ws Q fuel (listed.setIfInBounds j true)) [⟨m,e,c,a,b,none⟩] n env w):Mf P ops L ws Q (fuel+1) listed n env w:=by
  refine⟨wpAnyH_all q zq3 fun k l=>?_⟩;rcases List.mem_cons.1 l with rfl|l
  · exact Cw t p h
  · obtain rfl:k=j:=by simpa using l
    exact Cw r f s
end
theorem bG.Zq{a b c:World}{L N:BS}(h:bG L a b)(k:bG N b c)(e:∀x,N x->a.heap.size<=x):bG L a c:=h.step k (fun x d f=>by have:=e x d;omega)
theorem bG.same{a b c:World}{L:BS}(h:bG L a b)(k:bG L b c):bG L a c:=h.step k (fun _ d _=>d)
section
variable{P:Program}{ops:Array Oper}{Q:Exit->Act->World->Prop}{n:Nat}{env:Nat->Value}{w w' w0:World}{M K:BS}{hp:Nat->Chunk}{rest:List Oper}
 {d:Option Nat} {op:Op} {ty:TypeId} {pos:String} {af:Array Edge} {v:Value} {g:Option (Nat×Bool)} {T:TypeId} {ρ:Operand->Value} {x y:Operand}
theorem Zr{α:Type}{R:jN α}{E:TypeId}{N:Nat}{l:List α}{k:Int}{a a':α}{b off:Nat}{z u:Value}(h:SH w0 M K w hp)(i:Nat)(s:hp i=.own R E u l)(t:ob u b)(X:R.sz=N)(r:l[k.toNat]? =some a)(hT:One P T z)(c:ev n env x=.pointer (some ⟨b,k.toNat*N+off,none⟩))
    (hy:ev n env y=v) (h1:v.oneCell'=true) (q:Nat.blt off N=true) (hset:∀cs,R.rd w (SH.A M hp) cs a->R.rd w (SH.A M hp) (cs.set off v) a')
    (kk:∀w',SH w0 M K w' (bN hp i (.own R E u (l.set k.toNat a')))->bG (ob u) w w'->WL P ops Q rest n (fq env d undef) w'):
    WL P ops Q (⟨d,.store T x y,ty,pos,af,none⟩::rest) n env w:=by
  subst X;rw[Nat.blt_eq]at q;have m:k.toNat<l.length:=by
    rcases Nat.lt_or_ge k.toNat l.length with h|h
    · exact h
    · rw[List.getElem?_eq_none h]at r;cases r
  have J:l[k.toNat]=a:=by rw[List.getElem?_eq_getElem m]at r;exact Option.some.inj r
  generalize k.toNat=k at*;have e:∀b,ob u b->SH.A M hp b:=fun b t=>.inr ⟨i,by rw[s];exact t⟩;obtain⟨xs,O,q3⟩:=h.dS i s;rcases O.2 with⟨rfl,hn⟩|⟨g',cap,cur,rfl,e1,e2,e3,e4,e5,e6⟩
  · omega
  have B:b=g':=t;subst B;have G:(k+1)*R.sz<=l.length*R.sz:=Nat.mul_le_mul_right _ m;have a0:l.length*R.sz<=cap*R.sz:=Nat.mul_le_mul_right _ e3;rw[Nat.add_mul]at G;have I:k*R.sz+off<cur.size:=by omega
  have g:=bG.qM w b<|.cells (cur.setIfInBounds (k*R.sz+off) v) E (0,0);refine uE (Ig hT c e2 I hy h1) (kk _ (h.step i g (fun x c _=>by rw[s];exact c) (fun x c _=>by rw[s];exact c) ⟨xs.set (k*R.sz+off) v,⟨?_,.inr ⟨b,cap,cur.setIfInBounds (k*R.sz+off) v,?_,e1,?_,?_,e4,?_,?_⟩⟩,?_⟩) (g.weaken (fun x c _=>c)))
  · rw[List.length_set,List.length_set];exact O.1
  · rw[List.length_set]
  · rw[rE (iq e2)]
  · rw[List.length_set];exact e3
  · simpa using e5
  · rw[List.length_set,Array.toList_setIfInBounds,List.take_set,e6]
  · intro f L;have C:f<l.length:=by rwa[List.length_set]at L
    have o:=fun cs a(h:R.rd w (SH.A M hp) cs a)=>R.go (A':=fun x=>(M x\/(SH.av hp i (.own R E (.slice (some ⟨b,0,none⟩) l.length cap) (l.set k a'))) x)\/ob (.slice (some ⟨b,0,none⟩) l.length cap) x) h g (fun x c _=>e x c) (fun x c _=>by
      rcases c with(c|c|c)|c
      · exact .inl c
      · exact .inr<|jO c
      · exact e x c
      · exact e x c)
    have S:=fun j(hj:j<l.length)=>R.go (A':=SH.A M hp) (q3 j hj) (bG.refl BE w) (fun _ h=>h.elim) fun x c _=>.inl c;by_cases p:f=k
    · subst p;rw[List.getElem_set_self,Gp rfl];exact o _ _<|hset _<|J▸S f m
    · rw[List.getElem_set_ne (Ne.symm p),EJ]
      · exact o _ _<|S f C
      · rcases Nat.lt_or_ge k f with h5|h5
        · left;have:(k+1)*R.sz<=f*R.sz:=Nat.mul_le_mul_right _ h5;rw[Nat.add_mul]at this;omega
        · right;have:(f+1)*R.sz<=k*R.sz:=Nat.mul_le_mul_right _ V;rw[Nat.add_mul]at this;omega
end
open Go.RowKit
section
variable{w0 w:World}{M K:BS}{hp:Nat->Chunk}{α:Type}{R:jN α}
theorem SH.gK(h:SH w0 M K w hp)(i:Nat):SH w0 M K w (bN hp i .no):=h.step i (bG.refl BE w) (fun _ h=>h.elim) (fun _ h=>h.elim) U
variable{P:Program}{T T2 ty:TypeId}{ρ:Operand->Value}{d:Option Nat}{pos:String}{af:Array Edge}{g:Option (Nat×Bool)}{x y:Operand}{v:Value}{A:BS}{o:Option α}
def PtrTo(P:Program)(T:TypeId):Prop:=∃E,P.underlying T=some (.pointer E)
theorem PtrTo.p(a:PtrTo P T):P.underlying T=some (.pointer (P.pointee T)):=by
 obtain⟨E,a⟩:=a;simp[Program.pointee,a]
end
open Go.RowKit
def Chunk.Io:Chunk->Prop
 | .sr .. =>False
 | .pt .. =>False
 | .two a b=>a.Io/\b.Io
 |_=>True
theorem Chunk.re{c:Chunk}{w:World}{M O i j:BS}(e:c.Io)(h:c.holds w M O)(d:∀b,i b\/j b->b<w.heap.size->M b\/O b):c.holds w i j:=by
 induction c with
 |no=>trivial
 |rd R v l=>exact ik.sub h d d
 |sr R v l=>exact e.elim
 |pt b o cs=>exact e.elim
 |blk b cs=>exact h
 |own R E v l=>exact eP.go h (bG.refl BE w) (fun _ h=>h.elim) (fun _ h=>h.elim) (fun b f g=>.inl (d b f g))
 |rp R v x=>exact R.go h (bG.refl BE w) (fun _ h=>h.elim) d
 |two a b iha ihb=>exact⟨iha e.1 h.1,ihb e.2 h.2.1,h.2.2⟩
 |dn S=>exact S.go h (bG.refl BE w) (fun _ h=>h.elim) (fun _ h=>h.elim) (fun b f g=>.inl (d b f g))
 |mp b eD=>exact h
section
variable{w0 w w':World}{M K:BS}{hp:Nat->Chunk}
theorem SH.pair(h:SH w0 M K w hp)(i j:Nat)(l:i≠j):SH w0 M K w (bN (bN hp j .no) i (.two (hp i) (hp j))):=by
  have d:∀x b,(bN (bN hp j .no) i (.two (hp i)<|hp j) x).own' b->(x=i/\((hp i).own' b\/(hp j).own' b))\/(x≠i/\x≠j/\(hp x).own' b):=by
    intro x b a;by_cases e:x=i
    · subst e;rw[bX]at a;exact .inl ⟨Z,a⟩
    · rw[ek e]at a;by_cases f:x=j
      · subst f;rw[bX]at a;exact a.elim
      · rw[ek f]at a;exact .inr ⟨e,f,a⟩
  have c:∀b,gN (bN (bN hp j .no) i<|.two (hp i)<|hp j) b->gN hp b:=by
    rintro b⟨x,k⟩;rcases d x b k with⟨_,h1|h1⟩|⟨_,_,h1⟩
    · exact⟨i,h1⟩
    · exact⟨j,h1⟩
    · exact⟨x,h1⟩
  refine⟨h.keep,h.ltM,fun x b a=>?_,fun x=>?_,fun x y g b k m=>?_,fun x b a=>?_⟩
  · rcases d x b a with⟨_,h1|h1⟩|⟨_,_,h1⟩
    · exact h.TQ i b h1
    · exact h.TQ j b h1
    · exact h.TQ x b h1
  · by_cases e:x=i
    · subst e;rw[bX];exact⟨Chunk.sub (h.ok x) fun b a _=>c b a,Chunk.sub (h.ok j) fun b a _=>c b a,fun b a=>h.apart x j l b a⟩
    · rw[ek e];by_cases f:x=j
      · subst f;rw[bX];trivial
      · rw[ek f];exact Chunk.sub (h.ok x) (fun b a _=>c b a)
  · rcases d x b k with⟨e1,h1⟩|⟨e1,e1',h1⟩<;>rcases d y b m with⟨f,h2⟩|⟨f,e2',h2⟩
    · exact g<|e1.trans f.symm
    · rcases h1 with h1|h1
      · exact h.apart i y (fun e=>f e.symm) b h1 h2
      · exact h.apart j y (fun e=>e2' e.symm) b h1 h2
    · rcases h2 with h2|h2
      · exact h.apart x i e1 b h1 h2
      · exact h.apart x j e1' b h1 h2
    · exact h.apart x y g b h1 h2
  · rcases d x b a with⟨_,h1|h1⟩|⟨_,_,h1⟩
    · exact h.old i b h1
    · exact h.old j b h1
    · exact h.old x b h1
theorem SH.Zt{a c:Chunk}(h:SH w0 M K w hp)(i j:Nat)(r:i≠j)(p:hp i=.two a c)(t:hp j=.no):SH w0 M K w (bN (bN hp i a) j c):=by
  have l:∀x b,(bN (bN hp i a) j c x).own' b->(x=i/\a.own' b)\/(x=j/\c.own' b)\/(x≠i/\x≠j/\(hp x).own' b):=by
    intro x b d;by_cases e:x=j
    · subst e;rw[bX]at d;exact .inr (.inl ⟨Z,d⟩)
    · rw[ek e]at d;by_cases f:x=i
      · subst f;rw[bX]at d;exact .inl ⟨Z,d⟩
      · rw[ek f]at d;exact .inr (.inr ⟨f,e,d⟩)
  have n:∀b,a.own' b->(hp i).own' b:=fun b d=>by rw[p];exact .inl d
  have o:∀b,c.own' b->(hp i).own' b:=fun b d=>by rw[p];exact .inr d
  have k:∀b,gN (bN (bN hp i a) j c) b->gN hp b:=by
    rintro b⟨x,q⟩;rcases l x b q with⟨_,h1⟩|⟨_,h1⟩|⟨_,_,h1⟩
    · exact⟨i,n b h1⟩
    · exact⟨i,o b h1⟩
    · exact⟨x,h1⟩
  have g:=h.ok i;rw[p]at g;refine⟨h.keep,h.ltM,fun x b d=>?_,fun x=>?_,fun x y m b q s=>?_,fun x b d=>?_⟩
  · rcases l x b d with⟨_,h1⟩|⟨_,h1⟩|⟨_,_,h1⟩
    · exact h.TQ i b<|n b h1
    · exact h.TQ i b<|o b h1
    · exact h.TQ x b h1
  · by_cases e:x=j
    · subst e;rw[bX];exact Chunk.sub g.2.1 (fun b d _=>k b d)
    · rw[ek e];by_cases f:x=i
      · subst f;rw[bX];exact Chunk.sub g.1 (fun b d _=>k b d)
      · rw[ek f];exact Chunk.sub (h.ok x) (fun b d _=>k b d)
  · rcases l x b q with⟨e1,h1⟩|⟨e1,h1⟩|⟨e1,e1',h1⟩<;>rcases l y b s with⟨f,h2⟩|⟨f,h2⟩|⟨f,e2',h2⟩
    · exact m<|e1.trans f.symm
    · exact g.2.2 b h1 h2
    · exact h.apart i y (fun e=>f e.symm) b (n b h1) h2
    · exact g.2.2 b h2 h1
    · exact m<|e1.trans f.symm
    · exact h.apart i y (fun e=>f e.symm) b (o b h1) h2
    · exact h.apart x i e1 b h1<|n b h2
    · exact h.apart x i e1 b h1<|o b h2
    · exact h.apart x y m b h1 h2
  · rcases l x b d with⟨_,h1⟩|⟨_,h1⟩|⟨_,_,h1⟩
    · exact h.old i b<|n b h1
    · exact h.old i b<|o b h1
    · exact h.old x b h1
theorem SH.lendC(h:SH w0 M K w hp)(i:Nat)(d:(hp i).Io):(hp i).holds w (fun b=>M b\/rest hp i b) (hp i).own'/\(∀b,(hp i).own' b->¬(M b\/rest hp i b))/\(∀b,(M b\/rest hp i b)->b<w.heap.size):=by
  refine⟨Chunk.re d (h.ok i) fun b a _=>?_,fun b a c=>?_,fun b a=>?_⟩
  · rcases a with(a|a)|a
    · exact .inl a
    · exact .inr<|jO a
    · exact .inr ⟨i,a⟩
  · rcases c with c|⟨j,hj,c⟩
    · exact h.TQ i b a c
    · exact h.apart j i hj b c a
  · rcases a with a|⟨j,_,a⟩
    · exact Nat.lt_of_lt_of_le (h.ltM b a) h.keep.size
    · exact Chunk.lt (h.ok j) b a
theorem SH.givenC{C:Chunk}(h:SH w0 M K w hp)(i:Nat)(d:C.Io)(c:C.holds w' (fun b=>M b\/rest hp i b) C.own')(e:bG (hp i).own' w w')(hn:∀b,C.own' b->b<w.heap.size->(hp i).own' b):SH w0 M K w' (bN hp i C):=
  h.step i e (fun _ a _=>a) hn (Chunk.re d c (fun b a _=>by
    rcases a with a|a|a
    · exact .inl<|.inl a
    · exact .inl<|.inr a
    · exact .inr a))
theorem SH.zV{C:Chunk}(m:∀b,M b->b<w.heap.size)(l:C.holds w M C.own')(k:∀b,C.own' b->¬M b):SH w M C.own' w (bN hno 1 C):=by
  have a:∀b,gN (bN hno 1 C) b->C.own' b:=by
    rintro b⟨j,f⟩;by_cases e:j=1
    · subst e;rw[bX]at f;exact f
    · rw[ek e]at f;exact f.elim
  refine⟨bG.refl _ _,m,fun i b c=>k b<|a b ⟨i,c⟩,fun i=>?_,fun i j g b c d=>?_,fun i b c _=>a b ⟨i,c⟩⟩
  · by_cases e:i=1
    · subst e;rw[bX];exact Chunk.sub l (fun b c _=>a b c)
    · rw[ek e];trivial
  · by_cases e:i=1
    · have n:j≠1:=fun h=>g<|e.trans h.symm;rw[ek n]at d;exact d.elim
    · rw[ek e]at c;exact c.elim
theorem SH.outC{C:Chunk}(h:SH w0 M K w hp)(i:Nat)(c:hp i=C)(d:C.Io):C.holds w M C.own'/\bG K w0 w/\(∀b,C.own' b->b<w0.heap.size->K b):=by
 subst c;exact⟨Chunk.re d (h.ok i) fun b a _=>a.imp id fun a=>⟨i,a⟩,h.keep,h.old i⟩
end
structure Val where
 kind:Int
 n:Int
deriving DecidableEq
def aW:jN Val where
 sz:=2
 rd w A cs x:=cs=[.int .i64 x.kind,.int .i64 x.n]
 len:=by rintro w A cs x rfl;rfl
 one:=by rintro w A cs x rfl u hu;simp only[List.mem_cons,List.not_mem_nil,or_false]at hu;rcases hu with rfl|rfl<;>first|rfl
 pos:=by decide
 go:=fun h _ _ _=>h
structure Tok where
 kind:Int
 n:Int
deriving DecidableEq
def iP:jN Tok where
 sz:=2
 rd w A cs x:=cs=[.int .i64 x.kind,.int .i64 x.n]
 len:=by rintro w A cs x rfl;rfl
 one:=by rintro w A cs x rfl u hu;simp only[List.mem_cons,List.not_mem_nil,or_false]at hu;rcases hu with rfl|rfl<;>first|rfl
 pos:=by decide
 go:=fun h _ _ _=>h
theorem ik.mapR{α:Type}{R R':jN α}{w:World}{B A:BS}{v:Value}{l:List α}(f:R.sz=R'.sz)(h:∀cs x,x∈l->R.rd w A cs x->R'.rd w A cs x)(j:ik R w B A v l):ik R' w B A v l:=by
 obtain⟨a,cap,rfl,r,p,d,m⟩:=j;refine⟨a,cap,Z,r,p,d,fun i c=>?_⟩;obtain⟨b,o,cells,E,n,e,k,q,g⟩:=m i c;refine⟨b,o,cells,E,n,e,k,q,?_⟩;rw[<-f];exact h _ _ (List.getElem_mem c) g
structure aN where
 kind:Int
 n:Int
 e:List Tok
 f:List Tok
 a:List aN
 b:List aN
def qj:Nat->{R:jN aN // R.sz=6}
 |0=>⟨{sz:=6,rd:=fun _ _ _ _=>False,len:=fun h=>h.elim,one:=fun h=>h.elim,pos:=by decide,go:=fun h=>h.elim},rfl⟩
 |d+1=>⟨{
  sz:=6
  rd:=fun w A cs x=>∃j g i c,cs=[.int .i64 x.kind,.int .i64 x.n,j,g,i,c]/\fC iP w A j x.e/\fC iP w A g x.f/\fC (qj d).1 w A i x.a/\fC (qj d).1 w A c x.b
  len:=by rintro w A cs x ⟨j,g,i,c,rfl,_⟩;rfl
  one:=by rintro w A cs x ⟨j,g,i,c,rfl,r,q,o,p⟩ u s;simp only[List.mem_cons,List.not_mem_nil,or_false]at s;rcases s with rfl|rfl|rfl|rfl|rfl|rfl<;>first|rfl|exact r.one|exact q.one|exact o.one|exact p.one
  pos:=by decide
  go:=by rintro w A cs x v t K ⟨j,g,i,c,rfl,r,q,o,p⟩ l m k;exact⟨_,_,_,_,Z,r.go l m k,q.go l m k,o.go l m k,p.go l m k⟩},Z⟩
theorem EO:∀(d:Nat) {w:World} {A:BS} {cs:List Value} {x:aN},(qj d).1.rd w A cs x->(qj (d+1)).1.rd w A cs x
 |0,_,_,_,_,h=>h.elim
 |d+1,_,_,_,_,h=>by
  obtain⟨e,i,a,b,rfl,g,f,c,j⟩:=h;exact⟨e,i,a,b,Z,g,f,c.mapR ((qj d).2.trans (qj<|d+1).2.symm) fun _ _ _ h=>EO d h,j.mapR ((qj d).2.trans (qj<|d+1).2.symm) fun _ _ _ h=>EO d h⟩
theorem O6{d a:Nat}(b:d<=a){w:World}{A:BS}{cs:List Value}{x:aN}(h:(qj d).1.rd w A cs x):(qj a).1.rd w A cs x:=by
 induction b with
 |refl=>exact h
 |step _ ih=>exact EO _ ih
def dz:jN aN where
 sz:=6
 rd w A cs x:=∃d,(qj d).1.rd w A cs x
 len:=by rintro w A cs x ⟨d,h⟩;exact((qj d).1.len h).trans (qj d).2
 one:=by rintro w A cs x ⟨d,h⟩;exact(qj d).1.one h
 pos:=by decide
 go:=by rintro w A cs x w2 A2 K ⟨d,h⟩ hk hK hA;exact⟨d,(qj d).1.go h hk hK hA⟩
theorem Zu{P:Nat->Nat->Prop}(b:∀d a i,d<=a->P d i->P a i):∀n,(∀i,i<n->∃d,P d i)->∃d,∀i,i<n->P d i
  |0,_=>⟨0,fun i c=>absurd c (Nat.not_lt_zero _)⟩
  |n+1,h=>by
    obtain⟨d,g⟩:=Zu b n fun i c=>h i V;obtain⟨a,f⟩:=h n V;refine⟨max d a,fun i c=>?_⟩;by_cases e:i=n
    · subst e;exact b _ _ _ (Nat.le_max_right _ _) f
    · exact b _ _ _ (Nat.le_max_left _ _)<|g i V
theorem Mh{w:World}{A:BS}{v:Value}{l:List aN}(h:fC dz w A v l):∃d,∀f,d<=f->fC (qj f).1 w A v l:=by
 obtain⟨a,cap,rfl,t,s,q,u⟩:=h;have r:=Zu (P:=fun d i=>∀h:i<l.length,∃b o cells E c,a=some ⟨b,o,none⟩/\¬A b/\w.heap[b]? =some (.cells cells E c)/\(qj d).1.rd w A ((cells.toList.drop<|o+i*6).take 6) l[i])
  (fun d f i p hp h=>let ⟨b,o,cells,E,c,e,k,j,g⟩:=hp h;⟨b,o,cells,E,c,e,k,j,O6 p g⟩) l.length
  (fun i m=>by obtain⟨b,o,cells,E,c,e,k,j,d,g⟩:=u i m;exact⟨d,fun _=>⟨b,o,cells,E,c,e,k,j,g⟩⟩)
 obtain⟨d,p⟩:=r;refine⟨d,fun f n=>⟨a,cap,Z,t,s,q,fun i m=>?_⟩⟩;obtain⟨b,o,cells,E,c,e,k,j,g⟩:=p i m m;exact⟨b,o,cells,E,c,e,k,j,by rw[(qj f).2];exact O6 n g⟩
theorem sS{w:World}{A:BS}{cs:List Value}{x:aN}(h:dz.rd w A cs x):∃i j c g,cs=[.int .i64 x.kind,.int .i64 x.n,i,j,c,g]/\fC iP w A i x.e/\fC iP w A j x.f/\fC dz w A c x.a/\fC dz w A g x.b:=by
 obtain⟨d,h⟩:=h;cases d with
 |zero=>exact h.elim
 |succ d=>
  obtain⟨i,j,c,g,rfl,m,l,k,o⟩:=h;exact⟨i,j,c,g,Z,m,l,k.mapR (qj d).2 fun _ _ _ h=>⟨d,h⟩,o.mapR (qj d).2 fun _ _ _ h=>⟨d,h⟩⟩
theorem RS{w:World}{A:BS}{cs:List Value}{x:aN}(h:∃i j c g,cs=[.int .i64 x.kind,.int .i64 x.n,i,j,c,g]/\fC iP w A i x.e/\fC iP w A j x.f/\fC dz w A c x.a/\fC dz w A g x.b):dz.rd w A cs x:=by
 obtain⟨i,j,c,g,rfl,p,o,l,q⟩:=h;obtain⟨d,r⟩:=Mh l;obtain⟨m,k⟩:=Mh q;exact⟨max d m+1,i,j,c,g,Z,p,o,r _<|Nat.le_max_left _ _,k _<|Nat.le_max_right _ _⟩
structure dw where
 params:Int
 locals:Int
 body:List aN
def eU:jN dw where
 sz:=3
 rd w A cs x:=∃KY,cs=[.int .i64 x.params,.int .i64 x.locals,KY]/\fC dz w A KY x.body
 len:=by rintro w A cs x ⟨KY,rfl,h0⟩;rfl
 one:=by rintro w A cs x ⟨KY,rfl,h0⟩ u hu;simp only[List.mem_cons,List.not_mem_nil,or_false]at hu;rcases hu with rfl|rfl|rfl<;>first|rfl|exact h0.one
 pos:=by decide
 go:=by rintro w A cs x w2 A2 K ⟨KY,rfl,h0⟩ hk hK hA;exact⟨_,Z,h0.go hk hK hA⟩
theorem kW{w:World}{A:BS}{cs:List Value}{x:dw}(h:eU.rd w A cs x):∃a,cs=[.int .i64 x.params,.int .i64 x.locals,a]/\fC dz w A a x.body:=h
section
variable{α β σ ρ:Type}
theorem pF{l:List α}{i:Nat}:idx l (i:Int)=l[i]? :=by simp[idx]
theorem oJ{l:List α}{i:Nat}(h:i<l.length):idx l (i:Int)=some l[i]:=by rw[pF,List.getElem?_eq_getElem h]
theorem uY{p:Prop} [Decidable p]{x:Option β}(h:p):gD p x=x:=if_pos h
theorem sub_s{l:List α}{a b:Nat}(h:a<=b)(c:b<=l.length):sub? l (a:Int) (b:Int)=some ((l.take b).drop a):=by
 unfold sub? cut;rw[if_pos ⟨by omega,by omega,by omega⟩];simp
def all2(p:α->β->Bool):List α->List β->Bool
 |[],[]=>true
 |x::xs,y::ys=>p x y&&all2 p xs ys
 |_,_=>false
theorem VV [DecidableEq α]{p:α->α->Bool}(hp:∀x y,p x y=decide (x=y)):∀(a b:List α),all2 p a b=decide (a=b)
 |[],[]=>by simp[all2]
 |[],_::_=>by simp[all2]
 |_::_,[]=>by simp[all2]
 |x::xs,y::ys=>by simp[all2,hp,VV hp xs ys]
theorem Xd{body:Int->Unit->(Unit->Option Bool)->Option Bool}{c:Unit->Option Bool}(p:α->β->Bool)(a:List α)(b:List β)(k:a.length=b.length)(g:c ()=some true)
  (j:∀(i:Nat) x y nx,a[i]? =some x->b[i]? =some y->body (i:Int) () nx=bif p x y then nx ()else some false):upto body c 0 a.length ()=some (all2 p a b):=by
 have d:∀(m i:Nat),i+m=a.length->upto body c (i:Int) m ()=some (all2 p (a.drop i)<|b.drop i):=by
  intro m;induction m with
  |zero=>
   intro i h;rw[List.drop_eq_nil_of_le V,List.drop_eq_nil_of_le V];exact g
  |succ m ih=>
   intro i h;have e:i<a.length:=by omega
   have f:i<b.length:=by omega
   rw[List.drop_eq_getElem_cons e,List.drop_eq_getElem_cons f];show body (i:Int) () (upto body c ((i:Int)+1) m)=_;rw[j i a[i] b[i] _ (List.getElem?_eq_getElem e) (List.getElem?_eq_getElem f)];cases hp:p a[i] b[i]with
   |true=>simp only[cond_true,all2,hp,Bool.true_and];exact ih (i+1) V
   |false=>simp[all2,hp]
 simpa using d a.length 0 V
theorem dT{p:Prop} [Decidable p](h:p):decide p=true:=decide_eq_true h
theorem dF{p:Prop} [Decidable p](h:¬p):decide p=false:=decide_eq_false h
theorem gI{x:Int}{y:Option β}(b: -9223372036854775808<=x:=by omega)(a:x<=9223372036854775807:=by omega):gD (jY x) y=y:=uY (jY.mk b a)
end
open Go.RowKit
def Zv(v:Value)(b:Bool):Prop:=(b=false/\v=.nilIface)\/(b=true/\∃t p,v=.iface t p)
structure Zw(P:Program)(T:TypeId):Prop where
 desc:P.underlying T=some (.interface (P.methodsAt T))
section
variable{P:Program}{ops:Array Oper}{Q:Exit->Act->World->Prop}{n:Nat}{env:Nat->Value}{w w' w0:World}{M K:BS}{hp:Nat->Chunk}{rest:List Oper}
 {d:Option Nat} {op:Op} {ty:TypeId} {pos:String} {af:Array Edge} {v:Value} {g:Option (Nat×Bool)} {T:TypeId} {ρ:Operand->Value} {x y:Operand}
theorem Jo{a b:Str}{T2:TypeId}(c:ρ x=bD a)(e:ρ y=bD b):(execOp ρ ⟨d,.binOp .eql T x y T2,ty,pos,af,g⟩).run P w=.ok (.value (.bool (decide (a=b)))) w:=by
 simp[execOp,binOp,c,e,bD,Op.stringOp,eqGuard];rw[Bool.eq_iff_iff];simp
theorem Mi{a b:Str}{T2:TypeId}(c:ρ x=bD a)(e:ρ y=bD b):(execOp ρ ⟨d,.binOp .neq T x y T2,ty,pos,af,g⟩).run P w=.ok (.value (.bool (decide (a≠b)))) w:=by
 simp[execOp,binOp,c,e,bD,Op.stringOp,eqGuard];rw[Bool.eq_iff_iff];simp
theorem oK{a b:Str}{T2:TypeId}(e:ρ x=bD a)(i:ρ y=bD b)(h:a.length+b.length<=9223372036854775807):(execOp ρ ⟨d,.binOp .add T x y T2,ty,pos,af,g⟩).run P w=.ok (.value (bD (a++b))) w:=by
 have c:=run_string_add_sum (P:=P) (w:=w) ⟨a.toArray⟩ ⟨b.toArray⟩ (by simpa[ByteArray.size]using h);have f:(⟨a.toArray⟩++⟨b.toArray⟩:ByteArray)=⟨(a++b).toArray⟩:=by
  apply ByteArray.ext;simp
 rw[f]at c;simp[execOp,binOp,e,i,bD,eqGuard,c]
theorem Xe{b:Bool}{T2:TypeId}(a:Zw P T)(c:ρ x=v)(f:Zv v b)(e:ρ (.const .nilIface)=.nilIface):(execOp ρ ⟨d,.binOp .eql T x (.const .nilIface) T2,ty,pos,af,g⟩).run P w=.ok (.value (.bool !b)) w:=by
  rcases f with⟨rfl,rfl⟩|⟨rfl,t,p,rfl⟩
  · simp[execOp,binOp,c,e,eqGuard,run_equal_nil_nil w T a.desc]
  · simp[execOp,binOp,c,e,eqGuard,run_equal_held_nil w T t p a.desc]
theorem Qu(s:Str)(a b:Nat):(ByteArray.mk s.toArray).extract a b=⟨((s.take b).drop a).toArray⟩:=by
 apply ByteArray.ext;simp[ByteArray.data_extract,List.drop_take]
theorem rF(s:Str):(ByteArray.mk s.toArray).size=s.length:=by simp[ByteArray.size]
def subs?(s:Str)(a b:Int):Option Str:=gD (0<=a/\a<=b/\b<=s.length) (some (cut s a b))
theorem r_sls{s:Str}{i h:Option Operand}{a b:Int}(f:P.underlying T=some .string)(p:ρ x=bD s)(j:Gm (i.map ρ) a 0)(m:Gm (h.map ρ) b s.length)(n:0<=a)(k:a<=b)(t:b<=s.length):
    (execOp ρ ⟨d,.slice T x i h none,ty,pos,af,g⟩).run P w=.ok (.value (bD (cut s a b))) w:=by
  obtain⟨a,rfl⟩:=Int.eq_ofNat_of_zero_le n;obtain⟨b,rfl⟩:=Int.eq_ofNat_of_zero_le<|Int.le_trans n k;have o:a<=b:=by omega
  have q:b<=s.length:=by omega
  have r:cut s (a:Int) (b:Int)=(s.take b).drop a:=by simp[cut]
  have l:(Instr.slice T (bD s) (i.map ρ) (h.map ρ) none).run P w=.ok (bD ((s.take b).drop a)) w:=by
    unfold bD;rcases j with⟨e1,e2⟩|e1<;>rcases m with⟨e3,e4⟩|e3
    · have e:a=0:=by omega
      have c:b=s.length:=by omega
      subst e c;rw[e1,e3,run_slice_string_all w T _ f,Qu,rF]
    · have e:a=0:=by omega
      subst e;rw[e1,e3,run_slice_string_to_if w T _ _ _ f,if_pos ⟨by omega,by rw[rF];omega⟩,Qu];simp
    · have c:b=s.length:=by omega
      subst c;rw[e1,e3,run_slice_string_from_if w T _ _ _ f,if_pos ⟨by omega,by rw[rF];omega⟩,Qu,rF];simp
    · rw[e1,e3,run_slice_string w T _ _ _ _ _ f V V (by rw[rF];omega),Qu];simp
  rw[r];simp only[execOp,Sem.run_bind,Sem.run_pure,p,Option.map_none,run_sliceAt_string w T _ _ _ _ f,l,Result.andThen_ok]
theorem TU{s r:Str}{i h:Option Operand}{a b:Int}(n:r=cut s a b)(j:P.underlying T=some .string)(l:ρ x=bD s)(c:Gm (i.map ρ) a 0)(e:Gm (h.map ρ) b s.length)(k:0<=a)(f:a<=b)(m:b<=s.length):
  (execOp ρ ⟨d,.slice T x i h none,ty,pos,af,g⟩).run P w=.ok (.value (bD r)) w:=by
 subst n;exact r_sls j l c e k f m
theorem TV{s r:Str}{a b:Int}(h:subs? s a b=some r):0<=a/\a<=b/\b<=s.length/\r=cut s a b:=by
 obtain⟨c,d⟩:=bg h;exact⟨c.1,c.2.1,c.2.2,(Option.some.inj d).symm⟩
end
open Go.RowKit
structure yZ(P:Program)(g:Nat)(w:World):Prop where
 pow:Lib.TabIs P w "internal/strconv.uint64pow10" .u64 Lib.pow10Tab
 syn:∃t p,w.var? P "strconv.ErrSyntax" =some #[.iface t p]
 ran:∃t p,w.var? P "strconv.ErrRange" =some #[.iface t p]
 max:∃m,w.cell? ⟨g,0,none⟩=some (.int .i64 m)
 many:P.globals.size<=w.heap.size
 gmax:g<P.globals.size
 asc:∀q,P.globalNamed "strings.asciiSpace" =some q->Lib.TabIs P w "strings.asciiSpace" .u8 Lib.asciiSpaceTab
theorem Mj{P:Program}{s:String}{i:Nat}(h:P.globalNamed s=some i):i<P.globals.size:=by
  unfold Program.globalNamed at h;split at h
  · rename_i g a;cases h;have:i∈(List.range P.globals.size).filter fun g=>(P.globals[g]?).any (·.name==s):=by rw[a];simp
    exact List.mem_range.1 (List.mem_filter.1 this).1
  · cases h
theorem bG.var{P:Program}{K:BS}{w w':World}{s:String}{cs:Array Value}(c:bG K w w')(a:∀b,K b->P.globals.size<=b)(h:w.var? P s=some cs):w'.var? P s=some cs:=by
 unfold World.var? at h⊢;cases hg:P.globalNamed s with
 |none=>simp[hg]at h
 |some g=>
  have e:=Mj hg;simp only[hg,Option.bind_some]at h⊢;cases hb:w.heap[g]? with
  |none=>simp[hb]at h
  |some o=>rw[c.blk hb (fun d=>absurd (a _ d) V)];rw[hb]at h;exact h
theorem yZ.Zx{P:Program}{g:Nat}{K:BS}{w w':World}(h:yZ P g w)(a:bG K w w')(c:∀b,K b->P.globals.size<=b):yZ P g w':=by
 obtain⟨r,⟨f,s,l⟩,⟨k,p,i⟩,⟨m,d⟩,j,n,t⟩:=h;refine⟨a.var c r,⟨f,s,a.var c l⟩,⟨k,p,a.var c i⟩,⟨m,?_⟩,Nat.le_trans j a.size,n,fun q e=>a.var c<|t q e⟩;unfold World.cell? at d⊢;cases hb:w.heap[g]? with
 |none=>simp[hb]at d
 |some o=>rw[a.blk hb (fun e=>absurd (c _ e) V)];rw[hb]at d;exact d
theorem yZ.go{P:Program}{g:Nat}{w w':World}(h:yZ P g w)(a:Grow w w'):yZ P g w':=h.Zx a (fun _ h=>h.elim)
theorem SH.Mk{P:Program}{g:Nat}{w0 w:World}{M K:BS}{hp:Nat->Chunk}{C:Chunk}(h:SH w0 M K w hp)(a:yZ P g w0)(d:∀b,K b->P.globals.size<=b)(i:Nat)(c:hp i=C):∀b,C.own' b->P.globals.size<=b:=by
  subst c;intro b e;rcases Nat.lt_or_ge b w0.heap.size with hl|hl
  · exact d b<|h.old i b e hl
  · exact Nat.le_trans a.many hl
theorem Grow.drewN(w:World)(k:Nat):Grow w (w.drewN k):=⟨rfl,rfl,rfl,Nat.le_refl _,fun _ _ _=>rfl⟩
theorem Grow.growN{w:World}{os:Array Obj}:Grow w (Sort.grow w os):=⟨rfl,rfl,rfl,by simp[Sort.grow],fun b _ a=>by simp[Sort.grow,Array.getElem?_append_left a]⟩
def O7(n:Int):Option Str:=gD (jY n) (some (Lib.itoa n))
def EP(s:Str):Option (Int×Bool):=gD (s.length<=281474976710656) (some (match Lib.atoiAll s with| .ok v=>(v,false)| .range=>(Lib.atoiSat s,true)|_=>(0,true)))
def Zy(l:List Str)(a:Str):Option Str:=gD (l.length<=140737488355328/\(Lib.join l a).length<=140737488355328) (some (Lib.join l a))
def Qv(s a:Str):Option (List Str):=gD (s.length<4294967281/\1<=a.length) (some (Lib.split s a))
section
variable{P:Program}{g:Nat}{w0:World}{f:FuncId}{M:BS}
theorem itoa_w(d:∀n,-9223372036854775808<=n->n<=9223372036854775807->∀w,Lib.TabIs P w "internal/strconv.uint64pow10" .u64 Lib.pow10Tab->Calls P f #[.int .i64 n] w fun e w'=>e=.returned (.string ⟨(Lib.itoa n).toArray⟩)/\∃k os,w'=Sort.grow (w.drewN k) os)
  (c:yZ P g w0) {a:Int} {r:Str} (b:O7 a=some r):Calls P f #[.int .i64 a] w0 (fun e w'=>Grow w0 w'/\e=.returned (bD r)):=by
 obtain⟨h,b⟩:=bg b;cases b;refine(d a h.1 h.2 w0 c.pow).mono ?_;rintro e w'⟨rfl,k,os,rfl⟩;exact⟨(Grow.drewN w0 k).trans Grow.growN,Z⟩
theorem bw_grow(w:World)(t:TypeId)(s:ByteArray):Grow w (Lib.bytesWorld w t s):=⟨rfl,rfl,rfl,by rw[Lib.bytesWorld_size];omega,fun b _ a=>Lib.bytesWorld_at_old w t _ b a⟩
theorem atoi_w{m a c:TypeId}{nm:ByteArray}(x:∀s:ByteArray,s.size<=9223372036854775806->∀v,Lib.atoiAll s.data.toList=.ok v->∀w,Calls P f #[.string s] w fun e w'=>e=.returned (.tuple #[.int .i64 v,.nilIface])/\(w'=w\/∃t,w'=Lib.bytesWorld w m t))
    (q:∀s:ByteArray,s.size<=281474976710656->∀e,Lib.atoiAll s.data.toList=e->(∀v,e≠ .ok v)->e≠ .range->∀d p w,w.var? P "strconv.ErrSyntax" =some #[.iface d p]->Calls P f #[.string s] w fun e w'=>∃N,e=.returned (.tuple #[.int .i64 0,.iface a (.pointer (some ⟨N,0,none⟩))])/\w.heap.size<=N/\w'.heap[N]? =some (.cells #[.string nm,.string s,.iface d p] c (0,0))/\Below w.heap.size w w')
    (n:∀s:ByteArray,s.size<=281474976710656->Lib.atoiAll s.data.toList=.range->∀d p w,w.var? P "strconv.ErrRange" =some #[.iface d p]->Calls P f #[.string s] w fun e w'=>∃N,e=.returned (.tuple #[.int .i64 (Lib.atoiSat s.data.toList),.iface a (.pointer (some ⟨N,0,none⟩))])/\w.heap.size<=N/\w'.heap[N]? =some (.cells #[.string nm,.string s,.iface d p] c (0,0))/\Below w.heap.size w w')
    (k:yZ P g w0) {s:Str} {r:Int×Bool} (b:EP s=some r):Calls P f #[bD s] w0 (fun e w'=>Grow w0 w'/\∃u,e=.returned (.tuple #[.int .i64 r.1,u])/\Zv u r.2):=by
  obtain⟨h,b⟩:=bg b;have o:=rF s;cases hq:Lib.atoiAll s with
  |ok v=>
    rw[hq]at b;cases b;refine(x ⟨s.toArray⟩ V v (by simpa using hq) w0).mono ?_;rintro e w'⟨rfl,l⟩;refine⟨?_,_,Z,.inl ⟨Z,Z⟩⟩;rcases l with rfl|⟨t,rfl⟩
    · exact bG.refl _ _
    · exact bw_grow _ _ _
  |range=>
    rw[hq]at b;cases b;obtain⟨t,p,j⟩:=k.ran;refine(n ⟨s.toArray⟩ V (by simpa using hq) t p w0 j).mono ?_;rintro e w'⟨N,rfl,_,_,i⟩;refine⟨Grow.of_below i,.iface a<|.pointer<|some ⟨N,0,none⟩,by simp,.inr ⟨Z,_,_,Z⟩⟩
  |_=>
    rw[hq]at b;cases b;obtain⟨t,p,j⟩:=k.syn;refine(q ⟨s.toArray⟩ V _ (by simpa using hq) (fun v=>by simp) zq3 t p w0 j).mono ?_;rintro e w'⟨N,rfl,_,_,i⟩;exact⟨Grow.of_below i,_,Z,.inr ⟨Z,_,_,Z⟩⟩
theorem Zz{A B:BS}{a:Option Addr}{n c:Nat}{l:List Str}(s:ik qD w0 B A (.slice a n c) l)(r:0<l.length):∃g o,a=some ⟨g,o,none⟩/\g<w0.heap.size/\∀j x,l[j]? =some x->w0.cell? ⟨g,o+j,none⟩=some (bD x):=by
  obtain⟨a',cap,e,I,G,w,k⟩:=s;cases e;obtain⟨b,o,cells,E,z,rfl,_,p,_⟩:=k 0 r;refine⟨b,o,Z,iq p,fun j x u=>?_⟩;obtain⟨h,f⟩:=List.getElem?_eq_some_iff.1 u;obtain⟨b',y,d,C,q,e,_,v,t⟩:=k j h;cases e;have i:List.take 1 (List.drop (o+j*1) d.toList)=[bD l[j]]:=t;rw[Nat.mul_one]at i;have m:d.toList[o+j]? =some (bD l[j]):=by
    have:=congrArg (·[0]?) i;simpa[List.getElem?_take,List.getElem?_drop]using this
  rw[<-f];simpa[World.cell?,v]using m
theorem join_w(q:∀(a:Option Addr) (c:Nat) (b:ByteArray) (w:World),Calls P f #[.slice a 0 c,.string b] w fun e w'=>e=.returned (.string ⟨#[]⟩)/\w'=w)
    (C:∀(d o c:Nat) (xs:List ByteArray) (b:ByteArray) (w:World),(∀(j:Nat) x,xs[j]? =some x->w.cell? ⟨d,o+j,none⟩=some (.string x))->d<w.heap.size->xs.length<=140737488355328->xs.length<=c->(Lib.join (xs.map (·.data.toList)) b.data.toList).length<=140737488355328->
      Calls P f #[.slice (some ⟨d,o,none⟩) xs.length c,.string b] w fun e w'=>e=.returned (.string ⟨(Lib.join (xs.map (·.data.toList)) b.data.toList).toArray⟩)/\Below w.heap.size w w')
    {v:Value} {A B:BS} {l:List Str} {b r:Str} (m:ik qD w0 B A v l) (k:Zy l b=some r):Calls P f #[v,bD b] w0 (fun e w'=>Grow w0 w'/\e=.returned (bD r)):=by
  obtain⟨h,k⟩:=bg k;cases k;have i:=m;obtain⟨a,cap,rfl,z,G,E,I⟩:=m;cases l with
  |nil=>
    refine(q a cap _ w0).mono ?_;rintro e w'⟨rfl,rfl⟩;exact⟨bG.refl _ _,Z⟩
  |cons x l=>
    obtain⟨d,o,rfl,t,u⟩:=Zz i zq3;have n:((x::l).map fun s=>(⟨s.toArray⟩:ByteArray)).map (·.data.toList)=x::l:=by simp[Function.comp_def]
    have:=C d o cap ((x::l).map fun s=>⟨s.toArray⟩) ⟨b.toArray⟩ w0 (fun j y g=>by
      rw[List.getElem?_map]at g;cases hq:(x::l)[j]? with
      |none=>rw[hq]at g;cases g
      |some s=>rw[hq]at g;cases g;exact u j s hq) t (by simpa using h.1) (by simpa using z) (by rw[n];simpa using h.2)
    rw[n,List.length_map]at this;refine this.mono ?_;rintro e w'⟨rfl,p⟩;exact⟨Grow.of_below p,by simp[bD]⟩
theorem VW{E:TypeId}{l:List ByteArray}{A:BS}{cells:Array Value}{cap:Nat}(w:World)(k:∀b,A b->b<w.heap.size)(d:l.length<=cap)(g:cap<=maxLen)(a:∀j (h:j<l.length),cells[j]? =some (.string l[j])):fC qD (w.alloc (.cells cells E)) A (.slice (some ⟨w.heap.size,0,none⟩) l.length cap) (l.map (·.data.toList)):=by
  refine⟨some ⟨w.heap.size,0,none⟩,cap,by simp,by simpa using d,g,(fun h=>by cases h),fun j i=>⟨w.heap.size,0,cells,E,(0,0),Z,?_,Cu w _,?_⟩⟩
  · intro m;exact Nat.lt_irrefl _ (k _ m)
  · have e:j<l.length:=by simpa using i
    show List.take 1 (List.drop (0+j*1) cells.toList)=_;have f:=a j e;have c:j<cells.toList.length:=by
      rw[Array.length_toList];rcases Nat.lt_or_ge j cells.size with q|q
      · exact q
      · rw[Array.getElem?_eq_none q]at f;cases f
    rw[Nat.zero_add,Nat.mul_one,List.drop_eq_getElem_cons c];have:cells.toList[j]=.string l[j]:=by
      have:=f;rw[<-Array.getElem?_toList,List.getElem?_eq_getElem c]at this;exact Option.some.inj this
    rw[this];simp[bD]
theorem split_w{E:TypeId}(k:∀(s a:ByteArray) (m:Int) (w:World),s.size<4294967281->w.cell? ⟨g,0,none⟩=some (.int .i64 m)->1<=a.size->
  Calls P f #[.string s,.string a] w fun e w'=>e=.returned (.slice (some ⟨w.heap.size,0,none⟩) (Lib.countB s a+1) (Lib.countB s a+1))/\w'=w.alloc (.cells ((Lib.splitB a 0 (Lib.countB s a) s).map Value.string).toArray E))
  (v:∀b,M b->b<w0.heap.size) (t:yZ P g w0) {s a:Str} {r:List Str} (c:Qv s a=some r):Calls P f #[bD s,bD a] w0 (fun e w'=>Grow w0 w'/\∃u,e=.returned u/\fC qD w' M u r):=by
 obtain⟨h,c⟩:=bg c;cases c;obtain⟨m,n⟩:=t.max;refine(k ⟨s.toArray⟩ ⟨a.toArray⟩ m w0 (by rw[rF];exact h.1) n (by rw[rF];exact h.2)).mono ?_;rintro e w'⟨rfl,rfl⟩;refine⟨Grow.alloc _ _,_,Z,?_⟩;have d:=Lib.splitB_all ⟨a.toArray⟩ (by rw[rF];exact h.2) 0 _ ⟨s.toArray⟩ Z;have q:=Lib.splitB_data ⟨a.toArray⟩ 0 (Lib.countB ⟨s.toArray⟩ ⟨a.toArray⟩) ⟨s.toArray⟩;have i:Lib.countB ⟨s.toArray⟩ ⟨a.toArray⟩=Lib.count s a:=by simp[Lib.countB]
 have p:=Lib.countB_le ⟨a.toArray⟩ (by rw[rF];exact h.2) _ ⟨s.toArray⟩ (Nat.le_refl _);rw[rF]at p;have:=VW (E:=E) (l:=Lib.splitB ⟨a.toArray⟩ 0 (Lib.countB ⟨s.toArray⟩ ⟨a.toArray⟩) ⟨s.toArray⟩) (cap:=Lib.countB ⟨s.toArray⟩ ⟨a.toArray⟩+1) (cells:=((Lib.splitB ⟨a.toArray⟩ 0 (Lib.countB ⟨s.toArray⟩ ⟨a.toArray⟩) ⟨s.toArray⟩).map Value.string).toArray) w0 v (by rw[d];exact Nat.le_refl _) (by unfold maxLen;omega) (fun j o=>by simp[o]);rw[d,q]at this;simpa[Lib.split,i]using this
end
open Go.RowKit
section
variable{P:Program}{ops:Array Oper}{Q:Exit->Act->World->Prop}{n:Nat}{env:Nat->Value}{w w' w0:World}{M K:BS}{hp:Nat->Chunk}{rest:List Oper}
 {d:Option Nat} {op:Op} {ty:TypeId} {pos:String} {af:Array Edge} {v:Value} {g:Option (Nat×Bool)} {T:TypeId} {ρ:Operand->Value} {x y:Operand} {i fuel:Nat} {listed:Array Bool}
theorem SH.pG{c:Chunk}(h:SH w0 M K w hp)(i:Nat)(d:hp i=c)(e:bG c.own' w w'):SH w0 M K w' (bN hp i .no):=
 h.step i e (fun b a _=>by rw[d];exact a) (fun b a=>a.elim) U
theorem SH.DK{c e:Chunk}(h:SH w0 M K w hp)(i j:Nat)(a:i≠j)(d:hp i=c)(f:hp j=e)(g:bG (fun b=>c.own' b\/e.own' b) w w'):SH w0 M K w' (bN (bN (bN hp j .no) i (.two (hp i) (hp j))) i .no):=by
 refine(h.pair i j a).pG i (c:=.two (hp i)<|hp j) (bX _ _ _) ?_;rw[d,f];exact g
theorem Cx{zs:List Value}(h:SH w0 M K w hp)(i:Nat)(a:xc P T zs)(k:∀w' b,SH w0 M K w' (bN hp i (.blk b zs))->Grow w w'->w.heap.size<=b->WL P ops Q rest n (fq env d (.pointer (some ⟨b,0,none⟩))) w'):WL P ops Q (⟨d,.alloc T,ty,pos,af,none⟩::rest) n env w:=
 F (RH a) (k _ _ (h.newB i zs T) (Grow.alloc _ _) (Nat.le_refl _))
theorem oL{z:Value}{b o:Nat}{cs:List Value}(h:SH w0 M K w hp)(i:Nat)(a:List Value)(e:hp i=.blk b cs)(q:One P T z)(l:ev n env x=.pointer (some ⟨b,o,none⟩))(m:ev n env y=v)(ho:cs.set o v=a)(c:Nat.blt o cs.length=true)(j:v.oneCell'=true)
  (k:∀w',SH w0 M K w' (bN hp i (.blk b a))->bG (fun x=>x=b) w w'->WL P ops Q rest n (fq env d undef) w'):
  WL P ops Q (⟨d,.store T x y,ty,pos,af,none⟩::rest) n env w:=by
 obtain⟨E,f⟩:=h.uX i e;have:=h.putB i e a E;subst ho;have p:=Ig (d:=d) (ty:=ty) (pos:=pos) (af:=af) (g:=none) q l f (by rw[Nat.blt_eq]at c;simpa using c) m j;refine uE p<|k _ ?_<|bG.qM _ _ _;simpa using this
theorem yA{zs vs:List Value}{b o:Nat}{cs:List Value}(h:SH w0 M K w hp)(i:Nat)(a:List Value)(e:hp i=.blk b cs)(p:xc P T zs)(j:ev n env x=.pointer (some ⟨b,o,none⟩))(m:ev n env y=.agg vs.toArray)(l:vs.length=zs.length)(ho:Gl cs o vs=a)(f:Nat.ble (o+vs.length) cs.length=true)(g:∀v∈vs,v.oneCell'=true)
  (k:∀w',SH w0 M K w' (bN hp i (.blk b a))->bG (fun x=>x=b) w w'->WL P ops Q rest n (fq env d undef) w'):
  WL P ops Q (⟨d,.store T x y,ty,pos,af,none⟩::rest) n env w:=by
 obtain⟨E,c⟩:=h.uX i e;subst ho;exact uE (L8 p j c m l (Nat.le_of_ble_eq_true f) g)<|k _ (h.putB i e _ E)<|bG.qM _ _ _
theorem lh{α:Type}{R:jN α}{E:TypeId}{o c:Nat}{u:Value}{l m:List α}(h:SH w0 M K w hp)(i:Nat)(f:hp i=.own R E v l)(G:ik R w BE (SH.A M hp) u m)(z:pR P T E o c)(q:R.sz=o)(B:ev n env x=v)(I:ev n env y=u)
    (a:(l.length+m.length)*c<=140737488355328) (t:l.length+m.length<=9223372036854775807)
    (k:∀w' e,SH w0 M K w' (bN hp i (.own R E e (l++m)))->bG (ob v) w w'->(∀b,ob e b->b<w.heap.size->ob v b)->WL P ops Q rest n (fq env d e) w'):
    WL P ops Q (⟨d,.call {callee:=.builtin .append,args:= #[x,y],argTypes:= #[T,T]},ty,pos,af,none⟩::rest) n env w:=by
  obtain⟨e,w',C,r,j,p⟩:=VK (d:=d) (ty:=ty) (pos:=pos) (af:=af) (g:=none) z q B (h.dS i f) I G (fun b a=>.inr ⟨i,by rw[f];exact a⟩) a t;refine F C (k w' e (h.step i j (fun b a _=>by rw[f];exact a) (fun b a s=>by rw[f];exact p b a s) ?_) j p);refine eP.go r (bG.refl BE w') (fun _ h=>h.elim) (fun _ h=>h.elim) fun b a _=>?_;rcases a with a|a|a
  · exact .inl<|.inl a
  · exact .inl<|.inr<|jO a
  · exact .inr a
theorem fG{f:Func}{R:Ending->World->Prop}{u a:Tmp}{T:TypeId}{v2:Value}{zs vs:List Value}{b:Nat}(j:f.results= #[.cell a T,.tmp u])(k:ev n env (.tmp a)=.pointer (some ⟨b,0,none⟩))(m:ev n env (.tmp u)=v2)
  (g:SH w0 M K w hp) (i:Nat) (p:hp i=.blk b vs) (o:xc P T zs) (l:vs.length=zs.length) (h:R (.returned (.tuple #[.agg vs.toArray,v2])) w):bodyPost P f R .ret (act n env) w:=by
 refine⟨Z,_,?_,h⟩;have c:=congrFun (iK n env)<|.tmp u;have d:=congrFun (iK n env)<|.tmp a;rw[m]at c;rw[k]at d;simp only[Act.eval]at c d;rw[Array.getD_eq_getD_getElem?]at c d;have e:=DI (P:=P) g p o l Z;unfold results;rw[j];simp[c,d,asAddr,e]
theorem At.grow{b o:Nat}{cs:List Value}(h:At w b o cs)(d:Grow w w'):At w' b o cs:=by
 obtain⟨cells,E,a,e,c⟩:=h;exact⟨cells,E,a,d.blk e,c⟩
theorem O8{ws w:World}{v u:Value}(c:ws.heap.size<=w.heap.size)(e:∀b,ob v b->ws.heap.size<=b)(hn:∀b,ob u b->b<w.heap.size->ob v b):∀b,ob u b->ws.heap.size<=b:=
 fun b d=>Nat.le_of_not_lt fun a=>Nat.not_lt_of_le (e b (hn b d (Nat.lt_of_lt_of_le a c))) a
end
open Go.RowKit Go.ChangeShapes
theorem Qw{b:Type}{enc:TypeId×Value->b}{a:Assume}{C:Checked}{os:Os}{f:FuncId}{o:Func}{s:ChangeSpec}{l:List PathCond}{d fresh k again:Bool}{X:World->Array Value->Prop}
  (O:∀(w w':World) (args:Array Value),w.heap=w'.heap->X w args->X w' args)
  (own:ownKnob C.prog.godebug=none) (p:os.Started) (q:C.prog.inits.idxOf? f=none) (G:C.prog.funcs[f]? =some o)
  (n:∃(w:World) (g:Tape) (i:Input),w.os=os/\(w.forCall g i).Shaped C.prog/\i.vars=[]/\Input.okWide C.prog (w.forCall g i) .any w.heap.size f i/\
   ((s.pre enc C.prog o l d (w.forCall g i).memory i.args/\X (w.forCall g i).memory i.args)/\sizedMet enc C.prog o (OpenSpec.ofChange s) d (w.forCall g i).memory i.args)/\a.holds C.prog (lone (Frame.enter C.prog f i.args .normal) [] (w.forCall g i)))
  (m:∀(c:World) (x:Nat) (args:Array Value) (z A:List (DataW b)) (h:List MemPlace),
   (∀(j:Nat) t v,o.params[j]? =some t->args[j]? =some v->Value.okWide C.prog c .any x t v)->
   DataW.Whole enc C.prog o.params.toList s.vars d c args.toList z A h->
   l.all (PathCond.test C.prog ⟨o.params.toList,z,s.plain.varTypes C.prog,A⟩)=true->X c args->c.ShapedOpen C.prog->
   Calls C.prog f args c fun e K=>∃v,e=.returned v/\s.post enc C.prog o d fresh k again c args v K):
  ReturnsInHanded a C os f .any (fun w args=>(s.pre enc C.prog o l d w args/\X w args)/\sizedMet enc C.prog o (OpenSpec.ofChange s) d w args) (s.post enc C.prog o d fresh k again):=by
 refine returnsInHanded_of_calls own p q n ?_;intro w g i _ B _ I u _;obtain⟨_,_,_,J,r,_,_,_,_,y⟩:=I;have e:J=o:=Option.some.inj<|r.symm.trans G;subst e;obtain⟨⟨⟨z,A,h,L,M⟩,P⟩,_⟩:=u;have E:=DataW.Whole.of_heap (w':=w.forCall g i) (by rfl) L;refine(m (w.forCall g i) w.heap.size i.args z A h y E M (O _ _ _ (by rfl) P) B).mono fun e K⟨v,N,hp⟩=>?_;subst N;exact ChangeSpec.post_blind hp
def ZA(w:World)(g:Nat)(a:Array Value):World:=
 {w with heap:=w.heap.modify g fun| .cells _ t fz=>.cells a t fz|o=>o}
def RU:DataW Unit->Array Value
 | .agg l=>(l.map fun| .lit (.int k z)=>Value.int k z|_=>Value.nilIface).toArray
 |_=> #[]
open Go.RowKit Go.Proofs
section
variable{P:Program}{ops:Array Oper}{Q:Exit->Act->World->Prop}{n:Nat}{env:Nat->Value}{w w' w0:World}{M K:BS}{hp:Nat->Chunk}{rest:List Oper}
 {d:Option Nat} {op:Op} {ty:TypeId} {pos:String} {af:Array Edge} {v:Value} {g:Option (Nat×Bool)} {T:TypeId} {ρ:Operand->Value} {x y:Operand} {i fuel:Nat} {listed:Array Bool}
theorem SH.RV{S:Pce}(h:SH w0 M K w hp)(i:Nat)(a:hp i=.dn S):S.P w (SH.A M hp):=by
 have:=h.ok i;rw[a]at this;exact this
theorem SH.BH{S S':Pce}(h:SH w0 M K w hp)(i:Nat)(c:hp i=.dn S)(d:S'.P w' (SH.A M hp))(e:bG S.own w w')(hn:∀b,S'.own b->b<w.heap.size->S.own b):SH w0 M K w' (bN hp i (.dn S')):=by
  refine h.step i e (fun b a _=>by rw[c];exact a) (fun b a f=>by rw[c];exact hn b a f) ?_;refine S'.go d (bG.refl BE w') (fun _ h=>h.elim) (fun _ h=>h.elim) fun b a _=>?_;rcases a with a|a|a
  · exact .inl<|.inl a
  · exact .inl<|.inr<|jO a
  · exact .inr a
end
open Go.RowKit Go.Proofs
structure Li(α β:Type)where
 sz:Nat
 enc:α->Value->List Value
 sub:α->List β
 put:α->List β->α
 len:∀x u,(enc x u).length=sz
 one:∀x u,u.oneCell'=true->∀c∈enc x u,c.oneCell'=true
 pos:0<sz
 Qx:∀x s u,enc (put x s) u=enc x u
 Qy:∀x s,sub (put x s)=s
def Li.raw{α β:Type}(N:Li α β):jN (α×Value) where
 sz:=N.sz
 rd _ _ cs p:=cs=N.enc p.1 p.2/\p.2.oneCell'=true
 len:=by rintro w A cs x ⟨rfl,_⟩;exact N.len _ _
 one:=by rintro w A cs x ⟨rfl,h⟩;exact N.one _ _ h
 pos:=N.pos
 go:=fun h _ _ _=>h
def hn:Nat->Prop:=fun _=>False
def hat(k:Nat):Nat->Prop:=fun i=>i=k
def Ag(ho:Nat->Prop)(us:List Value):BS:=fun b=>∃i u,us[i]? =some u/\¬ho i/\ob u b
def FamP{β:Type}(R:jN β)(E:TypeId)(ho:Nat->Prop)(us:List Value)(ss:List (List β))(w:World)(A:BS):Prop:=
 us.length=ss.length/\
 (∀i u s,us[i]? =some u->ss[i]? =some s->¬ho i->eP R E w (fun b=>A b\/Ag ho us b) u s)/\
 (∀i j u v,i≠j->¬ho i->¬ho j->us[i]? =some u->us[j]? =some v->∀b,ob u b->¬ob v b)
theorem FamP.at{β:Type}{R:jN β}{E:TypeId}{ho:Nat->Prop}{us:List Value}{ss:List (List β)}{w:World}{A:BS}(h:FamP R E ho us ss w A){i:Nat}{u:Value}(a:us[i]? =some u):∃s,ss[i]? =some s:=by
  have:i<us.length:=by
    rcases Nat.lt_or_ge i us.length with h|h
    · exact h
    · rw[List.getElem?_eq_none h]at a;cases a
  exact⟨ss[i]'(h.1▸this),List.getElem?_eq_getElem _⟩
def aY{β:Type}(R:jN β)(E:TypeId)(ho:Nat->Prop)(us:List Value)(ss:List (List β)):Pce where
  own:=Ag ho us
  P w A:=FamP R E ho us ss w A
  lt:=by
    rintro w A b h⟨i,u,h1,h2,h3⟩;obtain⟨s,hs⟩:=h.at h1;exact(h.2.1 i u s h1 hs h2).lt b h3
  go:=by
    rintro w w' A A' K⟨h1,h2,h3⟩hk hK hKo hA;refine⟨h1,fun i u s hu hs hi=>(h2 i u s hu hs hi).go hk (fun b hb hl=>.inl<|hK b hb hl) (fun b hb ho=>hKo b hb ⟨i,u,hu,hi,ho⟩) fun b hb hl=>?_,h3⟩;rcases hb with hb|hb
    · exact .inl<|hA b hb hl
    · exact .inl<|.inr hb
section
variable{α β:Type}{N:Li α β}{R:jN β}{E Es T:TypeId}{w0 w w':World}{M K A:BS}{hp:Nat->Chunk}{v u u':Value}{us us':List Value}{L L':List α}{ss ss':List (List β)}{s:List β}{x y:α}{k:Nat}{ho ho':Nat->Prop}
theorem FL(hp:Nat->Chunk)(i:Nat)(a c:Chunk):bN (bN hp i a) i c=bN hp i c:=by
  funext j;by_cases e:j=i
  · subst e;rw[bX,bX]
  · rw[ek e,ek e,ek e]
theorem SH.O9(h:SH w0 M K w hp)(j:Nat)(a:hp j=.dn (aY R E ho us ss)):FamP R E ho us ss w (SH.A M hp):=h.RV j a
theorem SH.iI(h:SH w0 M K w hp)(j:Nat)(a:hp j=.dn (aY R E ho us (L.map N.sub))):us.length=L.length:=by
 have:=(h.O9 j a).1;rw[List.length_map]at this;exact this
theorem dU(h:us.length=L.length):(L.zip us).length=L.length:=by rw[List.length_zip];omega
theorem fU(a:L[k]? =some x)(b:us[k]? =some u):(L.zip us)[k]? =some (x,u):=by
 rw[List.getElem?_zip_eq_some];exact⟨a,b⟩
theorem Ml(a:us[k]? =some u):(L.zip us).set k (y,u)=(L.set k y).zip us:=by
  apply List.ext_getElem?;intro i;rw[List.getElem?_set];by_cases e:k=i
  · subst e;rw[if_pos rfl];by_cases b:k<L.length
    · rw[fU (x:=y) (u:=u) (by rw[List.getElem?_set_self b]) a];have:k<us.length:=by
        rcases Nat.lt_or_ge k us.length with h|h
        · exact h
        · rw[List.getElem?_eq_none h]at a;cases a
      rw[if_pos (by rw[List.length_zip];omega)]
    · rw[if_neg (by rw[List.length_zip];omega),List.getElem?_eq_none (by rw[List.length_zip,List.length_set];omega)]
  · rw[if_neg e];simp only[List.zip_eq_zipWith,List.getElem?_zipWith,List.getElem?_set_ne e]
theorem RX(a:L[k]? =some x):(L.zip us).set k (x,u)=L.zip (us.set k u):=by
  apply List.ext_getElem?;intro i;rw[List.getElem?_set];by_cases e:k=i
  · subst e;rw[if_pos rfl];by_cases b:k<us.length
    · rw[fU (x:=x) (u:=u) a (by rw[List.getElem?_set_self b])];have:k<L.length:=by
        rcases Nat.lt_or_ge k L.length with h|h
        · exact h
        · rw[List.getElem?_eq_none h]at a;cases a
      rw[if_pos (by rw[List.length_zip];omega)]
    · rw[if_neg (by rw[List.length_zip];omega),List.getElem?_eq_none (by rw[List.length_zip,List.length_set];omega)]
  · rw[if_neg e];simp only[List.zip_eq_zipWith,List.getElem?_zipWith,List.getElem?_set_ne e]
theorem ER(a:L[k]? =some y):L.set k y=L:=by
  apply List.ext_getElem?;intro i;rw[List.getElem?_set];by_cases e:k=i
  · subst e;by_cases b:k<L.length
    · rw[if_pos rfl,if_pos b,a]
    · rw[List.getElem?_eq_none V]at a;cases a
  · rw[if_neg e]
theorem l8{z:α}(a:L[k]? =some x):(L.set k z)[k]? =some z:=by
  rw[List.getElem?_set_self];rcases Nat.lt_or_ge k L.length with h|h
  · exact h
  · rw[List.getElem?_eq_none h]at a;cases a
theorem Xf(a:us[k]? =some u):(us.set k u')[k]? =some u':=l8 a
theorem own_re{l d:List (α×Value)}(h:eP N.raw E w A v l)(b:d.length=l.length)(m:∀(i:Nat) (p a:α×Value),l[i]? =some p->d[i]? =some a->N.enc a.1 a.2=N.enc p.1 p.2/\a.2=p.2):eP N.raw E w A v d:=by
 obtain⟨xs,g,f⟩:=h;refine⟨xs,by rw[b];exact g,fun i c=>?_⟩;obtain⟨e,j⟩:=f i<|b▸c;obtain⟨k,q2⟩:=m i _ _ (List.getElem?_eq_getElem<|b▸c)<|List.getElem?_eq_getElem c;exact⟨e.trans k.symm,by rw[q2];exact j⟩
theorem SH.rawRe(h:SH w0 M K w hp)(i:Nat)(g:hp i=.own N.raw E v (L.zip us))(j:L[k]? =some x)(o:∀u,N.enc y u=N.enc x u):SH w0 M K w (bN hp i (.own N.raw E v ((L.set k y).zip us))):=by
  refine h.step i (bG.refl BE w) (fun _ h=>h.elim) (fun b d _=>by rw[g];exact d) ?_;have ho:=h.ok i;rw[g]at ho;refine Chunk.sub (O:=gN hp) (c:=.own N.raw E v ((L.set k y).zip us)) ?_ fun b d _=>?_
  · refine own_re ho (by rw[List.length_zip,List.length_zip,List.length_set]) fun i p q hp a=>?_;rw[List.getElem?_zip_eq_some]at hp a;rw[List.getElem?_set]at a;have l:=Option.some.inj<|hp.2.symm.trans a.2;by_cases e:k=i
    · subst e;have n:k<L.length:=by
        rcases Nat.lt_or_ge k L.length with h|h
        · exact h
        · rw[List.getElem?_eq_none h]at j;cases j
      rw[if_pos rfl,if_pos n]at a;have f:=Option.some.inj a.1;have m:=Option.some.inj<|j.symm.trans hp.1;rw[<-l,<-f,<-m];exact⟨o _,Z⟩
    · rw[if_neg e]at a;have f:=Option.some.inj<|hp.1.symm.trans a.1;rw[<-l,<-f];exact⟨Z,Z⟩
  · rcases d with d|d
    · exact jO d
    · exact⟨i,by rw[g];exact d⟩
theorem SH.ZB(h:SH w0 M K w hp)(j:Nat)(n:hp j=.dn (aY R E ho us ss))(q:us'.length=ss'.length)(e:∀i,¬ho i->us'[i]? =us[i]? /\ss'[i]? =ss[i]?):SH w0 M K w (bN hp j (.dn (aY R E ho us' ss'))):=by
 have m:=h.O9 j n;have a:∀b,Ag ho us' b->Ag ho us b:=fun b⟨i,u,t,l,o⟩=>⟨i,u,(e i l).1▸t,l,o⟩;refine h.BH j n ?_ (bG.refl _ _) fun b g _=>a b g;refine⟨q,fun i u s f p c=>?_,fun i j u v k c d f r=>m.2.2 i j u v k c d ((e i c).1▸f) ((e j d).1▸r)⟩;refine(m.2.1 i u s ((e i c).1▸f) ((e i c).2▸p) c).go (bG.refl BE w) (fun _ h=>h.elim) (fun _ h=>h.elim) fun b g _=>.inl<|g.imp id<|a b
theorem SH.famL(h:SH w0 M K w hp)(j:Nat)(y:α)(a:hp j=.dn (aY R E (hat k) us (L.map N.sub))):SH w0 M K w (bN hp j (.dn (aY R E (hat k) us ((L.set k y).map N.sub)))):=by
  refine h.ZB j a ?_ fun i b=>⟨Z,?_⟩
  · rw[List.length_map,List.length_set];exact h.iI j a
  · rw[List.map_set,List.getElem?_set_ne (fun e=>b e.symm)]
theorem SH.VX(h:SH w0 M K w hp)(j m:Nat)(B:hp j=.dn (aY R E ho us ss))(G:hp m=.no)(o:j≠m)(f:us[k]? =some u)(C:ss[k]? =some s)(n:¬ho k)(ho':Nat->Prop)(g:∀i,ho' i↔ho i\/i=k):
    SH w0 M K w (bN (bN hp j (.dn (aY R E ho' us ss))) m (.own R E u s)):=by
  have l:=h.O9 j B;have c:∀b,Ag ho' us b->Ag ho us b:=fun b⟨i,u,p,d,q⟩=>⟨i,u,p,fun h=>d ((g i).2<|.inl h),q⟩;have y:(Chunk.two (.dn<|aY R E ho' us ss)<|.own R E u s).holds w M (SH.av hp j<|Chunk.two (.dn<|aY R E ho' us ss)<|.own R E u s):=by
    refine⟨⟨l.1,fun i v t z I A=>?_,fun i j u v x A r f z=>l.2.2 i j u v x (fun h=>A ((g i).2<|.inl h)) (fun h=>r ((g j).2<|.inl h)) f z⟩,?_,?_⟩
    · refine(l.2.1 i v t z I fun h=>A ((g i).2<|.inl h)).go (bG.refl BE w) (fun _ h=>h.elim) (fun _ h=>h.elim) fun b a _=>.inl ?_;rcases a with(a|a|a)|a
      · exact .inl<|.inl a
      · exact .inl<|.inr<|jO a
      · rcases a with a|a
        · exact .inr<|c b a
        · exact .inr ⟨k,u,f,n,a⟩
      · exact .inr<|c b a
    · refine(l.2.1 k u s f C n).go (bG.refl BE w) (fun _ h=>h.elim) (fun _ h=>h.elim) fun b a _=>.inl ?_;rcases a with a|a|a
      · exact .inl<|.inl a
      · exact .inl<|.inr<|jO a
      · rcases a with a|a
        · exact .inr<|c b a
        · exact .inr ⟨k,u,f,n,a⟩
    · rintro b⟨i,v,p,d,q⟩a;exact l.2.2 i k v u (fun e=>d ((g i).2<|.inr e)) (fun h=>d ((g i).2<|.inl h)) n p f b q a
  have p:=h.step j (bG.refl BE w) (fun _ h=>h.elim) (fun b a _=>by
    rw[B];rcases a with a|a
    · exact c b a
    · exact⟨k,u,f,n,a⟩) y
  have d:=p.Zt j m o (bX _ _ _) (by rw[ek (Ne.symm o)];exact G);rw[FL]at d;exact d
theorem SH.Mm(h:SH w0 M K w hp)(j m:Nat)(Q:hp j=.dn (aY R E ho us ss))(P:hp m=.own R E u s)(S:j≠m)(y:us[k]? =some u)(hk:ho k)(ho':Nat->Prop)(h':∀i,ho i↔ho' i\/i=k)(X:¬ho' k):
    SH w0 M K w (bN (bN hp m .no) j (.dn (aY R E ho' us (ss.set k s)))):=by
  have q:=h.pair j m S;have d:∀i,¬ho' i->i=k\/¬ho i:=fun i G=>by
    by_cases e:i=k
    · exact .inl e
    · exact .inr fun h=>((h' i).1 h).elim G e
  have l:∀b,Ag ho' us b->Ag ho us b\/ob u b:=fun b⟨i,v,q,x,J⟩=>by
    rcases d i x with rfl|h4
    · rw[y]at q;cases q;exact .inr J
    · exact .inl ⟨i,v,q,h4,J⟩
  have a0:∀b,Ag ho us b\/ob u b->Ag ho' us b:=fun b a=>by
    rcases a with⟨i,v,q,x,J⟩|a
    · exact⟨i,v,q,fun h=>x ((h' i).2<|.inl h),J⟩
    · exact⟨k,u,y,X,a⟩
  have o:=q.ok j;have O:bN (bN hp m .no) j (.two (hp j)<|hp m)=bN (bN hp m .no) j (.two (.dn<|aY R E ho us ss)<|.own R E u s):=by rw[Q,P]
  rw[bX,Q,P]at o;have x:=q.step (c:=.dn (aY R E ho' us (ss.set k s))) j (bG.refl BE w) (fun _ h=>h.elim) (fun b a _=>by
    rw[bX,Q,P];exact l b a) ?_
  · rw[FL]at x;exact x
  · rw[O];have hA:∀b,(M b\/SH.av (bN (bN hp m .no) j<|.two (.dn<|aY R E ho us ss)<|.own R E u s) j (.dn<|aY R E ho' us<|ss.set k s) b)\/Ag ho' us b->(M b\/gN (bN (bN hp m .no) j<|.two (.dn<|aY R E ho us ss)<|.own R E u s) b):=by
      have B:∀b,Ag ho' us b->gN (bN (bN hp m .no) j (.two (.dn (aY R E ho us ss)) (.own R E u s))) b:=fun b a=>⟨j,by rw[bX];exact l b a⟩;rintro b((a|a|a)|a)
      · exact .inl a
      · exact .inr<|jO a
      · exact .inr<|B b a
      · exact .inr<|B b a
    refine⟨by rw[List.length_set];exact o.1.1,fun i v t n N G=>?_,fun i p v v' z G A n g b a r=>?_⟩
    · by_cases e:i=k
      · subst e;rw[y]at n;cases n;have T:i<ss.length:=by
          obtain⟨s',I⟩:=o.1.at y;rcases Nat.lt_or_ge i ss.length with h|h
          · exact h
          · rw[List.getElem?_eq_none h]at I;cases I
        rw[List.getElem?_set_self T]at N;cases N;refine eP.go o.2.1 (bG.refl BE w) (fun _ h=>h.elim) (fun _ h=>h.elim) fun b a _=>.inl<|hA b a
      · rw[List.getElem?_set_ne (fun h=>e h.symm)]at N;have f:¬ho i:=(d i G).resolve_left e;refine(o.1.2.1 i v t n N f).go (bG.refl BE w) (fun _ h=>h.elim) (fun _ h=>h.elim) fun b a _=>.inl<|.inl<|hA b a
    · by_cases e:i=k
      · have L:p≠k:=fun h=>z<|e.trans h.symm;have f:¬ho p:=(d p A).resolve_left L;subst e;rw[y]at n;cases n;exact o.2.2 b ⟨p,v',g,f,r⟩ a
      · have f:¬ho i:=(d i G).resolve_left e;by_cases L:p=k
        · subst L;rw[y]at g;cases g;exact o.2.2 b ⟨i,v,n,f,a⟩ r
        · have C:¬ho p:=(d p A).resolve_left L;exact o.1.2.2 i p v v' z f C n g b a r
end
open Go.RowKit Go.Proofs
section
variable{α β:Type}{N:Li α β}{R:jN β}{E Es T:TypeId}{w0 w w':World}{M K A:BS}{hp:Nat->Chunk}{v u u':Value}{us us' TW:List Value}{L L':List α}{ss ss' ss2:List (List β)}{s:List β}{x y:α}{k:Nat}{ho ho':Nat->Prop}
theorem Jp{a:Type}{l:List a}{z:a}(h:l[k]? =some z):k<l.length:=by
  rcases Nat.lt_or_ge k l.length with h1|h1
  · exact h1
  · rw[List.getElem?_eq_none h1]at h;cases h
theorem SH.dnOpen(h:SH w0 M K w hp)(j m:Nat)(c:hp j=.dn (aY R Es hn us (L.map N.sub)))(e:hp m=.no)(a:j≠m)(d:L[k]? =some x):
  ∃u,us[k]? =some u/\SH w0 M K w (bN (bN hp j (.dn (aY R Es (hat k) us (L.map N.sub)))) m (.own R Es u (N.sub x))):=by
 have f:=h.iI j c;have b:=Jp d;exact⟨us[k]'(f▸b),List.getElem?_eq_getElem _,h.VX j m c e a (List.getElem?_eq_getElem _) (by rw[List.getElem?_map,d];rfl) (fun h=>h) _ (fun i=>⟨.inr,fun h=>h.elim (fun h=>h.elim) id⟩)⟩
theorem SH.uG(h:SH w0 M K w hp)(i j m:Nat)(y:α)(l:hp i=.own N.raw E v (L.zip us))(n:hp j=.dn (aY R Es (hat k) us (L.map N.sub)))(g:hp m=.own R Es u s)(c:i≠j)(a:i≠m)(b:j≠m)(o:L[k]? =some x)(q:us[k]? =some u)(f:y=N.put x s):
  SH w0 M K w (bN (bN (bN hp m .no) j (.dn (aY R Es hn us ((L.set k y).map N.sub)))) i (.own N.raw E v ((L.set k y).zip us))):=by
 have p:=h.Mm j m n g b q Z hn (fun i=>⟨.inr,fun h=>h.elim (fun h=>h.elim) id⟩) fun h=>h;have d:=p.rawRe (N:=N) (x:=x) (y:=y) (k:=k) (E:=E) (v:=v) i (by rw[ek c,ek a];exact l) o (fun u=>by rw[f];exact N.Qx _ _ _);have e:(L.map N.sub).set k s=(L.set k y).map N.sub:=by rw[List.map_set,f,N.Qy]
 rw[e]at d;exact d
theorem SH.jh(h:SH w0 M K w hp)(j m:Nat)(d:hp j=.dn (aY R Es (hat k) us (L.map N.sub)))(c:hp m=.own R Es u s)(a:j≠m)(f:L[k]? =some x)(l:us[k]? =some u)(g:N.sub x=s):
  SH w0 M K w (bN (bN hp m .no) j (.dn (aY R Es hn us (L.map N.sub)))):=by
 have b:=h.Mm j m d c a l Z hn (fun i=>⟨.inr,fun h=>h.elim (fun h=>h.elim) id⟩) fun h=>h;have e:(L.map N.sub).set k s=L.map N.sub:=ER (by rw[List.getElem?_map,f,<-g];rfl);rw[e]at b;exact b
theorem SH.famNew(h:SH w0 M K w hp)(m:Nat)(g:hp m=.own R Es u s):SH w0 M K w (bN hp m (.dn (aY R Es hn [u] [s]))):=by
  have ho:=h.ok m;rw[g]at ho;have a:∀b,Ag hn [u] b->ob u b:=by
    rintro b⟨i,v,k,_,l⟩;cases i with
    |zero=>cases k;exact l
    |succ i=>cases k
  refine h.step m (bG.refl BE w) (fun _ h=>h.elim) (fun b c _=>by rw[g];exact a b c) ⟨Z,fun i v t d f _=>?_,fun i j v t e _ _ d f=>?_⟩
  · cases i with
    |succ i=>cases d
    |zero=>
      cases d;cases f;refine eP.go ho (bG.refl BE w) (fun _ h=>h.elim) (fun _ h=>h.elim) fun b c _=>?_;rcases c with(c|c|c)|c
      · exact .inl<|.inl c
      · exact .inl<|.inr<|jO c
      · exact .inr<|a b c
      · exact .inr<|a b c
  · cases i with
    |zero=>cases j with
      |zero=>exact absurd Z e
      |succ j=>cases f
    |succ i=>cases d
theorem SH.ZC(h:SH w0 M K w hp)(j:Nat):SH w0 M K w (bN hp j (.dn (aY R Es hn [] []))):=
  h.learn j (bG.refl BE w) (by rintro b ⟨i,u,c,_⟩;cases c) (by
    refine⟨Z,?_,?_⟩
    · intro i v t a;cases a
    · intro i j v t _ _ _ a;cases a)
theorem SH.xg(h:SH w0 M K w hp)(j m:Nat)(E:hp j=.dn (aY R Es hn us ss))(C:hp m=.dn (aY R Es hn TW ss2))(y:j≠m):SH w0 M K w (bN (bN hp m .no) j (.dn (aY R Es hn (us++TW) (ss++ss2)))):=by
  have f:=h.pair j m y;have l:=f.ok j;rw[E,C]at f;rw[bX,E,C]at l;have n:∀b,Ag hn (us++TW) b->Ag hn us b\/Ag hn TW b:=by
    rintro b⟨i,v,f,_,o⟩;rw[List.getElem?_append]at f;split at f
    · exact .inl ⟨i,v,f,fun h=>h,o⟩
    · exact .inr ⟨_,v,f,fun h=>h,o⟩
  have z:∀b,Ag hn us b\/Ag hn TW b->Ag hn (us++TW) b:=by
    rintro b(⟨i,v,f,_,o⟩|⟨i,v,f,_,o⟩)
    · exact⟨i,v,by rw[List.getElem?_append_left (Jp f)];exact f,fun h=>h,o⟩
    · exact⟨us.length+i,v,by rw[List.getElem?_append_right V,Nat.add_sub_cancel_left];exact f,fun h=>h,o⟩
  have B:=f.step (c:=.dn (aY R Es hn (us++TW) (ss++ss2))) j (bG.refl BE w) (fun _ h=>h.elim) (fun b a _=>by rw[bX];exact n b a) ?_
  · rw[FL]at B;exact B
  · have A:∀b,(M b\/SH.av (bN (bN hp m .no) j<|.two (.dn<|aY R Es hn us ss)<|.dn<|aY R Es hn TW ss2) j (.dn<|aY R Es hn (us++TW)<|ss++ss2) b)\/Ag hn (us++TW) b->(M b\/gN (bN (bN hp m .no) j<|.two (.dn<|aY R Es hn us ss)<|.dn<|aY R Es hn TW ss2) b):=by
      have p:∀b,Ag hn (us++TW) b->gN (bN (bN hp m .no) j (.two (.dn (aY R Es hn us ss)) (.dn (aY R Es hn TW ss2)))) b:=fun b a=>⟨j,by rw[bX];exact n b a⟩;rintro b((a|a|a)|a)
      · exact .inl a
      · exact .inr<|jO a
      · exact .inr<|p b a
      · exact .inr<|p b a
    have G:=l.1.1;have I:=l.2.1.1;refine⟨by simp only[List.length_append];omega,fun i v t e r _=>?_,fun i x v s u _ _ e d b a k=>?_⟩
    · rw[List.getElem?_append]at e r;by_cases q:i<us.length
      · rw[if_pos q]at e;rw[if_pos V]at r;exact(l.1.2.1 i v t e r fun h=>h).go (bG.refl BE w) (fun _ h=>h.elim) (fun _ h=>h.elim) fun b a _=>.inl<|.inl<|A b a
      · rw[if_neg q]at e;rw[if_neg V,<-G]at r;exact(l.2.1.2.1 _ v t e r fun h=>h).go (bG.refl BE w) (fun _ h=>h.elim) (fun _ h=>h.elim) fun b a _=>.inl<|.inl<|A b a
    · rw[List.getElem?_append]at e d;by_cases q:i<us.length
      · rw[if_pos q]at e;by_cases g:x<us.length
        · rw[if_pos g]at d;exact l.1.2.2 i x v s u (fun h=>h) (fun h=>h) e d b a k
        · rw[if_neg g]at d;exact l.2.2 b ⟨_,v,e,fun h=>h,a⟩ ⟨_,s,d,fun h=>h,k⟩
      · rw[if_neg q]at e;by_cases g:x<us.length
        · rw[if_pos g]at d;exact l.2.2 b ⟨_,s,d,fun h=>h,k⟩ ⟨_,v,e,fun h=>h,a⟩
        · rw[if_neg g]at d;exact l.2.1.2.2 _ _ v s V (fun h=>h) (fun h=>h) e d b a k
theorem SH.famTake(h:SH w0 M K w hp)(j n:Nat)(m:hp j=.dn (aY R Es hn us (L.map N.sub))):SH w0 M K w (bN hp j (.dn (aY R Es hn (us.take n) ((L.take n).map N.sub)))):=by
  have g:=h.O9 j m;have hat:∀(i:Nat) (u:Value),(us.take n)[i]? =some u->us[i]? =some u/\i<n:=fun i u a=>by
    rw[List.getElem?_take]at a;split at a
    · exact⟨a,by assumption⟩
    · cases a
  have c:∀b,Ag hn (us.take n) b->Ag hn us b:=fun b⟨i,u,t,r,o⟩=>⟨i,u,(hat i u t).1,r,o⟩;refine h.BH j m ?_ (bG.refl _ _) fun b e _=>c b e;have q:=g.1;rw[List.length_map]at q;refine⟨by rw[List.length_take,List.length_map,List.length_take];omega,fun i u s a l k=>?_,fun i j u v f k d a p=>g.2.2 i j u v f k d (hat i u a).1 (hat j v p).1⟩;rw[List.map_take,List.getElem?_take,if_pos (hat i u a).2]at l;refine(g.2.1 i u s (hat i u a).1 l k).go (bG.refl BE w) (fun _ h=>h.elim) (fun _ h=>h.elim) fun b e _=>.inl<|e.imp id<|c b
theorem Xg(n:Nat):(L.zip us).take n=(L.take n).zip (us.take n):=by
 apply List.ext_getElem?;intro i;simp only[List.zip_eq_zipWith,List.getElem?_take,List.getElem?_zipWith];split<;>rfl
theorem xh{a:List α}(h:us.length=L.length):(L.zip us)++(a.zip TW)=(L++a).zip (us++TW):=(List.zip_append h.symm).symm
theorem ql{P:Program}{ρ:Operand->Value}{d:Option Nat}{ty:TypeId}{pos:String}{af:Array Edge}{g:Option (Nat×Bool)}{a:Operand}{b:Nat}{B A:BS}{c:World}(e:SliceOf P T E b)(f:ρ a=v)(i:ik N.raw c B A v (L.zip us))(j:us.length=L.length):
  (execOp ρ ⟨d,.call {callee:=.builtin .len,args:= #[a],argTypes:= #[T]},ty,pos,af,g⟩).run P w=.ok (.value (.int .i64 L.length)) w:=by
 have h:=iH (P:=P) (w:=w) (d:=d) (ty:=ty) (pos:=pos) (af:=af) (g:=g) e f i;rw[dU j]at h;exact h
theorem SH.ES{R':jN α}(h:SH w0 M K w hp)(i j:Nat)(y:hp i=.own N.raw E v (L.zip us))(m:hp j=.dn (aY R Es hn us (L.map N.sub)))(r:i≠j)(p:R'.sz=N.sz)(br:∀w A x u,fC R w A u (N.sub x)->R'.rd w A (N.enc x u) x):SH w0 M K w (bN (bN hp j .no) i (.rd R' v L)):=by
  have t:=h.iI j m;have n:=h.pair i j r;have l:=n.apart i;have J:=n.TQ i;have s:=n.ok i;rw[bX]at l J;rw[bX,y,m]at s;have I:=n.step (c:=.rd R' v L) i (bG.refl BE w) (fun _ h=>h.elim) (fun b f _=>f.elim) ?_
  · rw[FL]at I;exact I
  · have hno:∀b,(hp i).own' b\/(hp j).own' b->¬(M b\/SH.av (bN (bN hp j .no) i<|.two (hp i)<|hp j) i (.rd R' v L) b):=by
      intro b f g;rcases g with g|⟨q,k,g⟩|g
      · exact J b f g
      · exact l q (fun e=>k e.symm) b f g
      · exact g
    have B:∀b,(M b\/SH.av (bN (bN hp j .no) i<|.two (hp i)<|hp j) i (.rd R' v L) b)->M b\/gN (bN (bN hp j .no) i<|.two (.own N.raw E v<|L.zip us)<|.dn<|aY R Es hn us<|L.map N.sub) b:=by
      rw[y,m];rintro b(f|f|f)
      · exact .inl f
      · exact .inr<|jO f
      · exact f.elim
    have S:fC N.raw w (fun b=>M b\/SH.av (bN (bN hp j .no) i<|.two (hp i)<|hp j) i (.rd R' v L) b) v (L.zip us):=
      eP.rd s.1 (fun b f=>hno b (.inl (by rw[y];exact f))) (fun b f _=>.inl (B b f))
    obtain⟨a,cap,z,C,e3,P,O⟩:=S;rw[dU t]at z C;refine⟨a,cap,z,C,e3,P,fun q k=>?_⟩;obtain⟨b,o,cells,d,fz,T,q2,q3,G⟩:=O q (by rw[dU t];exact k);refine⟨b,o,cells,d,fz,T,q2,q3,?_⟩;rw[p];have Q:(L.zip us)[q]'(by rw[dU t];exact k)=(L[q],us[q]'V):=by simp
    rw[Q]at G;obtain⟨X,_⟩:=G;have q6:((cells.toList.drop<|o+q*N.sz).take N.sz)=N.enc L[q] (us[q]'V):=X;rw[q6];refine br _ _ _ _ (eP.rd (s.2.1.2.1 q _ _ (List.getElem?_eq_getElem V) (by rw[List.getElem?_map,List.getElem?_eq_getElem k];rfl) (fun h=>h)) (fun b f=>hno b (.inr (by rw[m];exact⟨q,_,List.getElem?_eq_getElem V,fun h=>h,f⟩))) (fun b f _=>.inl (.inl (B b f))))
theorem SH.moveC(h:SH w0 M K w hp)(j i:Nat){c:Chunk}(v:hp j=c)(A:hp i=.no)(s:j≠i):SH w0 M K w (bN (bN hp j .no) i c):=by
  subst v;have f:∀x b,(bN (bN hp j .no) i (hp j) x).own' b->∃y,(hp y).own' b/\(x=i->y=j)/\(x≠i->y=x/\x≠j):=by
    intro x b a;by_cases e:x=i
    · subst e;rw[bX]at a;exact⟨j,a,fun _=>rfl,fun h=>absurd Z h⟩
    · rw[ek e]at a;by_cases d:x=j
      · subst d;rw[bX]at a;exact a.elim
      · rw[ek d]at a;exact⟨x,a,fun h=>absurd h e,fun _=>⟨Z,d⟩⟩
  have g:∀b,gN (bN (bN hp j .no) i<|hp j) b->gN hp b:=fun b⟨x,o⟩=>let ⟨y,k,_⟩:=f x b o;⟨y,k⟩;refine⟨h.keep,h.ltM,fun x b a=>let ⟨y,k,_⟩:=f x b a;h.TQ y b k,fun x=>?_,fun x y l b o k=>?_,fun x b a=>let ⟨y,k,_⟩:=f x b a;h.old y b k⟩
  · by_cases e:x=i
    · subst e;rw[bX];exact Chunk.sub (h.ok j) fun b a _=>g b a
    · rw[ek e];by_cases d:x=j
      · subst d;rw[bX];trivial
      · rw[ek d];exact Chunk.sub (h.ok x) (fun b a _=>g b a)
  · obtain⟨q,z,t,n⟩:=f x b o;obtain⟨p,r,u,m⟩:=f y b k;have:q≠p:=by
      by_cases e:x=i
      · have d:y≠i:=fun h=>l<|e.trans h.symm;rw[t e,(m d).1];exact fun h=>(m d).2 h.symm
      · by_cases d:y=i
        · rw[u d,(n e).1];exact(n e).2
        · rw[(n e).1,(m d).1];exact l
    exact h.apart q p this b z r
def aU(β:Type):Li (List β) β where
 sz:=1
 enc _ u:=[u]
 sub x:=x
 put _ s:=s
 len _ _:=rfl
 one:=by intro x u h c hc;simp at hc;subst hc;exact h
 pos:=by decide
 Qx _ _ _:=rfl
 Qy _ _:=rfl
theorem LD{R:jN β}:∀w A (x:List β) u,fC R w A u ((aU β).sub x)->(zC R).rd w A ((aU β).enc x u) x:=fun _ _ _ u h=>⟨u,rfl,h⟩
end
open Go.RowKit Go.Proofs
section
variable{P:Program}{w:World}{ρ:Operand->Value}{d:Option Nat}{ty:TypeId}{pos:String}{af:Array Edge}{g:Option (Nat×Bool)}{T:TypeId}{x y:Operand}
theorem SH.xk{α β:Type}{N:Li α β}{R:jN β}{E:TypeId}{w0:World}{M K:BS}{hp:Nat->Chunk}{u:Value}{s:List β}(h:SH w0 M K w hp)(m:Nat)(x:α)(a:hp m=.own R E u s)(b:N.sub x=s):SH w0 M K w (bN hp m (.dn (aY R E hn [u] (List.map N.sub [x])))):=by
 subst b;exact h.famNew m a
theorem us_at{α:Type}{us:List Value}{L:List α}{k:Nat}{z:α}(h:us.length=L.length)(a:L[k]? =some z):∃u,us[k]? =some u:=by
 have:=Jp a;exact⟨us[k]'(h▸this),List.getElem?_eq_getElem _⟩
end
open Go.RowKit Go.Proofs
section
variable{α:Type}{R:jN α}{E:TypeId}{w0 w w':World}{M K:BS}{hp:Nat->Chunk}{C C':Chunk}{v:Value}{l:List α}
theorem vB:∀b,gN (bN hno 1 C) b->C.own' b:=by
  rintro b⟨j,a⟩;by_cases e:j=1
  · subst e;rw[bX]at a;exact a
  · rw[ek e]at a;exact a.elim
theorem mH{i:Nat}(hn:∀b,gN hp b->C.own' b):∀b,gN (bN hp i (.rd R v l)) b->C.own' b:=by
  rintro b⟨j,a⟩;by_cases e:j=i
  · subst e;rw[bX]at a;exact a.elim
  · rw[ek e]at a;exact hn b ⟨j,a⟩
theorem SH.oM(h:SH w M K w hp)(i:Nat)(ho:fC R w (fun b=>M b\/C.own' b) v l)(hn:∀b,gN hp b->C.own' b):SH w M K w (bN hp i (.rd R v l)):=
 h.bA i (ho.sub (fun b a _=>a.imp id (hn b)) (fun b a _=>a.imp id (hn b)))
theorem SH.lendS(h:SH w0 M K w hp)(i:Nat)(a:hp i=C)(c:C.Io):C.holds w (fun b=>M b\/rest hp i b) C.own'/\(∀b,C.own' b->¬(M b\/rest hp i b))/\(∀b,(M b\/rest hp i b)->b<w.heap.size):=by
 subst a;exact h.lendC i c
theorem SH.yh(h:SH w0 M K w hp)(i j:Nat)(e:hp j=.rd R v l)(d:hp i=C):fC R w (fun b=>(M b\/rest hp i b)\/C.own' b) v l:=by
  have c:∀b,(M b\/rest hp i b)\/C.own' b->SH.A M hp b:=by
    rintro b((a|a)|a)
    · exact .inl a
    · exact .inr<|jO a
    · exact .inr ⟨i,by rw[d];exact a⟩
  exact(h.fH j e).sub (fun b a _=>c b a) fun b a _=>c b a
theorem SH.back(h:SH w0 M K w hp)(i:Nat)(c:hp i=C)(d:C'.Io)(a:C'.holds w' (fun b=>M b\/rest hp i b) C'.own')(e:bG C.own' w w')(hn:∀b,C'.own' b->b<w.heap.size->C.own' b):SH w0 M K w' (bN hp i C'):=by
 subst c;exact h.givenC i d a e hn
theorem ji{i:Nat}(h:fC R w (fun b=>(M b\/rest hp i b)\/C.own' b) v l):fC R w (SH.A M (bN hp i C)) v l:=by
  have c:∀b,SH.A M (bN hp i C) b->(M b\/rest hp i b)\/C.own' b:=by
    rintro b(a|⟨j,d⟩)
    · exact .inl<|.inl a
    · by_cases e:j=i
      · subst e;rw[bX]at d;exact .inr d
      · rw[ek e]at d;exact .inl (.inr ⟨j,e,d⟩)
  exact h.sub (fun b a _=>c b a) fun b a _=>c b a
theorem SH.xm(h:SH w0 M K w hp)(i j:Nat)(e:hp j=.rd R v l)(d:hp i=C):fC R w (fun b=>M b\/C.own' b) v l:=by
  have c:∀b,M b\/C.own' b->SH.A M hp b:=by
    rintro b(a|a)
    · exact .inl a
    · exact .inr ⟨i,by rw[d];exact a⟩
  exact(h.fH j e).sub (fun b a _=>c b a) fun b a _=>c b a
theorem SH.outS(h:SH w0 M K w hp)(i:Nat)(a:hp i=C)(c:C.Io):C.holds w M C.own'/\bG K w0 w/\(∀b,C.own' b->b<w0.heap.size->K b):=h.outC i a c
end
section
variable{P:Program}{ops:Array Oper}{Q:Exit->Act->World->Prop}{n:Nat}{env:Nat->Value}{w:World}
theorem At.hold{w w':World}{L:BS}{b o:Nat}{cs:List Value}(h:At w b o cs)(a:bG L w w')(hn:¬L b):At w' b o cs:=by
 obtain⟨cells,E,d,c,e⟩:=h;exact⟨cells,E,d,a.blk c hn,e⟩
theorem ZE{g:Func}{R:Ending->World->Prop}{t u a c:Tmp}{v1 v2 v3 v4:Value}(j:g.results= #[.tmp t,.tmp u,.tmp a,.tmp c])(m:ev n env (.tmp t)=v1)(l:ev n env (.tmp u)=v2)(i:ev n env (.tmp a)=v3)(k:ev n env (.tmp c)=v4)(h:R (.returned (.tuple #[v1,v2,v3,v4])) w):bodyPost P g R .ret (act n env) w:=by
 refine⟨Z,_,?_,h⟩;have b:=congrFun (iK n env)<|.tmp t;have e:=congrFun (iK n env)<|.tmp u;have f:=congrFun (iK n env)<|.tmp a;have d:=congrFun (iK n env)<|.tmp c;rw[m]at b;rw[l]at e;rw[i]at f;rw[k]at d;simp only[Act.eval]at b e f d;rw[Array.getD_eq_getD_getElem?]at b e f d;unfold results;rw[j];simp[b,e,f,d]
end
structure Ins where
 op:Int
 a:Int
 b:Int
 c:Int
 args:List Int
deriving DecidableEq
def fT:jN Ins where
 sz:=5
 rd w A cs x:=∃KZ,cs=[.int .i64 x.op,.int .i64 x.a,.int .i64 x.b,.int .i64 x.c,KZ]/\fC dm w A KZ x.args
 len:=by rintro w A cs x ⟨KZ,rfl,h0⟩;rfl
 one:=by rintro w A cs x ⟨KZ,rfl,h0⟩ u hu;simp only[List.mem_cons,List.not_mem_nil,or_false]at hu;rcases hu with rfl|rfl|rfl|rfl|rfl<;>first|rfl|exact h0.one
 pos:=by decide
 go:=by rintro w A cs x w2 A2 K ⟨KZ,rfl,h0⟩ hk hK hA;exact⟨_,Z,h0.go hk hK hA⟩
theorem yB{w:World}{A:BS}{cs:List Value}{x:Ins}(h:fT.rd w A cs x):∃d,cs=[.int .i64 x.op,.int .i64 x.a,.int .i64 x.b,.int .i64 x.c,d]/\fC dm w A d x.args:=h
structure aX where
 params:Int
 regs:Int
 code:List Ins
deriving DecidableEq
def lN:jN aX where
 sz:=3
 rd w A cs x:=∃K3,cs=[.int .i64 x.params,.int .i64 x.regs,K3]/\fC fT w A K3 x.code
 len:=by rintro w A cs x ⟨K3,rfl,h0⟩;rfl
 one:=by rintro w A cs x ⟨K3,rfl,h0⟩ u hu;simp only[List.mem_cons,List.not_mem_nil,or_false]at hu;rcases hu with rfl|rfl|rfl<;>first|rfl|exact h0.one
 pos:=by decide
 go:=by rintro w A cs x w2 A2 K ⟨K3,rfl,h0⟩ hk hK hA;exact⟨_,Z,h0.go hk hK hA⟩
theorem qN{w:World}{A:BS}{cs:List Value}{x:aX}(h:lN.rd w A cs x):∃a,cs=[.int .i64 x.params,.int .i64 x.regs,a]/\fC fT w A a x.code:=h
structure Frame where
 proc:Int
 at_:Int
 regs:List Val
 iN:Int
deriving DecidableEq
def kD:jN Frame where
 sz:=4
 rd w A cs x:=∃K4,cs=[.int .i64 x.proc,.int .i64 x.at_,K4,.int .i64 x.iN]/\fC aW w A K4 x.regs
 len:=by rintro w A cs x ⟨K4,rfl,h0⟩;rfl
 one:=by rintro w A cs x ⟨K4,rfl,h0⟩ u hu;simp only[List.mem_cons,List.not_mem_nil,or_false]at hu;rcases hu with rfl|rfl|rfl|rfl<;>first|rfl|exact h0.one
 pos:=by decide
 go:=by rintro w A cs x w2 A2 K ⟨K4,rfl,h0⟩ hk hK hA;exact⟨_,Z,h0.go hk hK hA⟩
theorem ET{w:World}{A:BS}{cs:List Value}{x:Frame}(h:kD.rd w A cs x):∃a,cs=[.int .i64 x.proc,.int .i64 x.at_,a,.int .i64 x.iN]/\fC aW w A a x.regs:=h
structure State where
 frames:List Frame
 cells:List (List Val)
 status:Int
 bR:Int
deriving DecidableEq
def aT:Li Frame Val where
 sz:=4
 enc x u:=[.int .i64 x.proc,.int .i64 x.at_,u,.int .i64 x.iN]
 sub x:=x.regs
 put x s:={x with regs:=s}
 len _ _:=rfl
 one:=by intro x u h c hc;simp only[List.mem_cons,List.not_mem_nil,or_false]at hc;rcases hc with rfl|rfl|rfl|rfl<;>first|rfl|exact h
 pos:=by decide
 Qx _ _ _:=rfl
 Qy _ _:=rfl
theorem FM:∀w A (x:Frame) u,fC aW w A u (aT.sub x)->kD.rd w A (aT.enc x u) x:=fun _ _ _ u h=>⟨u,rfl,h⟩
open Go.RowKit Go.Proofs
section
variable{P:Program}{ops:Array Oper}{Q:Exit->Act->World->Prop}{n:Nat}{env:Nat->Value}{w w' w0:World}{M K:BS}{hp:Nat->Chunk}{rest:List Oper}
 {d:Option Nat} {op:Op} {ty:TypeId} {pos:String} {af:Array Edge} {v:Value} {g:Option (Nat×Bool)} {T:TypeId} {ρ:Operand->Value} {x y:Operand}
theorem VY{e:Func}{R:Ending->World->Prop}{a:Tmp}{T:TypeId}{zs vs:List Value}{b:Nat}(g:e.results= #[.cell a T])(j:ev n env (.tmp a)=.pointer (some ⟨b,0,none⟩))
  (l:SH w0 M K w hp) (i:Nat) (k:hp i=.blk b vs) (f:xc P T zs) (m:vs.length=zs.length) (h:R (.returned (.agg vs.toArray)) w):bodyPost P e R .ret (act n env) w:=by
 refine⟨Z,_,?_,h⟩;have c:=congrFun (iK n env)<|.tmp a;rw[j]at c;simp only[Act.eval]at c;rw[Array.getD_eq_getD_getElem?]at c;have d:=DI (P:=P) l k f m Z;unfold results;rw[g];simp[c,asAddr,d]
end
structure dB where
 f:List dw
 code:List Ins
 regs:Int
open Go.RowKit Go.Proofs
def RngP{α:Type}(f:α->Value)(m r:Nat)(c:Option (Int×α))(left:List (Int×α))(w:World):Prop:=
 m≠r/\∃d a b,w.heap[m]? =some (.map d a)/\AL d a/\w.heap[r]? =some (.mapIter (some m) a b a)/\
  (leftOf d b).toList.map (fun e=>(e.key,e.val))=left.map (fun p=>(Value.int .i64 p.1,f p.2))/\
  ∀p,c=some p->∃e∈d.toList,b.back?=some e.born/\e.key=.int .i64 p.1/\e.val=f p.2
def Ox{α:Type}(f:α->Value)(m r:Nat)(last:Option (Int×α))(left:List (Int×α)):Pce where
  own x:=x=m\/x=r
  P w _:=RngP f m r last left w
  lt:=by
    rintro w A x⟨_,es,clock,seen,h1,_,h2,_⟩(rfl|rfl)
    · exact iq h1
    · exact iq h2
  go:=by
    rintro w w' A A' K⟨h0,es,clock,seen,h1,h2,h3,h4⟩hk hK hKo hA;exact⟨h0,es,clock,seen,hk.blk h1 fun h=>hKo m h<|.inl Z,h2,hk.blk h3 fun h=>hKo r h<|.inr Z,h4⟩
section
variable{P:Program}{ops:Array Oper}{Q:Exit->Act->World->Prop}{n:Nat}{env:Nat->Value}{w w' w0:World}{M K:BS}{hp:Nat->Chunk}{rest:List Oper}
 {d:Option Nat} {op:Op} {ty:TypeId} {pos:String} {af:Array Edge} {v:Value} {g:Option (Nat×Bool)} {T:TypeId} {ρ:Operand->Value} {x y:Operand} {α:Type} {f:α->Value}
theorem w_range{z:Value}{m:Nat}{eD:List (Int×Value)}(l:List (Int×α))(h:SH w0 M K w hp)(i:Nat)(s:hp i=.mp m eD)(B:MapOf P T z)(u:ev n env x=.map (some m))(y:eD=l.map fun p=>(p.1,f p.2))
    (k:∀w' r,SH w0 M K w' (bN hp i (.dn (Ox f m r none l)))->WL P ops Q rest n (fq env d (.pointer (some ⟨r,0,none⟩))) w'):WL P ops Q (⟨d,.range T x,ty,pos,af,none⟩::rest) n env w:=by
  obtain⟨t,E,C,I,G⟩:=B.desc;obtain⟨e,a,g,q,v⟩:=h.TR i s;have c:(execOp (ev n env) ⟨d,.range T x,ty,pos,af,none⟩).run P w=.ok (.value<|.pointer<|some ⟨w.heap.size,0,none⟩) (w.alloc<|.mapIter (some m) a #[] a):=by
    simp only[execOp,u];simp[run_range_map w T t E m e a C g]
  refine F c<|k _ _ ?_;have o:=iq g;refine h.step i (N:=BE) (Grow.alloc _ _) (fun _ h=>h.elim) (fun b j A=>?_) ?_
  · rw[s];rcases j with rfl|rfl
    · rfl
    · exact absurd A<|Nat.lt_irrefl _
  · refine⟨Nat.ne_of_lt o,e,a,#[],by rw[(Grow.alloc _ _).blk g],v,heap_alloc_new _ _,?_,fun p h=>by cases h⟩;have:leftOf e #[]=e:=by unfold leftOf;exact Array.filter_eq_self.2 (fun x _=>by simp)
    rw[this,q,y,List.map_map];rfl
theorem Lj{r:Nat}{a:Option Nat}{s c:Nat}{d:Array Nat}(o:Obj)(b:w.heap[r]? =some (.mapIter a s d c)):(setObj r o).run P w=.ok () (qM w r o):=by
 simp only[setObj,Sem.run,b];rfl
theorem run_next_any(ty:TypeId){m r a:Nat}{f:Array MapEntry}{b:Array Nat}(y:w.heap[m]? =some (.map f a))(s:w.heap[r]? =some (.mapIter (some m) a b a))(u:∀e∈f.toList,e.born<a):
    ((leftOf f b).size=0/\(Instr.next (.pointer (some ⟨r,0,none⟩)) false ty).run P w=.ok (.tuple #[.bool false]) w)\/
    ∃e∈(leftOf f b).toList,∃d:World,(d=w\/d=w.drew)/\(Instr.next (.pointer (some ⟨r,0,none⟩)) false ty).run P w=.ok (.tuple #[.bool true,e.key,e.val]) (qM d r (.mapIter (some m) a (b.push e.born) a)):=by
  have l:(getObj r).run P w=.ok (.mapIter (some m) a b a) w:=by simp[getObj,Sem.run,s]
  have n:(getObj m).run P w=.ok (.map f a) w:=by simp[getObj,Sem.run,y]
  simp only[Instr.next,Sem.run_bind,l,n,Result.andThen_ok,next_test_false b f a a u (Nat.le_refl _),Bool.false_eq_true,if_false];unfold leftOf;have c:∀x∈(Array.filter (fun e=> !b.contains e.born) f).toList,x.born<a:=fun x g=>u x (by simp at g⊢;exact g.1);generalize Array.filter (fun e=> !b.contains e.born) f=L at c⊢;have v:L.filter (fun x=>decide<|x.born<a)=L:=Array.filter_eq_self.2 (fun x g=>by simpa using c x (by simpa using g));have A:L.filter (fun x=>decide<|x.born≥a)= #[]:=by
    rw[Array.filter_eq_empty_iff];intro x g;have:=c x (by simpa using g);simp;omega
  simp only[v,A,Array.append_empty];by_cases q:L.size=0
  · left;have:L= #[]:=Array.eq_empty_of_size_eq_zero q;subst this;refine⟨Z,?_⟩;simp[choose,Sem.run,Question.forced]
  · right;have p:L.isEmpty=false:=by simp[Array.isEmpty,q]
    simp only[p,Bool.false_eq_true,if_false,Array.empty_append,Array.size_map];have o:∃(j:Nat) (d:World),j<L.size/\(d=w\/d=w.drew)/\(choose<|Question.mapNext L.size).run P w=.ok j d:=by
      by_cases t:L.size<=1
      · exact⟨0,w,by omega,.inl Z,by simp[choose,Sem.run,Question.forced,t]⟩
      · exact⟨_,w.drew,Nat.mod_lt _ V,.inr Z,by
          simp only[choose,Sem.run,Question.forced,decide_eq_true_eq,t,if_false,Question.cut];rfl⟩
    obtain⟨j,d,z,i,h⟩:=o;refine⟨L[j],by simp,d,i,?_⟩;have k:d.heap[r]? =some (.mapIter (some m) a b a):=by rcases i with rfl|rfl<;>exact s
    simp only[h,Array.getElem?_map,Array.getElem?_eq_getElem z,Option.map_some,Sem.run_bind,Lj _ k,Result.andThen_ok];rfl
theorem RY(c:Array MapEntry)(a:Array Nat)(b:Nat):(leftOf c (a.push b)).toList=(leftOf c a).toList.filter (fun x=>x.born !=b):=by
 unfold leftOf;rw[Array.toList_filter,Array.toList_filter,List.filter_filter];apply List.filter_congr;intro x _;have:(a.push b).contains x.born=(a.contains x.born||(x.born==b)):=by
  rw[Bool.eq_iff_iff];simp[Array.contains_iff_mem]
 rw[this];cases a.contains x.born<;>cases hq:(x.born==b)<;>simp[bne,hq]
theorem w_next{m r:Nat}{s:Option (Int×α)}{left:List (Int×α)}(h:SH w0 M K w hp)(i:Nat)(S:hp i=.dn (Ox f m r s left))(j:ev n env x=.pointer (some ⟨r,0,none⟩))
    (k0:left=[]->WL P ops Q rest n (fq env d (.tuple #[.bool false])) w)
    (X:∀p left' w',left.Perm (p::left')->SH w0 M K w' (bN hp i (.dn (Ox f m r (some p) left')))->WL P ops Q rest n (fq env d (.tuple #[.bool true,.int .i64 p.1,f p.2])) w'):
    WL P ops Q (⟨d,.next x false,ty,pos,af,none⟩::rest) n env w:=by
  have N:=h.ok i;rw[S]at N;obtain⟨y,o,a,c,I,G,L,z,h5⟩:=N;rcases run_next_any (P:=P) ty I L G.1 with⟨g1,g2⟩|⟨e,he,w1,hw1,g2⟩
  · have hl:left=[]:=by
      have:(leftOf o c).toList=[]:=List.eq_nil_of_length_eq_zero (by simpa using g1);rw[this]at z;cases left with
      |nil=>rfl
      |cons p l=>cases z
    refine F (v:=.tuple #[.bool false]) (w':=w) ?_<|k0 hl;simp only[execOp,j];simp[g2]
  · obtain⟨A,B,k⟩:=List.append_of_mem he;rw[k,List.map_append,List.map_cons]at z;obtain⟨R,l2,rfl,q1,q2⟩:=List.map_eq_append_iff.1 z.symm;obtain⟨p,O,rfl,t,q4⟩:=List.map_eq_cons_iff.1 q2;simp only[Prod.mk.injEq]at t;have q:=iq L;have g:Grow w w1:=by
      rcases hw1 with rfl|rfl
      · exact bG.refl _ _
      · exact⟨Z,Z,Z,Nat.le_refl _,fun _ _ _=>rfl⟩
    have hk:bG (fun x=>x=m\/x=r) w (qM w1 r<|.mapIter (some m) a (c.push e.born) a):=bG.step (g.weaken fun _ h _=>h.elim) (bG.qM _ _ _) fun x j _=>.inr j;have E:(qM w1 r<|.mapIter (some m) a (c.push e.born) a).heap[m]? =some (.map o a):=by
      rw[(bG.qM w1 r _).block m y (Nat.lt_of_lt_of_le (iq I) g.size),g.blk I]
    refine F (v:=.tuple #[.bool true,.int .i64 p.1,f p.2]) (w':=qM w1 r<|.mapIter (some m) a (c.push e.born) a) ?_<|X p (R++O) _ (List.perm_middle) ?_
    · rw[t.1,t.2];simp only[execOp,j];simp[g2]
    · refine h.BH (S':=Ox f m r (some p)<|R++O) i S ?_ hk fun b T _=>T;refine⟨y,o,a,c.push e.born,E,G,rE<|Nat.lt_of_lt_of_le q g.size,?_,fun p' C=>?_⟩
      · rw[RY,k];have u:((leftOf o c).toList.map (·.born)).Nodup:=by
          unfold leftOf;rw[Array.toList_filter];exact(G.2.sublist ((List.filter_sublist (l:=o.toList)).map _))
        rw[k,List.map_append,List.map_cons,List.nodup_append]at u;obtain⟨n1,n2,n3⟩:=u;rw[List.filter_append,List.filter_cons_of_neg zq3,List.filter_eq_self.2 (fun x j=>?_),List.filter_eq_self.2 (fun x j=>?_),List.map_append,List.map_append,<-q1,<-q4]
        · have:=(List.nodup_cons.1 n2).1;simp only[bne_iff_ne,ne_eq,decide_not,Bool.not_eq_true',beq_eq_false_iff_ne];intro J;exact this (by rw[<-J];exact List.mem_map.2 ⟨x,j,Z⟩)
        · simp only[bne_iff_ne,ne_eq,decide_not,Bool.not_eq_true',beq_eq_false_iff_ne];intro J;exact n3 x.born (List.mem_map.2 ⟨x,j,Z⟩) e.born zq3 J
      · cases C;refine⟨e,?_,by simp,t.1.symm,t.2.symm⟩;have:e∈(leftOf o c).toList:=he;unfold leftOf at this;rw[Array.toList_filter]at this;exact(List.mem_filter.1 this).1
theorem r_entry{m r:Nat}{p:Int×α}{left:List (Int×α)}(h:SH w0 M K w hp)(i:Nat)(u:hp i=.dn (Ox f m r (some p) left))(v:ρ x=.pointer (some ⟨r,0,none⟩)):
    (execOp ρ ⟨d,.entry x,ty,pos,af,g⟩).run P w=.ok (.value (.tuple #[.int .i64 p.1,f p.2])) w:=by
  have l:=h.ok i;rw[u]at l;obtain⟨C,k,a,b,A,s,n,E,o⟩:=l;obtain⟨e,B,q,z,t⟩:=o p Z;have c:(getObj r).run P w=.ok (.mapIter (some m) a b a) w:=by simp[getObj,Sem.run,n]
  have j:(getObj m).run P w=.ok (.map k a) w:=by simp[getObj,Sem.run,A]
  have y:k.find? (·.born==e.born)=some e:=by rw[<-Array.find?_toList];exact find_born e k.toList s.2 B
  simp only[execOp,v];have:(Instr.entry<|.pointer<|some ⟨r,0,none⟩).run P w=.ok (.tuple #[.int .i64 p.1,f p.2]) w:=by
    simp only[Instr.entry,Sem.run_bind,c,j,Result.andThen_ok,q,bne_self_eq_false,Bool.false_eq_true,if_false,y];rw[z,t];rfl
  simp[this]
theorem SH.Pb{m r:Nat}{d:Option (Int×α)}{left:List (Int×α)}(h:SH w0 M K w hp)(i:Nat)(j:hp i=.dn (Ox f m r d left)):SH w0 M K w (bN hp i (.dn (Ox f m r none left))):=by
 have g:=h.ok i;rw[j]at g;obtain⟨e,s,a,c,o,n,k,q,t⟩:=g;exact h.BH (S':=Ox f m r none left) i j ⟨e,s,a,c,o,n,k,q,fun p h=>by cases h⟩ (bG.refl _ _) fun b l _=>l
end
def Mo{α σ:Type}(step:α->σ->Option σ):List α->σ->Option σ
 |[],s=>some s
 |a::l,s=>(step a s).bind (Mo step l)
def vQ{α σ:Type}(step:α->σ->Option σ)(L:List α)(s a:σ):Prop:=∀p,p.Perm L->Mo step p s=some a
open Classical in
noncomputable def BI{α σ:Type}(step:α->σ->Option σ)(L:List α)(s:σ):Option σ:=if h:∃a,vQ step L s a then some h.choose else none
theorem o_fold{α σ:Type}{step:α->σ->Option σ}{L:List α}{s a:σ}(h:BI step L s=some a):vQ step L s a:=by
  unfold BI at h;split at h
  · rename_i b;cases h;exact b.choose_spec
  · cases h
theorem TY{α σ:Type}{step:α->σ->Option σ}{L:List α}{s a:σ}(h:vQ step L s a):BI step L s=some a:=by
 have b:∃a,vQ step L s a:=⟨a,h⟩;unfold BI;rw[dif_pos b];have c:=b.choose_spec L<|List.Perm.refl _;rw[h L (List.Perm.refl _)]at c;exact c.symm
theorem vQ.nil{α σ:Type}{step:α->σ->Option σ}{s a:σ}(h:vQ step [] s a):s=a:=by
 have:=h []<|List.Perm.refl _;exact Option.some.inj this
theorem vQ.cons{α σ:Type}{step:α->σ->Option σ}{L L':List α}{p:α}{s a:σ}(h:vQ step L s a)(hp:L.Perm (p::L')):∃b,step p s=some b/\vQ step L' b a:=by
 have d:=h (p::L') hp.symm;obtain⟨b,c,f⟩:=aC d;refine⟨b,c,fun q e=>?_⟩;have:=h (p::q) ((e.cons p).trans hp.symm);unfold Mo at this;rw[c]at this;exact this
open Go.RowKit Go.Proofs
section
variable{w0 w w':World}{M K:BS}{hp:Nat->Chunk}{C:Chunk}
theorem SH.DL{b:Nat}{cs:List Value}(h:SH w M K w hp)(i:Nat)(ho:∃E,w.heap[b]? =some (.cells cs.toArray E (0,0)))(c:¬C.own' b)(hn:∀b,gN hp b->C.own' b):SH w M K w (bN hp i (.pt b 0 cs)):=by
 obtain⟨E,a⟩:=ho;exact h.pt i (fun h=>c<|hn b h) ⟨_,E,_,a,by simp⟩
theorem uH{i b o:Nat}{cs:List Value}(hn:∀b,gN hp b->C.own' b):∀x,gN (bN hp i (.pt b o cs)) x->C.own' x:=by
  rintro x⟨j,a⟩;by_cases e:j=i
  · subst e;rw[bX]at a;exact a.elim
  · rw[ek e]at a;exact hn x ⟨j,a⟩
theorem SH.ZF{c e f:Chunk}(h:SH w0 M K w hp)(i j k:Nat)(l:i≠j)(d:i≠k)(m:j≠k)(n:hp i=c)(o:hp j=e)(g:hp k=f)(p:bG (fun b=>c.own' b\/e.own' b\/f.own' b) w w'):
    SH w0 M K w' (bN (bN (bN (bN (bN hp j .no) i (.two (hp i) (hp j))) k .no) i (.two ((bN (bN hp j .no) i (.two (hp i) (hp j))) i) ((bN (bN hp j .no) i (.two (hp i) (hp j))) k))) i .no):=by
  have q:=h.pair i j l;have r:=q.pair i k d;refine r.pG i (bX _ _ _) ?_;rw[bX,ek (fun e=>d e.symm),ek (fun e=>m e.symm),n,o,g];refine p.weaken fun b a _=>?_;rcases a with a|a|a
  · exact .inl<|.inl a
  · exact .inl<|.inr a
  · exact .inr a
end
section
variable{α:Type}{R:jN α}{E:TypeId}{w0 w w':World}{M K A:BS}{hp:Nat->Chunk}{C:Chunk}{v:Value}{l:List α}
theorem eP.srcB{B:BS}(h:eP R E w A v l)(k:∀b,ob v b->¬B b):ik R w B A v l:=by
  have j:=h.src;obtain⟨xs,t,x⟩:=h;rcases t.2 with⟨rfl,hn⟩|⟨g,cap,cur,rfl,e1,e2,e3,e4,e5,e6⟩
  · have:l=[]:=List.eq_nil_of_length_eq_zero hn;subst this;exact ik.nil
  · obtain⟨a,d,e,p,q2,u,n⟩:=j;refine⟨a,d,e,p,q2,u,fun i s=>?_⟩;obtain⟨b,o,cells,c,q,f,y,r,m⟩:=n i s;refine⟨b,o,cells,c,q,f,?_,r,m⟩;subst f;simp only[Value.slice.injEq,Option.some.injEq,Addr.mk.injEq]at e;exact k b (by simp[ob,e.1.1])
theorem BJ{i:Nat}(hn:∀b,gN hp b->C.own' b):∀b,gN (bN hp i (.sr R v l)) b->C.own' b:=by
  rintro b⟨j,a⟩;by_cases e:j=i
  · subst e;rw[bX]at a;exact a.elim
  · rw[ek e]at a;exact hn b ⟨j,a⟩
theorem SH.ZG(h:SH w M K w hp)(i:Nat)(ho:ik R w C.own' (fun b=>M b\/C.own' b) v l)(hn:∀b,gN hp b->C.own' b):SH w M K w (bN hp i (.sr R v l)):=
 h.know i (fun _ h=>h) (ho.sub (fun b a _=>hn b a) (fun b a _=>a.imp id (hn b)))
theorem ZH{i:Nat}(c:hp i=C):∀b,(M b\/rest hp i b)\/C.own' b->SH.A M hp b:=by
  rintro b((a|a)|a)
  · exact .inl a
  · exact .inr<|jO a
  · exact .inr ⟨i,by rw[c];exact a⟩
theorem SH.ownSr(h:SH w0 M K w hp)(i j:Nat)(c:i≠j)(e:hp j=.own R E v l)(d:hp i=C):ik R w C.own' (fun b=>(M b\/rest hp i b)\/C.own' b) v l:=
 ((h.dS j e).srcB (B:=C.own') (fun b a f=>h.apart i j c b (by rw[d];exact f) (by rw[e];exact a))).sub (fun _ h _=>h) (fun b a _=>ZH d b a)
theorem SH.srSr(h:SH w0 M K w hp)(i j:Nat)(d:hp j=.sr R v l)(c:hp i=C):ik R w C.own' (fun b=>(M b\/rest hp i b)\/C.own' b) v l:=
 (h.WW j d).sub (fun b a _=>⟨i,by rw[c];exact a⟩) (fun b a _=>ZH c b a)
end
def Ip(s:Str):Option (List Str):=gD (s.length<4294967281/\(s.all fun b=>decide (b.toNat<128))=true/\(Lib.fields s).length<=4294967281) (some (Lib.fields s))
theorem ZI{P:Program}{f:FuncId}{E:TypeId}{g q:Nat}{w0:World}{M:BS}(d:∀(s:ByteArray) (w:World),s.size<4294967281->(∀(j:Nat) b,s.data.toList[j]? =some b->b.toNat<128)->Lib.TabIs P w "strings.asciiSpace" .u8 Lib.asciiSpaceTab->
    Calls P f #[.string s] w fun e w'=>e=.returned (.slice (some ⟨w.heap.size,0,none⟩) (Lib.fields s.data.toList).length (Lib.fields s.data.toList).length)/\w'=w.alloc (.cells ((Lib.fields s.data.toList).map fun l=>Value.string ⟨l.toArray⟩).toArray E))
    (m:P.globalNamed "strings.asciiSpace" =some q) (k:∀b,M b->b<w0.heap.size) (i:yZ P g w0) {s:Str} {r:List Str} (a:Ip s=some r):Calls P f #[bD s] w0 (fun e w'=>Grow w0 w'/\∃u,e=.returned u/\fC qD w' M u r):=by
  obtain⟨⟨n,h,o⟩,a⟩:=bg a;cases a;refine(d ⟨s.toArray⟩ w0 (by rw[rF];exact n) (fun j b c=>?_) (i.asc q m)).mono ?_
  · have:=List.all_eq_true.1 h b<|List.mem_of_getElem? (by simpa using c);simpa using this
  · rintro e w'⟨rfl,rfl⟩;refine⟨Grow.alloc _ _,_,Z,?_⟩;have:=VW (E:=E) (l:=(Lib.fields s).map fun l=>(⟨l.toArray⟩:ByteArray)) (cap:=(Lib.fields s).length) (cells:=((Lib.fields s).map fun l=>Value.string ⟨l.toArray⟩).toArray) w0 k (by rw[List.length_map];exact Nat.le_refl _) (by unfold maxLen;omega) (fun j p=>by simp);rw[List.length_map,List.map_map]at this;have e:(List.map (((fun x=>x.data.toList):ByteArray->Str)∘fun l=>⟨l.toArray⟩)<|Lib.fields s)=Lib.fields s:=by simp[Function.comp_def]
    simpa[Function.comp_def]using this
open Go.RowKit Go.Proofs Go.ChangeShapes
def Gs(b o:Nat)(r:Nat×Nat×Nat):Bool:=Nat.beq r.1 b&&(Nat.ble r.2.1 o&&Nat.blt o (r.2.1+r.2.2))
def Jq(b o:Nat):List (Nat×Nat×Nat)->List (Nat×Nat×Nat)
 |[]=>[(b,o,1)]
 |(c,s,l)::r=>bif Nat.beq c b&&Nat.beq (o+1) s then(b,o,l+1)::r else(b,o,1)::(c,s,l)::r
def Qz:List MemPlace->Option (List (Nat×Nat×Nat))
 |[]=>some []
 | .cell b o::r=>(Qz r).bind fun a=>bif a.any (Gs b o)then none else some (Jq b o a)
 |_::_=>none
theorem TZ{b o c q:Nat}{a:List (Nat×Nat×Nat)}(h:a.any (Gs c q)=true):(Jq b o a).any (Gs c q)=true:=by
  cases a with
  |nil=>cases h
  |cons r a=>
    obtain⟨d,s,l⟩:=r;have e:Jq b o ((d,s,l)::a)=bif Nat.beq d b&&Nat.beq (o+1) s then(b,o,l+1)::a else(b,o,1)::(d,s,l)::a:=rfl;rw[e];cases hc:(Nat.beq d b&&Nat.beq (o+1) s)with
    |false=>rw[cond_false,List.any_cons,h,Bool.or_true]
    |true=>
      rw[cond_true];simp only[Bool.and_eq_true,Nat.beq_eq]at hc;obtain⟨rfl,rfl⟩:=hc;rw[List.any_cons]at h⊢;rcases Bool.or_eq_true_iff.1 h with h|h
      · unfold Gs at h⊢;simp only[Bool.and_eq_true,Nat.beq_eq,Nat.ble_eq,Nat.blt_eq]at h;have:(Nat.beq d c&&(Nat.ble o q&&Nat.blt q (o+(l+1))))=true:=by
          simp only[Bool.and_eq_true,Nat.beq_eq,Nat.ble_eq,Nat.blt_eq];omega
        rw[this,Bool.true_or]
      · rw[h,Bool.or_true]
theorem T9{b o:Nat}{a:List (Nat×Nat×Nat)}:(Jq b o a).any (Gs b o)=true:=by
 cases a with
 |nil=>simp[Jq,Gs]
 |cons r a=>
  obtain⟨d,s,l⟩:=r;have e:Jq b o ((d,s,l)::a)=bif Nat.beq d b&&Nat.beq (o+1) s then(b,o,l+1)::a else(b,o,1)::(d,s,l)::a:=rfl;rw[e];cases (Nat.beq d b&&Nat.beq (o+1) s)with
  |false=>simp[Gs]
  |true=>simp[Gs]
theorem Iq:∀{ps:List MemPlace} {d:List (Nat×Nat×Nat)},Qz ps=some d->ps.Nodup/\∀b o,MemPlace.cell b o∈ps->d.any (Gs b o)=true
  |[],d,h=>⟨List.nodup_nil,fun _ _ a=>by cases a⟩
  | .cell b o::r,d,h=>by
    unfold Qz at h;obtain⟨q,i,h⟩:=Option.bind_eq_some_iff.1 h;obtain⟨g,f⟩:=Iq i;cases hc:q.any (Gs b o)with
    |true=>rw[hc]at h;cases h
    |false=>
      rw[hc,cond_false]at h;cases h;refine⟨List.nodup_cons.2 ⟨fun a=>(by rw[f b o a]at hc;cases hc),g⟩,fun c p a=>?_⟩;rcases List.mem_cons.1 a with e|a
      · cases e;exact T9
      · exact TZ<|f c p a
  | .map _::_,d,h=>by cases h
theorem Ll{P:Program}{w:World}{l:List (String×DataW Unit)}(fuel:Nat)(h:(DataW.laidRun P w fuel (l.map (·.1))).map (·.1)=some l)
    (a:(DataW.laidRun P w fuel (l.map (·.1))).map (fun x=>(Qz x.2).isSome&&laidRowsB P w x.2)=some true):laidMet P l w:=by
  cases hx:DataW.laidRun P w fuel (l.map (·.1))with
  |none=>simp[hx]at h
  |some x=>
    obtain⟨d,ps⟩:=x;simp only[hx,Option.map_some,Option.some.injEq]at h a;subst h;simp only[Bool.and_eq_true]at a;obtain⟨c,b⟩:=Option.isSome_iff_exists.1 a.1;exact laidMet_of_run fuel hx (decide_eq_true (Iq b).1) a.2
structure eY where
 at_:Int
 ok:Bool
deriving DecidableEq
open Go.RowKit Go.Proofs
section
variable{α β:Type}{N:Li α β}{R:jN β}{E Es T:TypeId}{w0 w w':World}{M K A:BS}{hp:Nat->Chunk}{v u u':Value}{us us':List Value}{L L':List α}{ss ss':List (List β)}{s:List β}{x y:α}{k:Nat}{ho ho':Nat->Prop}{C:Chunk}
theorem K5{b:Type}(P:Nat->b->Prop):∀(n:Nat),(∀i,i<n->∃u,P i u)->∃us:List b,us.length=n/\∀i u,us[i]? =some u->P i u
  |0,_=>⟨[],rfl,fun i u h=>by cases h⟩
  |n+1,h=>by
    obtain⟨us,c,e⟩:=K5 P n fun i f=>h i V;obtain⟨u,d⟩:=h n V;refine⟨us++[u],by simp[c],fun i z a=>?_⟩;rw[List.getElem?_append]at a;split at a
    · exact e i z a
    · rename_i g;have:i-us.length=0:=by
        rcases Nat.eq_zero_or_pos (i-us.length)with h0|h0
        · exact h0
        · rw[List.getElem?_eq_none (by simp;omega)]at a;cases a
      rw[this]at a;cases a;obtain rfl:i=n:=by omega
      exact d
def hge(k:Nat):Nat->Prop:=fun i=>k<=i
def Ir{β:Type}(R:jN β)(k:Nat)(us:List Value)(ss:List (List β)):Pce where
 own:=BE
 P w A:=∀i u s,k<=i->us[i]? =some u->ss[i]? =some s->fC R w A u s
 lt:=fun _ h=>h.elim
 go:=fun h hk hK hKo hA i u s hi hu hs=>fC.go (h i u s hi hu hs) hk hK (fun b hb hl=>(hA b hb hl).elim id (fun h=>h.elim))
theorem SH.famHo(h:SH w0 M K w hp)(j:Nat)(ho':Nat->Prop)(a:hp j=.dn (aY R E ho us ss))(d:∀i,ho i↔ho' i):SH w0 M K w (bN hp j (.dn (aY R E ho' us ss))):=by
 have e:ho=ho':=funext fun i=>propext<|d i;subst e;exact h.BH (S':=aY R E ho us ss) j a (h.O9 j a) (bG.refl _ _) fun b c _=>c
theorem SH.thaw{R':jN α}(h:SH w0 M K w hp)(i j q:Nat)(k:hp i=.own R' E v L)(I:i≠j)(Q:i≠q)(G:j≠q)(l:R'.sz=N.sz)(op:∀w A cs x,R'.rd w A cs x->∃u,cs=N.enc x u/\fC R w A u (N.sub x)):
    ∃us,us.length=L.length/\SH w0 M K w (bN (bN (bN hp i (.own N.raw E v (L.zip us))) j (.dn (aY R Es (hge 0) us (L.map N.sub)))) q (.dn (Ir R 0 us (L.map N.sub)))):=by
  have ho:=h.dS i k;have J:=ho;obtain⟨xs,X,T⟩:=ho;obtain⟨us,r,m⟩:=K5 (fun i u=>∃k:i<L.length,(xs.drop (i*R'.sz)).take R'.sz=N.enc L[i] u/\fC R w (fun b=>SH.A M hp b\/ob v b) u (N.sub L[i])) L.length (fun i k=>by
    obtain⟨u,o,n⟩:=op _ _ _ _<|T i k;exact⟨u,k,o,n⟩)
  refine⟨us,r,?_⟩;have S:SH w0 M K w (bN hp i<|.own N.raw E v<|L.zip us):=by
    refine h.step i (bG.refl BE w) (fun _ h=>h.elim) (fun b a _=>by rw[k];exact a) ⟨xs,?_,?_⟩
    · rw[dU r];show w.ownsRow 0 E N.sz v L.length xs;rw[<-l];exact X
    · intro q C;have O:q<L.length:=by rw[dU r]at C;exact C
      have y:q<us.length:=by omega
      obtain⟨_,o,n⟩:=m q us[q]<|List.getElem?_eq_getElem y;refine⟨?_,?_⟩
      · show(xs.drop<|q*N.sz).take N.sz=N.enc ((L.zip us)[q]).1 ((L.zip us)[q]).2;rw[List.getElem_zip,<-l];exact o
      · rw[List.getElem_zip];exact n.one
  have d:∀b,¬Ag (hge 0) us b:=fun b⟨i,u,_,hn,_⟩=>hn<|Nat.zero_le i;have P:SH w0 M K w (bN (bN hp i<|.own N.raw E v<|L.zip us) j<|.dn<|aY R Es (hge 0) us<|L.map N.sub):=
    S.know j (c:=.dn (aY R Es (hge 0) us (L.map N.sub))) (fun b a=>d b a) ⟨by rw[List.length_map];exact r,fun i u s _ _ hn=>absurd (Nat.zero_le i) hn,fun i j u v _ hn=>absurd (Nat.zero_le i) hn⟩
  refine P.know q (c:=.dn<|Ir R 0 us<|L.map N.sub) (fun b a=>a) ?_;intro p u s _ hu z;obtain⟨t,o,n⟩:=m p u hu;rw[List.getElem?_map,List.getElem?_eq_getElem t]at z;cases z;have f:∀b,(M b\/gN (bN (bN hp i<|.own N.raw E v<|L.zip us) j<|.dn<|aY R Es (hge 0) us<|L.map N.sub) b)->SH.A M hp b\/ob v b:=by
    rintro b(a|⟨c,g⟩)
    · exact .inl<|.inl a
    · by_cases e:c=j
      · subst e;rw[bX]at g;exact absurd g (d b)
      · rw[ek e]at g;by_cases B:c=i
        · subst B;rw[bX]at g;exact .inr g
        · rw[ek B]at g;exact .inl (.inr ⟨c,g⟩)
  exact n.sub (fun b a _=>f b a) fun b a _=>f b a
theorem SH.rdpAt(h:SH w0 M K w hp)(q:Nat)(c:hp q=.dn (Ir R k us (L.map N.sub)))(d:us.length=L.length)(a:L[k]? =some x):∃u,us[k]? =some u/\fC R w (SH.A M hp) u (N.sub x):=by
 obtain⟨u,b⟩:=us_at d a;exact⟨u,b,h.RV q c k u _ (Nat.le_refl _) b (by rw[List.getElem?_map,a];rfl)⟩
theorem SH.rdpStep(h:SH w0 M K w hp)(q:Nat)(a:hp q=.dn (Ir R k us ss)):SH w0 M K w (bN hp q (.dn (Ir R (k+1) (us.set k u) (ss.set k s)))):=by
 have e:=h.RV q a;refine h.BH (S':=Ir R (k+1) (us.set k u)<|ss.set k s) q a ?_ (bG.refl _ _) fun b f _=>f;intro i z t g c d;rw[List.getElem?_set_ne V]at c d;exact e i z t V c d
theorem SH.pendPut(h:SH w0 M K w hp)(j q m:Nat)(y:α)(g:hp j=.dn (aY R Es (hge k) us (L.map N.sub)))(B:hp q=.dn (Ir R k us (L.map N.sub)))(o:hp m=.own R Es u s)(c:j≠q)(b:j≠m)(d:q≠m)(p:L[k]? =some x)(f:us[k]? =some u')(t:N.sub y=s):
    SH w0 M K w (bN (bN (bN (bN (bN hp q (.dn (Ir R (k+1) (us.set k u) ((L.map N.sub).set k s)))) j (.dn (aY R Es (hge k) (us.set k u) ((L.map N.sub).set k s)))) m .no) j (.dn (aY R Es (hge (k+1)) (us.set k u) (((L.map N.sub).set k s).set k s)))) j (.dn (aY R Es (hge (k+1)) (us.set k u) ((L.set k y).map N.sub)))):=by
  have A:=h.rdpStep (u:=u) (s:=s) q B;have l:=h.iI j g;have z:=A.ZB (us':=us.set k u) (ss':=(L.map N.sub).set k s) j (by rw[ek c];exact g) (by simp[l]) (fun i a=>by
    have:k≠i:=fun e=>a (by subst e;exact Nat.le_refl _);rw[List.getElem?_set_ne this,List.getElem?_set_ne this];exact⟨Z,Z⟩)
  have v:=Jp p;have n:=z.Mm j m (k:=k) (u:=u) (s:=s) (bX _ _ _) (by rw[ek (fun e=>b e.symm),ek (fun e=>d e.symm)];exact o) b (Xf f) (Nat.le_refl k) (hge (k+1)) (fun i=>⟨fun a=>by
    rcases Nat.eq_or_lt_of_le (show k<=i from a)with e|e
    · exact .inr e.symm
    · exact .inl e,fun a=>a.elim (fun a=>Nat.le_of_succ_le a) (fun e=>by subst e;exact Nat.le_refl _)⟩) (fun a=>absurd a (Nat.not_succ_le_self k))
  have e:((L.map N.sub).set k s).set k s=(L.set k y).map N.sub:=by rw[List.set_set,List.map_set,t]
  have r:=n.ZB (us':=us.set k u) (ss':=(L.set k y).map N.sub) j (bX _ _ _) (by simp[l]) (fun i a=>⟨Z,by rw[e]⟩);exact r
theorem SH.ZJ(h:SH w0 M K w hp)(j:Nat)(m:hp j=.dn (aY R Es (hge k) us (L.map N.sub)))(q:L.length<=k):SH w0 M K w (bN hp j (.dn (aY R Es hn us (L.map N.sub)))):=by
  have r:=h.iI j m;have l:=h.O9 j m;have a:∀i (z:Value),us[i]? =some z->¬hge k i:=fun i z c o=>by
    have:=Jp c;have:k<=i:=o;omega
  refine h.BH (S':=aY R Es hn us<|L.map N.sub) j m ⟨l.1,fun i z t c p _=>?_,fun i j z v g _ _ c n=>l.2.2 i j z v g (a i z c) (a j v n) c n⟩ (bG.refl _ _) fun b⟨i,z,d,_,e⟩_=>⟨i,z,d,a i z d,e⟩;refine(l.2.1 i z t c p<|a i z c).go (bG.refl BE w) (fun _ h=>h.elim) (fun _ h=>h.elim) fun b f _=>?_;rcases f with f|⟨i,z,d,_,e⟩
  · exact .inl<|.inl f
  · exact .inl<|.inr ⟨i,z,d,a i z d,e⟩
def hmv(a:List Int):Nat->Prop:=fun i=>(i:Int)∈a
theorem SH.famMv0(h:SH w0 M K w hp)(j:Nat)(a:hp j=.dn (aY R Es hn us ss)):SH w0 M K w (bN hp j (.dn (aY R Es (hmv []) us ss))):=
 h.famHo j (hmv []) a (fun i=>⟨fun h=>h.elim,fun h=>by cases h⟩)
theorem SH.mvOpen{c:List Int}{a:Int}(h:SH w0 M K w hp)(j m:Nat)(f:hp j=.dn (aY R Es (hmv c) us (L.map N.sub)))(l:hp m=.no)(d:j≠m)(n:0<=a)(g:L[a.toNat]? =some x)(b:a∉c):
    ∃u,us[a.toNat]? =some u/\SH w0 M K w (bN (bN hp j (.dn (aY R Es (hmv (c++[a])) us (L.map N.sub)))) m (.own R Es u (N.sub x))):=by
  have o:=h.iI j f;obtain⟨u,k⟩:=us_at o g;have e:((a.toNat:Nat):Int)=a:=Int.toNat_of_nonneg n;refine⟨u,k,h.VX j m f l d k (by rw[List.getElem?_map,g];rfl) (fun h=>b (by rw[<-e];exact h)) (hmv (c++[a])) (fun i=>?_)⟩;unfold hmv;rw[List.mem_append,List.mem_singleton];constructor
  · rintro(h|h)
    · exact .inl h
    · exact .inr V
  · rintro(h|h)
    · exact .inl h
    · exact .inr (by rw[h];exact e)
theorem SH.Ua(h:SH w0 M K w hp)(i:Nat)(e:Grow w w')(d:C.Io)(c:C.holds w' (SH.A M hp) C.own')(hn:∀b,C.own' b->w.heap.size<=b):SH w0 M K w' (bN hp i C):=
  h.learn i e hn (Chunk.re d c (fun b a _=>by
    rcases a with a|a|a
    · exact .inl<|.inl a
    · exact .inl<|.inr a
    · exact .inr a))
theorem QA(ho:∀b,C.own' b->b<w0.heap.size->BE b):∀b,C.own' b->w0.heap.size<=b:=fun b a=>Nat.le_of_not_lt (fun c=>ho b a c)
theorem nLst_op{R:jN β}:∀(w:World) (A:BS) cs (x:List β),(zC R).rd w A cs x->∃u,cs=(aU β).enc x u/\fC R w A u ((aU β).sub x):=fun _ _ _ _ h=>h
end
theorem Jr:∀(w:World) (A:BS) cs (x:Frame),kD.rd w A cs x->∃u,cs=aT.enc x u/\fC aW w A u (aT.sub x):=fun _ _ _ _ h=>h
def DN{α:Type}(k:Int)(v:α):List (Int×α)->List (Int×α)
 |[]=>[(k,v)]
 |p::r=>if k=p.1 then(p.1,v)::r else p::DN k v r
theorem FN{α:Type}{f:α->Value}{k:Int}{v:α}:∀(l:List (Int×α)),Mc (l.map fun p=>(p.1,f p.2)) k (f v)=(DN k v l).map fun p=>(p.1,f p.2)
  |[]=>rfl
  |p::r=>by
    show(if k=p.1 then(p.1,f v)::_ else(p.1,f p.2)::Mc _ k (f v))=_;unfold DN;split
    · rfl
    · rw[FN r];rfl
theorem BD.keep{w w':World}{K:BS}{b:Nat}{eD:List (Int×Value)}(h:BD w b eD)(e:bG K w w')(hn:¬K b):BD w' b eD:=by
 obtain⟨g,c,f,d,a⟩:=h;exact⟨g,c,e.blk f hn,d,a⟩
section
variable{P:Program}{w:World}{ρ:Operand->Value}{d:Option Nat}{ty:TypeId}{pos:String}{af:Array Edge}{g:Option (Nat×Bool)}{T:TypeId}
theorem r_lk1M{α:Type}{f:α->Value}{zz:α}{z:Value}{x y:Operand}{b:Nat}{k:Int}(l:List (Int×α))(i:BD w b (l.map fun p=>(p.1,f p.2)))(c:MapOf P T z)(e:ρ x=.map (some b))(a:ρ y=.int .i64 k)(h:z=f zz):
  (execOp ρ ⟨d,.lookup T x y false,ty,pos,af,g⟩).run P w=.ok (.value (f ((lk k l).getD zz))) w:=by
 have:=RP (d:=d) (ty:=ty) (pos:=pos) (af:=af) (g:=g) c e a i;rw[h,LC]at this;exact this
end
end Go.LX