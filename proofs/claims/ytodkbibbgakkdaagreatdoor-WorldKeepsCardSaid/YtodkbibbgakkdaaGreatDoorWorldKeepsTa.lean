/-
  What the law WorldKeeps needs of our own library and of the walks, no more.
-/
import Derived.WalkKit
import Derived.Laws.StructEq
import Derived.ChangeKeysEq
import Derived.StillTail
import Derived.LoopN
import Derived.Deep.Quiet
import Derived.OrdersHeld
import Derived.Deep.RegionHeld3
import Derived.Deep.Slices
import Derived.MapKept
import Derived.Lib.Bytealg
import Derived.ChangeArms
import Derived.Lib.AppendZeros
import Derived.Lib.Overlaps
import Derived.Laws.CopyRow
import Derived.Shelf.SlSortCmp.SmallK
import Derived.Laws.Pointers
import Derived.Laws.OwnMore
import Derived.Laws.Concat
import Derived.Laws.Strings2
import Derived.Laws.Strings3
import Derived.Laws.IdiomStrings
import Derived.Lib.AppendStr
import Derived.Lib.ConvBytes
import Derived.Lib.LaidTab
import Derived.Lib.ItoaNum
import Derived.WideLaws
import Derived.Lib.SplitLaws
import Derived.Lib.JoinLaws
import Derived.Lib.AtoiAll
import Derived.Lib.ParseIntB
import Derived.Laws.NewFold
import Derived.Lib.Join
import Derived.Lib.Strings
import Derived.Sort.Grow
import Derived.Lib.Space
import Derived.Handed
import Derived.LaidMore
import Derived.LaidHandle
import Derived.Stop.LaidErr
import Derived.Shelf.Vars
import Derived.WideShapes
import Derived.Lib.ParseIntBTie
import Derived.Lib.ItoaLen
import Derived.Lib.AtoiAllCases
namespace Go
theorem Z.{u} {α : Sort u} {a : α} : a = a := rfl
theorem U : True := trivial
theorem V {p : Prop} (h : p := by omega) : p := h
theorem zq1 {p : Prop} (h : p := by decide) : p := h
theorem zq2 {p : Prop} (h : p := by kernel_rfl) : p := h
theorem zq3 {p : Prop} (h : p := by simp) : p := h
end Go
set_option linter.unusedSimpArgs false
set_option linter.unusedVariables false
set_option maxRecDepth 10000
namespace Go.LX
open Go.RowKit
def act(n:Nat)(env:Nat->Value):Act:={tmps:=Array.ofFn (n:=n) fun i=>env i.val,defers:=[]}
def upd(env:Nat->Value)(d:Nat)(v:Value):Nat->Value:=fun i=>bif Nat.beq i d then v else env i
def ev(n:Nat)(env:Nat->Value):Operand->Value
 | .tmp t=>bif Nat.blt t n then env t else undef
 | .const v=>v
 | .global g=>.pointer (some ⟨g,0,none⟩)
 | .func f=>.func (.func f) #[] #[]
def gq(env:Nat->Value):Option Nat->Value->(Nat->Value)
 |some d,v=>upd env d v
 |none,_=>env
theorem gJ(n:Nat)(env:Nat->Value):(act n env).eval=ev n env:=by
  funext x;cases x with
  |tmp t=>
    by_cases h:t<n
    · have a:Nat.blt t n=true:=by rw[Nat.blt_eq];exact h
      simp[Act.eval,act,ev,h,a]
    · have a:Nat.blt t n=false:=by rw[Bool.eq_false_iff,ne_eq,Nat.blt_eq];exact h
      simp[Act.eval,act,ev,h,a]
  |_=>rfl
theorem Ec(n:Nat)(env:Nat->Value)(d:Option Nat)(v:Value):(act n env).put d v=act n (gq env d v):=by
  cases d with
  |none=>rfl
  |some d=>
    simp only[Act.put,act,gq,Act.mk.injEq,and_true];apply Array.ext
    · simp
    · intro i b f;simp at b;have c:i<(Array.ofFn (n:=n) fun i=>env i.val).size:=by simp;exact b
      rw[Array.getElem_setIfInBounds c];by_cases a:d=i
      · subst a;simp[upd,Nat.beq_refl]
      · have e:Nat.beq i d=false:=by rw[Bool.eq_false_iff];intro h;exact a (Nat.eq_of_beq_eq_true h).symm
        simp[a,upd,e]
def SI(args:List Value):Nat->Value:=fun i=>args.getD i undef
theorem act_init(n:Nat)(args:List Value)(h:args.length<=n):({tmps:=args.toArray++Array.replicate (n-args.toArray.size) undef,defers:=[]}:Act)=act n (SI args):=by
  simp only[act,Act.mk.injEq,and_true];apply Array.ext
  · simp;omega
  · intro i b c;simp[Array.getElem_append,SI,List.getD];by_cases a:i<args.length
    · simp[a]
    · simp[a]
structure WL(P:Program)(ops:Array Oper)(Q:Exit->Act->World->Prop)(l:List Oper)(n:Nat)(env:Nat->Value)(w:World):Prop where
 out:wpList P ops Q l (act n env) w
structure WC(P:Program)(c:Code)(Q:Exit->Act->World->Prop)(n:Nat)(env:Nat->Value)(w:World):Prop where
 out:c.wp P Q (act n env) w
section
variable{P:Program}{ops:Array Oper}{Q:Exit->Act->World->Prop}{n:Nat}{env:Nat->Value}{w w':World}{rest:List Oper}
 {d:Option Nat} {op:Op} {ty:TypeId} {pos:String} {af:Array Edge} {v:Value} {g:Option (Nat×Bool)}
theorem F(b:(execOp (ev n env) ⟨d,op,ty,pos,af,none⟩).run P w=.ok (.value v) w')(h:WL P ops Q rest n (gq env d v) w'):
  WL P ops Q (⟨d,op,ty,pos,af,none⟩::rest) n env w:=by
 refine⟨wpList_plain Z fun K a=>?_⟩;unfold Oper.wp;rw[gJ,b];show K _ _;rw[Ec];exact a _ _ h.out
theorem Al(b:(execOp (ev n env) ⟨d,op,ty,pos,af,none⟩).run P w=.ok .skip w')(h:WL P ops Q rest n (gq env d undef) w'):
  WL P ops Q (⟨d,op,ty,pos,af,none⟩::rest) n env w:=by
 refine⟨wpList_plain Z fun K a=>?_⟩;unfold Oper.wp;rw[gJ,b];show K _ _;rw[Ec];exact a _ _ h.out
theorem wl_enter{f:FuncId}{args:Array Value}{R:Ending->World->Prop}(i:(execOp (ev n env) ⟨d,op,ty,pos,af,none⟩).run P w=.ok (.enter f args) w)(b:Calls P f args w R)
  (h:∀e w',R e w'->∃v,e=.returned v/\WL P ops Q rest n (gq env d v) w'):
  WL P ops Q (⟨d,op,ty,pos,af,none⟩::rest) n env w:=by
 refine⟨wpList_plain Z fun K a=>?_⟩;unfold Oper.wp;rw[gJ,i];show Calls P f args w _;refine b.mono fun e w' g=>?_;obtain⟨v,rfl,c⟩:=h e w' g;show K _ _;rw[Ec];exact a _ _ c.out
theorem KU{j dj:Nat}{b:Bool}(c:(ops[j]?).bind (·.dst)=some dj)(d:ev n env (.tmp dj)=.bool b):yielded ops (act n env).tmps j=some b:=by
  unfold yielded;have a:(act n env).eval (.tmp dj)=.bool b:=by rw[gJ];exact d
  simp only[c,Option.bind_some];simp only[Act.eval]at a;cases h2:(act n env).tmps[dj]? with
  |none=>simp[Array.getD_eq_getD_getElem?,h2,undef]at a
  |some x=>simp[Array.getD_eq_getD_getElem?,h2]at a;subst a;rfl
theorem Vh{j dj:Nat}{b:Bool}(c:(ops[j]?).bind (·.dst)=some dj)(f:ev n env (.tmp dj)=.bool b)
    (h:WL P ops Q (⟨d,op,ty,pos,af,none⟩::rest) n env w):WL P ops Q (⟨d,op,ty,pos,af,some (j,b)⟩::rest) n env w:=by
  have g:=KU (ops:=ops) c f;have e:Region.wanted ⟨d,op,ty,pos,af,some (j,b)⟩ (yielded ops (act n env).tmps)=true:=by simp[Region.wanted,g]
  have a:Region.wanted ⟨d,op,ty,pos,af,none⟩ (yielded ops (act n env).tmps)=true:=rfl;obtain⟨h⟩:=h;refine⟨?_⟩;unfold wpList at h⊢;rw[if_pos a]at h;rw[if_pos e];exact h
theorem cz{j dj:Nat}{b b':Bool}(a:(ops[j]?).bind (·.dst)=some dj)(e:ev n env (.tmp dj)=.bool b')(g:(b'==b)=false)
    (h:WL P ops Q rest n (gq env d undef) w):WL P ops Q (⟨d,op,ty,pos,af,some (j,b)⟩::rest) n env w:=by
  have f:=KU (ops:=ops) a e;have c:Region.wanted ⟨d,op,ty,pos,af,some (j,b)⟩ (yielded ops (act n env).tmps)=false:=by simpa[Region.wanted,f]using g
  refine⟨?_⟩;unfold wpList;rw[if_neg (by rw[c];decide),Ec];exact h.out
theorem ag(h:Q .normal (act n env) w):WL P ops Q [] n env w:=⟨h⟩
end
section
variable{P:Program}{Q:Exit->Act->World->Prop}{n:Nat}{env:Nat->Value}{w:World}{x y:Code}
theorem ay{id:Nat}{l:List Oper}(h:WL P l.toArray Q l n env w):WC P (Code.region id l.toArray false) Q n env w:=⟨wp_region_lit h.out⟩
theorem aD(h:WC P x (Exit.then (y.wp P Q) Q) n env w):WC P (Code.seq x y) Q n env w:=⟨wp_seq h.out⟩
theorem aH{id:Nat}(h:WC P x (Exit.inBlock id Q) n env w):WC P (Code.block id x) Q n env w:=⟨wp_block h.out⟩
theorem ax(h:Q .normal (act n env) w):WC P .skip Q n env w:=⟨wp_skip h⟩
theorem AB(h:Q .ret (act n env) w):WC P .ret Q n env w:=⟨wp_ret h⟩
theorem jZ{id:Nat}(h:Q (.exit id) (act n env) w):WC P (.exit id) Q n env w:=⟨wp_exit h⟩
theorem eP{c:Operand}{t:Bool}(a:ev n env c=.bool t)(b:t=true->WC P x Q n env w)(d:t=false->WC P y Q n env w):
 WC P (Code.cond c x y) Q n env w:=⟨wp_cond_split (by rw[gJ];exact a) (fun h=>(b h).out) (fun h=>(d h).out)⟩
theorem wc_ift{c:Operand}(a:ev n env c=.bool true)(b:WC P x Q n env w):WC P (Code.cond c x y) Q n env w:=⟨wp_cond_true (by rw[gJ];exact a) b.out⟩
theorem wc_iff{c:Operand}(a:ev n env c=.bool false)(b:WC P y Q n env w):WC P (Code.cond c x y) Q n env w:=⟨wp_cond_false (by rw[gJ];exact a) b.out⟩
theorem ae{Q':Exit->Act->World->Prop}(h:WC P y Q n env w):Exit.then (y.wp P Q) Q' .normal (act n env) w:=h.out
def hav(mod:Nat->Bool)(b a:Nat->Value):Nat->Value:=fun i=>bif mod i then b i else a i
def YV(e:Nat->Value):List (Nat×Value)->Nat->Value
 |[]=>e
 |(i,v)::r=>upd (YV e r) i v
def Holds(e:Nat->Value):List (Nat×Value)->Prop
 |[]=>True
 |(i,v)::r=>e i=v/\Holds e r
def Iq(mod:Nat->Bool)(e a:Nat->Value):Prop:=∀i,mod i=false->e i=a i
theorem Iq.refl(mod:Nat->Bool)(e:Nat->Value):Iq mod e e:=fun _ _=>rfl
theorem Iq.hav(mod:Nat->Bool)(j e:Nat->Value):Iq mod (hav mod j e) e:=fun i h=>by simp[LX.hav,h]
theorem Iq.upd{mod:Nat->Bool}{e a:Nat->Value}{d:Nat}{v:Value}(c:mod d=true)(h:Iq mod e a):Iq mod (upd e d v) a:=fun i b=>by
 have:i≠d:=fun e=>by rw[e,c]at b;exact Bool.noConfusion b
 have f:Nat.beq i d=false:=by rw[Bool.eq_false_iff];intro h;exact this (Nat.eq_of_beq_eq_true h)
 simp[LX.upd,f,h i b]
theorem upd_self(e:Nat->Value){i:Nat}{v:Value}(h:e i=v):upd e i v=e:=by
  funext k;by_cases a:Nat.beq k i=true
  · have:=Nat.eq_of_beq_eq_true a;subst this;simp[upd,h]
  · simp[upd,a]
theorem hav_self{mod:Nat->Bool}{e a:Nat->Value}(h:Iq mod e a):hav mod e a=e:=by
 funext i;cases hm:mod i with
 |true=>simp[hav,hm]
 |false=>simp[hav,hm,h i hm]
theorem SK{e:Nat->Value}:∀(l:List (Nat×Value)),Holds e l->YV e l=e
 |[],_=>rfl
 |(i,v)::r,h=>by
  show upd (YV e r) i v=e;rw[SK r h.2];exact upd_self e h.1
theorem wc_loop{σ:Type}{c:Code}(mod:Nat->Bool)(live:σ->List (Nat×Value))(J:σ->World->Prop)(v:σ->Nat)(C:σ)
  (O:Holds env (live C)) (N:J C w)
  (j:∀s I M,J s I->WC P c (Exit.then (fun a' w'=>∃o r,a'=act n r/\Iq mod r env/\Holds r (live o)/\J o w'/\v o<v s) Q) n (YV (hav mod M env) (live s)) I):
  WC P (Code.loop c) Q n env w:=by
 refine⟨?_⟩;intro b k cs;have y:∀m s e w,v s=m->Iq mod e env->Holds e (live s)->J s w->
   ∃p a' w',Q p a' w'/\Arrives P (lone (b.at (act n e) (.code c:: .inLoop c::k)) cs w) b k cs p a' w':=by
  intro m;induction m using Nat.strongRecOn with
  |_ m ih=>
   intro s e w L T R S;have K:=(j s w e S).out;have E:YV (hav mod e env) (live s)=e:=by rw[hav_self T];exact SK _ R
   rw[E]at K;obtain⟨p,f,d,h,a⟩:=K b (.inLoop c::k) cs;cases p with
   |normal=>
    obtain⟨o,r,rfl,z,G,A,B⟩:=h;obtain⟨q,u,t,i,g⟩:=ih (v o) (L▸B) o r d Z z G A;exact⟨q,u,t,i,.of_steps (Steps.trans a<|.one step_inLoop) g⟩
   |exit id=>exact⟨_,f,d,h,.pass (x:=.inLoop c) Z (fun _ _=>.inl zq3) a⟩
   |goto l=>exact⟨_,f,d,h,.pass (x:=.inLoop c) Z (fun _ _=>.inl zq3) a⟩
   |ret=>exact⟨_,f,d,h,.pass (x:=.inLoop c) Z (fun _ _=>.inl zq3) a⟩
   |panic ch=>exact⟨_,f,d,h,.pass (x:=.inLoop c) Z (fun _ _=>.inl zq3) a⟩
   |outgrown=>exact⟨_,f,d,h,.pass (x:=.inLoop c) Z (fun _ _=>.inl zq3) a⟩
 obtain⟨p,a',w',h,a⟩:=y _ C env w Z (Iq.refl _ _) O N;exact⟨p,a',w',h,.of_steps (.one step_loop) a⟩
end
open Go.RowKit
structure One(P:Program)(T:TypeId)(z:Value):Prop where
 desc:∃d,P.underlying T=some d/\(match d with| .struct _| .array _ _=>False|_=>True)
 info:(P.info? T).map (fun i=>(i.zero,i.size))=some (some z,1)
 cell:z.cells= #[z]
structure wo(P:Program)(T:TypeId)(zs:List Value):Prop where
 desc:∃d,P.underlying T=some d/\(match d with| .struct _| .array _ _=>True|_=>False)
 info:(P.info? T).map (fun i=>(i.zero,i.size))=some (some (.agg zs.toArray),zs.length)
structure SliceOf(P:Program)(T E:TypeId)(sz:Nat):Prop where
  desc:P.underlying T=some (.slice E)
  info:(P.info? E).map (·.size)=some sz
structure dP(P:Program)(T:TypeId)(k off:Nat):Prop where
  desc:∃fs f s,P.underlying T=some (.struct fs)/\fs[k]? =some f/\f.offset=off/\(P.info? f.type).map (·.size)=some (s+1)
section
variable{P:Program}{w:World}{ρ:Operand->Value}{d:Option Nat}{ty:TypeId}{pos:String}{af:Array Edge}{g:Option (Nat×Bool)}
theorem bL{x:Operand}{v:Value}(a:ρ x=v):(execOp ρ ⟨d,.move x,ty,pos,af,g⟩).run P w=.ok (.value v) w:=by subst a;rfl
theorem eU{x:Operand}{v:Value}(a:ρ x=v):(execOp ρ ⟨d,.assign x,ty,pos,af,g⟩).run P w=.ok (.value v) w:=by subst a;rfl
theorem ko{c x y:Operand}{b:Bool}{v:Value}(a:ρ c=.bool b)(e:(if b then ρ x else ρ y)=v):(execOp ρ ⟨d,.pick c x y,ty,pos,af,g⟩).run P w=.ok (.value v) w:=by
 subst e;simp[execOp,a,asBool]
theorem r_not{x:Operand}{T:TypeId}{b:Bool}(a:ρ x=.bool b):(execOp ρ ⟨d,.unOp .not T x,ty,pos,af,g⟩).run P w=.ok (.value (.bool !b)) w:=by
 simp[execOp,a,Op.unary]
theorem wrap_in{x:Int}(a: -9223372036854775808<=x)(b:x<=9223372036854775807):IntKind.i64.wrap x=x:=IntWalk.i64_in x ⟨a,b⟩
theorem uW{x y:Operand}{T T2:TypeId}{p q:Int}(b:ρ x=.int .i64 p)(a:ρ y=.int .i64 q):(execOp ρ ⟨d,.binOp .lss T x y T2,ty,pos,af,g⟩).run P w=.ok (.value (.bool (decide (p<q)))) w:=by
 simp[execOp,b,a,eqGuard,binOp,Op.intCmp]
theorem OU{x y:Operand}{T T2:TypeId}{p q:Int}(b:ρ x=.int .i64 p)(a:ρ y=.int .i64 q):(execOp ρ ⟨d,.binOp .leq T x y T2,ty,pos,af,g⟩).run P w=.ok (.value (.bool (decide (p<=q)))) w:=by
 simp[execOp,b,a,eqGuard,binOp,Op.intCmp]
theorem iN{x y:Operand}{T T2:TypeId}{p q:Int}(b:ρ x=.int .i64 p)(a:ρ y=.int .i64 q):(execOp ρ ⟨d,.binOp .gtr T x y T2,ty,pos,af,g⟩).run P w=.ok (.value (.bool (decide (q<p)))) w:=by
 simp[execOp,b,a,eqGuard,binOp,Op.intCmp]
theorem lU{x y:Operand}{T T2:TypeId}{p q:Int}(b:ρ x=.int .i64 p)(a:ρ y=.int .i64 q):(execOp ρ ⟨d,.binOp .geq T x y T2,ty,pos,af,g⟩).run P w=.ok (.value (.bool (decide (q<=p)))) w:=by
 simp[execOp,b,a,eqGuard,binOp,Op.intCmp]
theorem l8{x y:Operand}{T T2:TypeId}{p q:Int}{k:IntKind}(b:ρ x=.int k p)(a:ρ y=.int k q):(execOp ρ ⟨d,.binOp .eql T x y T2,ty,pos,af,g⟩).run P w=.ok (.value (.bool (decide (p=q)))) w:=by
 simp[execOp,b,a,eqGuard,binOp,Op.intCmp];rfl
theorem zJ{x y:Operand}{T T2:TypeId}{p q:Int}{k:IntKind}(b:ρ x=.int k p)(a:ρ y=.int k q):(execOp ρ ⟨d,.binOp .neq T x y T2,ty,pos,af,g⟩).run P w=.ok (.value (.bool (decide (p≠q)))) w:=by
 simp[execOp,b,a,eqGuard,binOp,Op.intCmp];rfl
theorem JH{x y:Operand}{T T2:TypeId}{p q:Int}(b:ρ x=.int .i64 p)(a:ρ y=.int .i64 q)(h: -9223372036854775808<=p+q/\p+q<=9223372036854775807):
  (execOp ρ ⟨d,.binOp .add T x y T2,ty,pos,af,g⟩).run P w=.ok (.value (.int .i64 (p+q))) w:=by
 simp[execOp,b,a,eqGuard,binOp,Op.intArith,wrap_in h.1 h.2]
theorem mG{x y:Operand}{T T2:TypeId}{p q:Int}(b:ρ x=.int .i64 p)(a:ρ y=.int .i64 q)(h: -9223372036854775808<=p-q/\p-q<=9223372036854775807):
  (execOp ρ ⟨d,.binOp .sub T x y T2,ty,pos,af,g⟩).run P w=.ok (.value (.int .i64 (p-q))) w:=by
 simp[execOp,b,a,eqGuard,binOp,Op.intArith,wrap_in h.1 h.2]
theorem pg{x:Operand}{T E:TypeId}{b:Nat}{a:Option Addr}{l c:Nat}(e:SliceOf P T E b)(f:ρ x=.slice a l c):
  (execOp ρ ⟨d,.call {callee:=.builtin .len,args:= #[x],argTypes:= #[T]},ty,pos,af,g⟩).run P w=.ok (.value (.int .i64 l)) w:=by
 simp[execOp,resolve,invoke,builtin,Builtin.len_,f,underlying,e.desc,goInt]
theorem r_load1{x:Operand}{T:TypeId}{z v:Value}{b o:Nat}{cs:Array Value}{E:TypeId}{a:Nat×Nat}(f:One P T z)(l:ρ x=.pointer (some ⟨b,o,none⟩))(e:w.heap[b]? =some (.cells cs E a))(h:cs[o]? =some v):
  (execOp ρ ⟨d,.load T x,ty,pos,af,g⟩).run P w=.ok (.value v) w:=by
 obtain⟨c,k,i⟩:=f.desc;have j:w.cell? ⟨b,o,none⟩=some v:=by simp[World.cell?,e,h]
 cases c<;>simp_all[execOp,Instr.loadAt,Instr.sureAddr,loadVar,isAgg,underlying]
end
open Go.RowKit
abbrev BS:=Nat->Prop
abbrev BE:BS:=fun _=>False
structure bH(K:BS)(w w':World):Prop where
 os:w'.os=w.os
 tape:w'.tape=w.tape
 output:w'.output=w.output
 size:w.heap.size<=w'.heap.size
 block:∀b,¬K b->b<w.heap.size->w'.heap[b]? =w.heap[b]?
abbrev Grow(w w':World):Prop:=bH BE w w'
theorem bH.refl(K:BS)(w:World):bH K w w:=⟨rfl,rfl,rfl,Nat.le_refl _,fun _ _ _=>rfl⟩
theorem bH.step{K N:BS}{a b c:World}(h:bH K a b)(k:bH N b c)(hN:∀x,N x->x<a.heap.size->K x):bH K a c:=
 ⟨k.os.trans h.os,k.tape.trans h.tape,k.output.trans h.output,Nat.le_trans h.size k.size,fun i e d=>(k.block i (fun hn=>e (hN i hn d)) (Nat.lt_of_lt_of_le d h.size)).trans (h.block i e d)⟩
theorem bH.grow{K:BS}{a b c:World}(h:bH K a b)(k:Grow b c):bH K a c:=h.step k (fun _ h=>h.elim)
theorem bH.weaken{K N:BS}{a b:World}(h:bH K a b)(e:∀x,K x->x<a.heap.size->N x):bH N a b:=⟨h.os,h.tape,h.output,h.size,fun i d c=>h.block i (fun hn=>d (e i hn c)) c⟩
theorem Grow.keep{K:BS}{a b:World}(h:Grow a b):bH K a b:=h.weaken (fun _ h=>h.elim)
theorem iF{w:World}{b:Nat}{o:Obj}(a:w.heap[b]? =some o):b<w.heap.size:=by
  rcases Nat.lt_or_ge b w.heap.size with h1|h1
  · exact h1
  · rw[Array.getElem?_eq_none h1]at a;cases a
theorem bH.blk{K:BS}{w w':World}(h:bH K w w'){b:Nat}{o:Obj}(a:w.heap[b]? =some o)(c:¬K b):w'.heap[b]? =some o:=by
 rw[h.block b c (iF a),a]
theorem Grow.blk{w w':World}(h:Grow w w'){b:Nat}{o:Obj}(a:w.heap[b]? =some o):w'.heap[b]? =some o:=bH.blk h a (fun h=>h)
theorem Grow.below{w w':World}(h:Grow w w'):Below w.heap.size w w':=⟨h.os,h.tape,h.output,h.size,fun k a=>h.block k (fun h=>h) a⟩
theorem Grow.of_below{w w':World}(h:Below w.heap.size w w'):Grow w w':=⟨h.os,h.tape,h.output,h.size,fun k _ a=>h.block k a⟩
theorem Grow.alloc(w:World)(o:Obj):Grow w (w.alloc o):=Grow.of_below ((Below.refl _ _).alloc (Nat.le_refl _) o)
theorem NR(w:World)(o:Obj):(w.alloc o).heap[w.heap.size]? =some o:=by show(w.heap.push o)[w.heap.size]? =some o;simp
theorem alloc_size(w:World)(o:Obj):(w.alloc o).heap.size=w.heap.size+1:=by show(w.heap.push o).size=_;simp
theorem Grow.drew(w:World):Grow w w.drew:=⟨rfl,rfl,rfl,Nat.le_refl _,fun _ _ _=>rfl⟩
theorem Grow.trans{a b c:World}(h:Grow a b)(k:Grow b c):Grow a c:=h.grow k
structure kX(α:Type)where
 sz:Nat
 rd:World->BS->List Value->α->Prop
 len:∀{w A cs x},rd w A cs x->cs.length=sz
 one:∀{w A cs x},rd w A cs x->∀u∈cs,u.oneCell'=true
 pos:0<sz
 go:∀{w A cs x w' A' K},rd w A cs x->bH K w w'->(∀b,K b->b<w.heap.size->A b)->(∀b,A' b->b<w.heap.size->A b)->rd w' A' cs x
def ed{α:Type}(R:kX α)(w:World)(B A:BS)(v:Value)(l:List α):Prop:=
 ∃a cap,v=.slice a l.length cap/\l.length<=cap/\cap<=maxLen/\(a=none->cap=0)/\
  ∀i (h:i<l.length),∃b o cells E c,a=some ⟨b,o,none⟩/\¬B b/\w.heap[b]? =some (.cells cells E c)/\R.rd w A ((cells.toList.drop (o+i*R.sz)).take R.sz) l[i]
abbrev cK{α:Type}(R:kX α)(w:World)(A:BS)(v:Value)(l:List α):Prop:=ed R w A A v l
theorem ed.go{α:Type}{R:kX α}{w w':World}{B e A A' K:BS}{v:Value}{l:List α}(h:ed R w B A v l)(g:bH K w w')(c:∀b,K b->b<w.heap.size->B b)(j:∀b,K b->b<w.heap.size->A b)(n:∀b,e b->b<w.heap.size->B b)(t:∀b,A' b->b<w.heap.size->A b):ed R w' e A' v l:=by
 obtain⟨a,cap,rfl,u,s,k,q⟩:=h;refine⟨a,cap,Z,u,s,k,fun i m=>?_⟩;obtain⟨b,o,cells,E,p,r,f,d,x⟩:=q i m;exact⟨b,o,cells,E,p,r,fun h=>f<|n b h<|iF d,g.blk d fun h=>f<|c b h<|iF d,R.go x g j t⟩
theorem ed.sub{α:Type}{R:kX α}{w:World}{B a A A':BS}{v:Value}{l:List α}(h:ed R w B A v l)(c:∀b,a b->b<w.heap.size->B b)(d:∀b,A' b->b<w.heap.size->A b):ed R w a A' v l:=
 h.go (bH.refl BE w) (fun _ h=>h.elim) (fun _ h=>h.elim) c d
theorem ed.src{α:Type}{R:kX α}{w:World}{B A:BS}{v:Value}{l:List α}(h:ed R w B A v l):ed R w BE A v l:=h.sub (fun _ h=>h.elim) (fun _ h _=>h)
theorem cK.go{α:Type}{R:kX α}{w w':World}{A A' K:BS}{v:Value}{l:List α}(h:cK R w A v l)(d:bH K w w')(a:∀b,K b->b<w.heap.size->A b)(c:∀b,A' b->b<w.heap.size->A b):cK R w' A' v l:=
 ed.go h d a a c c
theorem ed.one{α:Type}{R:kX α}{w:World}{B A:BS}{v:Value}{l:List α}(h:ed R w B A v l):v.oneCell'=true:=by
 obtain⟨a,cap,rfl,_⟩:=h;rfl
theorem ed.nil{α:Type}{R:kX α}{w:World}{B A:BS}:ed R w B A (.slice none 0 0) ([]:List α):=⟨none,0,rfl,Nat.le_refl _,by unfold maxLen;omega,fun _=>rfl,fun i a=>absurd a (Nat.not_lt_zero _)⟩
theorem ed.bI{α:Type}{R:kX α}{w:World}{B A:BS}{v:Value}{l:List α}(h:ed R w B A v l):l.length<=9223372036854775807:=by
 obtain⟨a,cap,_,c,b,_⟩:=h;unfold maxLen at b;omega
def uE{α:Type}(R:kX α):kX (List α) where
 sz:=1
 rd w A cs l:=∃v,cs=[v]/\cK R w A v l
 len:=by rintro w A cs x ⟨v,rfl,_⟩;rfl
 one:=by
  rintro w A cs x⟨v,rfl,h⟩u hu;simp at hu;subst hu;exact h.one
 pos:=by decide
 go:=by
  rintro w A cs x w' A' K⟨v,rfl,h⟩hk hK hA;exact⟨v,Z,h.go hk hK hA⟩
def di:kX Int where
 sz:=1
 rd _ _ cs x:=cs=[.int .i64 x]
 len:=by rintro w A cs x rfl;rfl
 one:=by rintro w A cs x rfl u hu;simp at hu;subst hu;rfl
 pos:=by decide
 go:=fun h _ _ _=>h
def rBool:kX Bool where
 sz:=1
 rd _ _ cs x:=cs=[.bool x]
 len:=by rintro w A cs x rfl;rfl
 one:=by rintro w A cs x rfl u hu;simp at hu;subst hu;rfl
 pos:=by decide
 go:=fun h _ _ _=>h
abbrev Str:=List UInt8
def bB(s:Str):Value:=.string ⟨s.toArray⟩
def tZ:kX Str where
 sz:=1
 rd _ _ cs x:=cs=[bB x]
 len:=by rintro w A cs x rfl;rfl
 one:=by rintro w A cs x rfl u hu;simp at hu;subst hu;rfl
 pos:=by decide
 go:=fun h _ _ _=>h
def ob:Value->Nat->Prop| .slice (some a) _ _=>fun b=>b=a.block|_=>fun _=>False
theorem ob_row{v:Value}{k:Nat}:ob v k↔v.ownBlock=some k:=by
 cases v with
 |slice a l c=>cases a with
  |none=>simp[ob,Value.ownBlock]
  |some a=>simp[ob,Value.ownBlock];exact eq_comm
 |_=>simp[ob,Value.ownBlock]
def cO{α:Type}(R:kX α)(E:TypeId)(w:World)(A:BS)(v:Value)(l:List α):Prop:=
 ∃xs,w.ownsRow 0 E R.sz v l.length xs/\∀i (h:i<l.length),R.rd w (fun b=>A b\/ob v b) ((xs.drop (i*R.sz)).take R.sz) l[i]
theorem cO.nil{α:Type}{R:kX α}{E:TypeId}{w:World}{A:BS}:cO R E w A (.slice none 0 0) ([]:List α):=
 ⟨[],World.ownsRow_nil _ _ _ _,fun i h=>absurd h (Nat.not_lt_zero _)⟩
theorem cO.lt{α:Type}{R:kX α}{E:TypeId}{w:World}{A:BS}{v:Value}{l:List α}(h:cO R E w A v l):∀k,ob v k->k<w.heap.size:=by
 obtain⟨xs,a,_⟩:=h;intro k b;exact(a.lt k<|ob_row.1 b).2
theorem cO.go{α:Type}{R:kX α}{E:TypeId}{w w':World}{A A' K:BS}{v:Value}{l:List α}(h:cO R E w A v l)(e:bH K w w')(f:∀b,K b->b<w.heap.size->A b)(d:∀b,K b->¬ob v b)(o:∀b,A' b->b<w.heap.size->A b\/ob v b):cO R E w' A' v l:=by
  obtain⟨xs,c,j⟩:=h;refine⟨xs,?_,fun i k=>R.go (j i k) e (fun b c m=>.inl<|f b c m) fun b a n=>?_⟩
  · refine⟨c.1,?_⟩;rcases c.2 with h|⟨g,cap,cur,rfl,e1,e2,e3⟩
    · exact .inl h
    · exact .inr ⟨g,cap,cur,Z,e1,e.blk e2 (fun h=>d g h (by simp[ob])),e3⟩
  · rcases a with a|a
    · exact o b a n
    · exact .inr a
theorem cO.one{α:Type}{R:kX α}{E:TypeId}{w:World}{A:BS}{v:Value}{l:List α}(h:cO R E w A v l):v.oneCell'=true:=by
 obtain⟨xs,a,_⟩:=h;rcases a.2 with⟨rfl,_⟩|⟨g,cap,cur,rfl,_⟩<;>rfl
theorem cO.rd{α:Type}{R:kX α}{E:TypeId}{w:World}{A A':BS}{v:Value}{l:List α}(h:cO R E w A v l)(e:∀b,ob v b->¬A' b)(c:∀b,A' b->b<w.heap.size->A b\/ob v b):cK R w A' v l:=by
  obtain⟨xs,f,d⟩:=h;rcases f.2 with⟨rfl,hn⟩|⟨g,cap,cur,rfl,e1,e2,e3,e4,e5,e6⟩
  · have:l=[]:=List.eq_nil_of_length_eq_zero hn;subst this;exact ed.nil
  · refine⟨some ⟨g,0,none⟩,cap,Z,e3,e4,(fun h=>by cases h),fun i a=>⟨g,0,cur,E,(0,0),Z,e g (by simp[ob]),e2,?_⟩⟩;have:=R.go (A':=A') (d i a) (bH.refl BE w) (fun _ h=>h.elim) c;rw[<-e6,List.drop_take,List.take_take,Nat.min_eq_left ?_]at this
    · rw[Nat.zero_add];exact this
    · have:(i+1)*R.sz<=l.length*R.sz:=Nat.mul_le_mul_right _ a;rw[Nat.add_mul]at this;omega
def KV(b:Array MapEntry)(a:Nat):Prop:=(∀e∈b.toList,e.born<a)/\(b.toList.map (·.born)).Nodup
def Iz(w:World)(b:Nat)(jW:List (Int×Value)):Prop:=
 ∃c a,w.heap[b]? =some (.map c a)/\c.toList.map (fun e=>(e.key,e.val))=jW.map (fun p=>(Value.int .i64 p.1,p.2))/\KV c a
structure Pce where
 own:BS
 P:World->BS->Prop
 lt:∀{w A b},P w A->own b->b<w.heap.size
 go:∀{w w' A A' K},P w A->bH K w w'->(∀b,K b->b<w.heap.size->A b)->(∀b,K b->¬own b)->(∀b,A' b->b<w.heap.size->A b\/own b)->P w' A'
inductive Chunk:Type 1 where
 |no
 |rd {α:Type} (R:kX α) (v:Value) (l:List α)
 |sr {α:Type} (R:kX α) (v:Value) (l:List α)
 |pt (b o:Nat) (cs:List Value)
 |blk (b:Nat) (cs:List Value)
 |own {α:Type} (R:kX α) (E:TypeId) (v:Value) (l:List α)
 |mp (b:Nat) (jW:List (Int×Value))
 |rp {α:Type} (R:kX α) (v:Value) (x:α)
 |two (a b:Chunk)
 |eT (S:Pce)
def Chunk.own':Chunk->BS
 | .blk b _=>fun x=>x=b
 | .own _ _ v _=>ob v
 | .mp b _=>fun x=>x=b
 | .two a b=>fun x=>a.own' x\/b.own' x
 | .eT S=>S.own
 |_=>BE
def Chunk.holds(w:World)(M O:BS):Chunk->Prop
 | .no=>True
 | .rd R v l=>cK R w (fun b=>M b\/O b) v l
 | .sr R v l=>ed R w O (fun b=>M b\/O b) v l
 | .pt b o cs=>¬O b/\∃cells E c,w.heap[b]? =some (.cells cells E c)/\(cells.toList.drop o).take cs.length=cs
 | .blk b cs=>∃E,w.heap[b]? =some (.cells cs.toArray E (0,0))
 | .own R E v l=>cO R E w (fun b=>M b\/O b) v l
 | .mp b jW=>Iz w b jW
 | .rp R v x=>R.rd w (fun b=>M b\/O b) [v] x
 | .two a b=>a.holds w M O/\b.holds w M O/\∀x,a.own' x->¬b.own' x
 | .eT S=>S.P w (fun b=>M b\/O b)
theorem Chunk.go{c:Chunk}{w w':World}{M O n N:BS}(h:c.holds w M O)(g:bH N w w')(hN:∀b,N b->b<w.heap.size->O b)(f:∀b,N b->¬c.own' b)(j:∀b,n b->b<w.heap.size->M b\/O b)(i:∀b,n b->b<w.heap.size->O b):c.holds w' M n:=by
 induction c with
 |no=>trivial
 |rd R v l=>exact cK.go h g (fun b d e=>.inr (hN b d e)) (fun b d e=>d.elim .inl (fun d=>j b d e))
 |sr R v l=>exact ed.go h g hN (fun b d e=>.inr (hN b d e)) i (fun b d e=>d.elim .inl (fun d=>j b d e))
 |pt b o cs=>
  obtain⟨p,cells,E,r,k,q⟩:=h;exact⟨fun h=>p<|i b h<|iF k,cells,E,r,g.blk k fun h=>p<|hN b h<|iF k,q⟩
 |blk b cs=>
  obtain⟨E,h⟩:=h;exact⟨E,g.blk h fun d=>f b d Z⟩
 |own R E v l=>exact cO.go h g (fun b d e=>.inr (hN b d e)) f (fun b d e=>.inl (d.elim .inl (fun d=>j b d e)))
 |rp R v x=>exact R.go h g (fun b d e=>.inr (hN b d e)) (fun b d e=>d.elim .inl (fun d=>j b d e))
 |two a b iha ihb=>exact⟨iha h.1 (fun x m u=>f x m (.inl u)),ihb h.2.1 (fun x m d=>f x m (.inr d)),h.2.2⟩
 |eT S=>exact S.go h g (fun b d e=>.inr (hN b d e)) f (fun b d e=>.inl (d.elim .inl (fun d=>j b d e)))
 |mp b jW=>
  obtain⟨s,c,h,t⟩:=h;exact⟨s,c,g.blk h fun d=>f b d Z,t⟩
theorem Chunk.sub{c:Chunk}{w:World}{M O a:BS}(h:c.holds w M O)(d:∀b,a b->b<w.heap.size->O b):c.holds w M a:=
 Chunk.go h (bH.refl BE w) (fun _ h=>h.elim) (fun _ h=>h.elim) (fun b e f=>.inr (d b e f)) d
theorem Chunk.lt{c:Chunk}{w:World}{M O:BS}(h:c.holds w M O):∀b,c.own' b->b<w.heap.size:=by
 intro b d;induction c with
 |no=>exact d.elim
 |rd=>exact d.elim
 |sr=>exact d.elim
 |pt=>exact d.elim
 |blk b' cs=>
  cases d;exact iF h.choose_spec
 |own R E v l=>exact cO.lt h b d
 |rp=>exact d.elim
 |two a c iha ihc=>exact d.elim (fun d=>iha h.1 d) (fun d=>ihc h.2.1 d)
 |eT S=>exact S.lt h d
 |mp b' jW=>
  cases d;obtain⟨_,_,h,_⟩:=h;exact iF h
def bX(hp:Nat->Chunk)(i:Nat)(c:Chunk):Nat->Chunk:=fun j=>bif Nat.beq j i then c else hp j
theorem dm(hp:Nat->Chunk)(i:Nat)(c:Chunk):bX hp i c i=c:=by simp[bX,Nat.beq_refl]
theorem fu{hp:Nat->Chunk}{i j:Nat}{c:Chunk}(h:j≠i):bX hp i c j=hp j:=by
 have:Nat.beq j i=false:=by rw[Bool.eq_false_iff];intro e;exact h (Nat.eq_of_beq_eq_true e)
 simp[bX,this]
def hno:Nat->Chunk:=fun _=>.no
def iG(hp:Nat->Chunk):BS:=fun b=>∃j,(hp j).own' b
structure SH(w0:World)(M K:BS)(w:World)(hp:Nat->Chunk):Prop where
 keep:bH K w0 w
 ltM:∀b,M b->b<w0.heap.size
 apM:∀i b,(hp i).own' b->¬M b
 ok:∀i,(hp i).holds w M (iG hp)
 apart:∀i j,i≠j->∀b,(hp i).own' b->¬(hp j).own' b
 old:∀i b,(hp i).own' b->b<w0.heap.size->K b
section
variable{w0 w w':World}{M K:BS}{hp:Nat->Chunk}{i:Nat}{c:Chunk}
def rest(hp:Nat->Chunk)(i:Nat):BS:=fun b=>∃j,j≠i/\(hp j).own' b
theorem lg{hp:Nat->Chunk}{i b:Nat}(h:rest hp i b):iG hp b:=let ⟨j,_,h⟩:=h;⟨j,h⟩
abbrev SH.av(hp:Nat->Chunk)(i:Nat)(c:Chunk):BS:=fun b=>rest hp i b\/c.own' b
theorem SH.step{N:BS}(h:SH w0 M K w hp)(i:Nat)(s:bH N w w')(hN:∀b,N b->b<w.heap.size->(hp i).own' b)
    (ho:∀b,c.own' b->b<w.heap.size->(hp i).own' b) (t:c.holds w' M (SH.av hp i c)):SH w0 M K w' (bX hp i c):=by
  have u:∀b,M b->b<w.heap.size:=fun b a=>Nat.lt_of_lt_of_le (h.ltM b a) h.keep.size;have m:∀b,iG (bX hp i c) b->rest hp i b\/c.own' b:=by
    rintro b⟨j,o⟩;by_cases e:j=i
    · subst e;rw[dm]at o;exact .inr o
    · rw[fu e]at o;exact .inl ⟨j,e,o⟩
  have g:∀b,iG (bX hp i c) b->b<w.heap.size->iG hp b:=fun b a f=>(m b a).elim lg fun h=>⟨i,ho b h f⟩;refine⟨?_,h.ltM,?_,?_,?_,?_⟩
  · exact h.keep.step s (fun x q f=>by
      have n:=Nat.lt_of_lt_of_le f h.keep.size;exact h.old i x (hN x q n) f)
  · intro j b a;by_cases e:j=i
    · subst e;rw[dm]at a;intro r;exact h.apM j b (ho b a<|u b r) r
    · rw[fu e]at a;exact h.apM j b a
  · intro j;by_cases e:j=i
    · subst e;rw[dm];exact Chunk.sub t fun b a _=>m b a
    · rw[fu e];have f:=h.ok j;refine Chunk.go f (s.weaken (N:=fun b=>N b/\b<w.heap.size) fun b a f=>⟨a,f⟩) ?_ ?_ ?_ ?_
      · intro b a n;exact⟨i,hN b a.1 n⟩
      · intro b a o;exact h.apart j i e b o<|hN b a.1 a.2
      · exact fun b a f=>.inr<|g b a f
      · exact g
  · intro j k l b a d;have lt:∀x,x≠i->(hp x).own' b->b<w.heap.size:=fun x _ q=>Chunk.lt (h.ok x) b q;by_cases e:j=i
    · subst e;have p:k≠j:=fun e=>l e.symm;rw[dm]at a;rw[fu p]at d;exact h.apart j k l b (ho b a<|lt k p d) d
    · rw[fu e]at a;by_cases p:k=i
      · subst p;rw[dm]at d;exact h.apart j k l b a<|ho b d<|lt j e a
      · rw[fu p]at d;exact h.apart j k l b a d
  · intro j b a f;by_cases e:j=i
    · subst e;rw[dm]at a;exact h.old j b (ho b a<|Nat.lt_of_lt_of_le f h.keep.size) f
    · rw[fu e]at a;exact h.old j b a f
abbrev SH.A(M:BS)(hp:Nat->Chunk):BS:=fun b=>M b\/iG hp b
theorem SH.lt(h:SH w0 M K w hp):∀b,SH.A M hp b->b<w.heap.size:=by
  rintro b(a|⟨j,a⟩)
  · exact Nat.lt_of_lt_of_le (h.ltM b a) h.keep.size
  · exact Chunk.lt (h.ok j) b a
theorem SH.learn(h:SH w0 M K w hp)(i:Nat)(e:Grow w w')(ho:∀b,c.own' b->w.heap.size<=b)(d:c.holds w' M (fun b=>iG hp b\/c.own' b)):SH w0 M K w' (bX hp i c):=
 h.step i e (fun _ h=>h.elim) (fun b a f=>absurd (ho b a) V) (Chunk.sub d (fun b a _=>a.imp lg id))
theorem SH.grow(h:SH w0 M K w hp)(c:Grow w w'):SH w0 M K w' hp:=
 ⟨h.keep.grow c,h.ltM,h.apM,fun i=>Chunk.go (h.ok i) c (fun _ h=>h.elim) (fun _ h=>h.elim) (fun b a _=>.inr a) (fun b a _=>a),h.apart,h.old⟩
theorem SH.know(h:SH w0 M K w hp)(i:Nat)(ho:∀b,¬c.own' b)(d:c.holds w M (iG hp)):SH w0 M K w (bX hp i c):=
 h.learn i (bH.refl BE w) (fun b a=>absurd a (ho b)) (Chunk.sub d (fun b a _=>a.elim id (fun a=>absurd a (ho b))))
theorem SH.freeze{α:Type}{R:kX α}{E:TypeId}{v:Value}{l:List α}(h:SH w0 M K w hp)(i:Nat)(f:hp i=.own R E v l):SH w0 M K w (bX hp i (.rd R v l)):=by
  refine h.step i (bH.refl BE w) (fun _ h=>h.elim) (fun b a=>a.elim) ?_;have e:=h.ok i;rw[f]at e;refine cO.rd e (fun b a c=>?_) fun b a e=>?_
  · have d:(hp i).own' b:=by rw[f];exact a
    rcases c with c|⟨j,hj,c⟩|c
    · exact h.apM i b d c
    · exact h.apart j i hj b c d
    · exact c
  · rcases a with a|a|a
    · exact .inl<|.inl a
    · exact .inl<|.inr<|lg a
    · exact a.elim
def hset:List (Nat×Chunk)->Nat->Chunk
 |[]=>hno
 |(i,c)::r=>bX (hset r) i c
def HoldsC(hp:Nat->Chunk):List (Nat×Chunk)->Prop
 |[]=>True
 |(i,c)::r=>hp i=c/\HoldsC hp r
theorem hset_is{hp:Nat->Chunk}:∀{l:List (Nat×Chunk)},HoldsC hp l->∀j,hset l j=hp j\/hset l j=.no
  |[],_,_=>.inr Z
  |(i,c)::r,h,j=>by
    by_cases e:j=i
    · subst e;left;show bX _ _ _ _=_;rw[dm];exact h.1.symm
    · show bX _ _ _ _=_\/bX _ _ _ _=_;rw[fu e];exact hset_is h.2 j
theorem SH.canon(h:SH w0 M K w hp)(l:List (Nat×Chunk))(k:HoldsC hp l):SH w0 M K w (hset l):=by
  have c:=hset_is k;have own:∀j b,(hset l j).own' b->(hp j).own' b:=by
    intro j b a;rcases c j with e|e
    · rw[e]at a;exact a
    · rw[e]at a;exact a.elim
  refine⟨h.keep,h.ltM,fun i b a=>h.apM i b<|own i b a,fun i=>?_,fun i j d b a f=>h.apart i j d b (own i b a)<|own j b f,fun i b a=>h.old i b<|own i b a⟩;rcases c i with e|e
  · rw[e];exact Chunk.sub (h.ok i) fun b⟨j,g⟩_=>⟨j,own j b g⟩
  · rw[e];trivial
theorem SH.init{w:World}{M:BS}(a:∀b,M b->b<w.heap.size):SH w M BE w hno:=
 ⟨bH.refl _ _,a,fun _ _ h=>h.elim,fun _=>trivial,fun _ _ _ _ h=>h.elim,fun _ _ h=>h.elim⟩
theorem SH.xE{α:Type}{R:kX α}{E:TypeId}{v:Value}{l:List α}(h:SH w0 M K w hp)(i:Nat)(a:Grow w w')(ho:cO R E w' (SH.A M hp) v l)(d:∀b,ob v b->w.heap.size<=b):SH w0 M K w' (bX hp i (.own R E v l)):=
 h.learn i a d (cO.go ho (bH.refl BE w') (fun _ h=>h.elim) (fun _ h=>h.elim) (fun b c _=>c.elim (fun h=>.inl (.inl h)) (fun h=>h.elim (fun h=>.inl (.inr h)) .inr)))
theorem SH.A8{α:Type}{R:kX α}{v:Value}{l:List α}(h:SH w0 M K w hp)(i:Nat)(a:Grow w w')(ho:cK R w' (SH.A M hp) v l):SH w0 M K w' (bX hp i (.rd R v l)):=
 h.learn i a (fun _ h=>h.elim) (cK.go ho (bH.refl BE w') (fun _ h=>h.elim) (fun b c _=>c.elim .inl (fun h=>h.elim .inr (fun h=>h.elim))))
theorem SH.aJ{α:Type}{R:kX α}{v:Value}{l:List α}(h:SH w0 M K w hp)(i:Nat)(ho:cK R w (SH.A M hp) v l):SH w0 M K w (bX hp i (.rd R v l)):=h.A8 i (bH.refl BE w) ho
theorem SH.GA{α:Type}{R:kX α}{v:Value}{l:List α}(h:SH w0 M K w hp)(i:Nat)(ho:cK R w M v l)(hn:∀b,¬iG hp b):SH w0 M K w (bX hp i (.rd R v l)):=
 h.aJ i (ho.go (bH.refl BE w) (fun _ h=>h.elim) (fun b a _=>a.elim id (fun h=>absurd h (hn b))))
theorem SH.dE{α:Type}{R:kX α}{v:Value}{l:List α}(h:SH w0 M K w hp)(i:Nat)(ho:ed R w BE M v l)(hn:∀b,¬iG hp b):SH w0 M K w (bX hp i (.sr R v l)):=
 h.know i (fun _ h=>h) (ho.sub (fun b a _=>absurd a (hn b)) (fun b a _=>a.elim id (fun h=>absurd h (hn b))))
theorem SH.bK{α:Type}{R:kX α}{v:Value}{l:List α}(h:SH w0 M K w hp)(i:Nat)(a:hp i=.rd R v l):cK R w (SH.A M hp) v l:=by
 have:=h.ok i;rw[a]at this;exact this
theorem SH.srAt{α:Type}{R:kX α}{v:Value}{l:List α}(h:SH w0 M K w hp)(i:Nat)(a:hp i=.sr R v l):ed R w (iG hp) (SH.A M hp) v l:=by
 have:=h.ok i;rw[a]at this;exact this
theorem SH.bF{α:Type}{R:kX α}{E:TypeId}{v:Value}{l:List α}(h:SH w0 M K w hp)(i:Nat)(a:hp i=.own R E v l):cO R E w (SH.A M hp) v l:=by
 have:=h.ok i;rw[a]at this;exact this
theorem SH.zK{b:Nat}{cs:List Value}(h:SH w0 M K w hp)(i:Nat)(a:hp i=.blk b cs):∃E,w.heap[b]? =some (.cells cs.toArray E (0,0)):=by
 have:=h.ok i;rw[a]at this;exact this
theorem SH.ptAt{b o:Nat}{cs:List Value}(h:SH w0 M K w hp)(i:Nat)(a:hp i=.pt b o cs):∃cells E c,w.heap[b]? =some (.cells cells E c)/\(cells.toList.drop o).take cs.length=cs:=by
 have:=h.ok i;rw[a]at this;exact this.2
theorem SH.mpAt{b:Nat}{a:List (Int×Value)}(h:SH w0 M K w hp)(i:Nat)(c:hp i=.mp b a):Iz w b a:=by
 have:=h.ok i;rw[c]at this;exact this
theorem SH.grown(h:SH w0 M BE w hp):Grow w0 w:=h.keep
theorem SH.fresh(h:SH w0 M BE w hp)(i:Nat):∀b,(hp i).own' b->w0.heap.size<=b:=fun b a=>Nat.le_of_not_lt (fun c=>h.old i b a c)
theorem SH.kY{α:Type}{R:kX α}{v:Value}{l:List α}(h:SH w0 M K w hp)(i:Nat)(a:hp i=.rd R v l):ed R w BE (SH.A M hp) v l:=(h.bK i a).src
theorem SH.fU{α:Type}{R:kX α}{v:Value}{l:List α}(h:SH w0 M K w hp)(i:Nat)(a:hp i=.sr R v l):ed R w BE (SH.A M hp) v l:=(h.srAt i a).src
theorem cO.src{α:Type}{R:kX α}{E:TypeId}{w:World}{A:BS}{v:Value}{l:List α}(h:cO R E w A v l):ed R w BE A v l:=by
  obtain⟨xs,d,c⟩:=h;rcases d.2 with⟨rfl,hn⟩|⟨g,cap,cur,rfl,e1,e2,e3,e4,e5,e6⟩
  · have:l=[]:=List.eq_nil_of_length_eq_zero hn;subst this;exact ed.nil
  · refine⟨some ⟨g,0,none⟩,cap,Z,e3,e4,(fun h=>by cases h),fun i a=>⟨g,0,cur,E,(0,0),Z,fun h=>h,e2,?_⟩⟩;have:=R.go (A':=A) (c i a) (bH.refl BE w) (fun _ h=>h.elim) fun b e _=>.inl e;rw[<-e6,List.drop_take,List.take_take,Nat.min_eq_left ?_]at this
    · rw[Nat.zero_add];exact this
    · have:(i+1)*R.sz<=l.length*R.sz:=Nat.mul_le_mul_right _ a;rw[Nat.add_mul]at this;omega
theorem SH.dJ{α:Type}{R:kX α}{E:TypeId}{v:Value}{l:List α}(h:SH w0 M K w hp)(i:Nat)(a:hp i=.own R E v l):ed R w BE (SH.A M hp) v l:=(h.bF i a).src
theorem aO:∀b,¬iG hno b:=fun _⟨_,h⟩=>h
theorem vZ{α:Type}{R:kX α}{v:Value}{l:List α}{i:Nat}(h:∀b,¬iG hp b):∀b,¬iG (bX hp i (.rd R v l)) b:=by
  rintro b⟨j,a⟩;by_cases e:j=i
  · subst e;rw[dm]at a;exact a
  · rw[fu e]at a;exact h b ⟨j,a⟩
theorem aU{α:Type}{R:kX α}{v:Value}{l:List α}{i:Nat}(h:∀b,¬iG hp b):∀b,¬iG (bX hp i (.sr R v l)) b:=by
  rintro b⟨j,a⟩;by_cases e:j=i
  · subst e;rw[dm]at a;exact a
  · rw[fu e]at a;exact h b ⟨j,a⟩
end
open Go.RowKit
def gv(c:Bool)(v:Value):Value:=(bif c then [v]else []).headD undef
theorem eF{c:Bool}{v:Value}(h:c=true):gv c v=v:=by rw[h];rfl
theorem gl{a b:Bool}(h:(a&&b)=true):a=true:=by cases a<;>simp_all
theorem gr{a b:Bool}(h:(a&&b)=true):b=true:=by cases a<;>simp_all
structure kr(P:Program)(T E:TypeId)(sz bytes:Nat):Prop where
 desc:P.underlying T=some (.slice E)
 info:∃i z,P.info? E=some i/\i.zero=some z/\i.size=sz/\i.bytes=bytes/\z.cells.size=sz
theorem QU{P:Program}{T:TypeId}{z:Option Value}{s:Nat}(h:(P.info? T).map (fun i=>(i.zero,i.size))=some (z,s)):∃i,P.info? T=some i/\i.zero=z/\i.size=s:=by
 cases hi:P.info? T with
 |none=>simp[hi]at h
 |some i=>simp[hi]at h;exact⟨i,Z,h.1,h.2⟩
def vV(w:World)(b:Nat)(o:Obj):World:={w with heap:=w.heap.setIfInBounds b o}
theorem uX{w:World}{b:Nat}{o:Obj}(h:b<w.heap.size):(vV w b o).heap[b]? =some o:=by simp[vV,h]
theorem bH.vV(w:World)(b:Nat)(o:Obj):bH (fun x=>x=b) w (vV w b o):=
 ⟨rfl,rfl,rfl,by simp[LX.vV],fun k a _=>by
  have:b≠k:=fun e=>a (by simp[e]);show(w.heap.setIfInBounds b o)[k]? =_;rw[Array.getElem?_setIfInBounds_ne this]⟩
theorem setCell_putb{w:World}{b o:Nat}{cs:Array Value}{E:TypeId}{d:Nat×Nat}{v:Value}(e:w.heap[b]? =some (.cells cs E d)):w.setCell ⟨b,o,none⟩ v=vV w b (.cells (cs.setIfInBounds o v) E d):=by
  simp only[World.setCell,vV];congr 1;have a:=iF e;apply Array.ext_getElem?;intro i;simp only[Array.getElem?_modify,Array.getElem?_setIfInBounds];by_cases c:b=i
  · subst c;rw[if_pos rfl,if_pos rfl,if_pos a,e];rfl
  · simp[c]
theorem IA{w:World}{b:Nat}{cs a:Array Value}{E:TypeId}{e:Nat×Nat}(f:w.heap[b]? =some (.cells cs E e)):w.setRow b a=vV w b (.cells a E e):=by
  simp only[World.setRow,vV];congr 1;have c:=iF f;apply Array.ext_getElem?;intro i;simp only[Array.getElem?_modify,Array.getElem?_setIfInBounds];by_cases d:b=i
  · subst d;rw[if_pos rfl,if_pos rfl,if_pos c,f];rfl
  · simp[d]
def KS(cs:List Value)(o:Nat)(vs:List Value):List Value:=cs.take o++vs++cs.drop (o+vs.length)
def At(w:World)(b o:Nat)(cs:List Value):Prop:=∃cells E a,w.heap[b]? =some (.cells cells E a)/\(cells.toList.drop o).take cs.length=cs
section
variable{P:Program}{ops:Array Oper}{Q:Exit->Act->World->Prop}{n:Nat}{env:Nat->Value}{w w' w0:World}{M K:BS}{hp:Nat->Chunk}{rest:List Oper}
 {d:Option Nat} {op:Op} {ty:TypeId} {pos:String} {af:Array Edge} {v:Value} {g:Option (Nat×Bool)} {T:TypeId} {ρ:Operand->Value} {x y:Operand}
theorem oV{j dj:Nat}{b a:Bool}(c:Bool)(k:(ops[j]?).bind (·.dst)=some dj)(i:ev n env (.tmp dj)=gv c (.bool b))
    (o:(c&&(b==a))=true->(execOp (ev n env) ⟨d,op,ty,pos,af,none⟩).run P w=.ok (.value v) w) (h:WL P ops Q rest n (gq env d (gv (c&&(b==a)) v)) w):
    WL P ops Q (⟨d,op,ty,pos,af,some (j,a)⟩::rest) n env w:=by
  by_cases e:(c&&(b==a))=true
  · have r:=gl e;have f:=gr e;rw[eF r]at i;rw[eF e]at h;have m:b=a:=by simpa using f
    subst m;exact Vh k i<|F (o e) h
  · have g:(c&&(b==a))=false:=by simpa using e
    rw[g]at h;cases c with
    |true=>
      refine cz k i ?_ h;simpa using g
    |false=>
      have q:ev n env (.tmp dj)=undef:=i;have l:yielded ops (act n env).tmps j=none:=by
        unfold yielded;have f:(act n env).eval (.tmp dj)=undef:=by rw[gJ];exact q
        simp only[k,Option.bind_some];simp only[Act.eval]at f;cases h2:(act n env).tmps[dj]? with
        |none=>rfl
        |some x=>simp[Array.getD_eq_getD_getElem?,h2]at f;subst f;rfl
      have p:Region.wanted ⟨d,op,ty,pos,af,some (j,a)⟩ (yielded ops (act n env).tmps)=false:=by simp[Region.wanted,l]
      refine⟨?_⟩;unfold wpList;rw[if_neg (by rw[p];decide),Ec];exact h.out
theorem aQ{j dj:Nat}{b a:Bool}(e:(ops[j]?).bind (·.dst)=some dj)(f:ev n env (.tmp dj)=.bool b)
    (c:(b==a)=true->(execOp (ev n env) ⟨d,op,ty,pos,af,none⟩).run P w=.ok (.value v) w) (h:WL P ops Q rest n (gq env d (gv (b==a) v)) w):
    WL P ops Q (⟨d,op,ty,pos,af,some (j,a)⟩::rest) n env w:=
  oV true e f (fun h=>c (by simpa using h)) (by simpa using h)
theorem fA{c a:Operand}{b p:Bool}(h:ρ c=.bool b)(f:ρ a=gv (b==false) (.bool p))(e:∀v,ρ (.const v)=v):(execOp ρ ⟨d,.pick c (.const (.bool true)) a,ty,pos,af,g⟩).run P w=.ok (.value (.bool (b||p))) w:=by
 cases b<;>simp_all[execOp,asBool,gv]
theorem ig{c a:Operand}{b p:Bool}(f:ρ c=.bool b)(h:ρ a=gv (b==true) (.bool p))(e:∀v,ρ (.const v)=v):(execOp ρ ⟨d,.pick c a (.const (.bool false)),ty,pos,af,g⟩).run P w=.ok (.value (.bool (b&&p))) w:=by
 cases b<;>simp_all[execOp,asBool,gv]
theorem lS{n:Nat}{env:Nat->Value}:∀v,ev n env (.const v)=v:=fun _=>rfl
theorem gV{T:TypeId}{b:Bool}(a:ρ x=.bool b):(execOp ρ ⟨d,.unOp .not T x,ty,pos,af,g⟩).run P w=.ok (.value (.bool !b)) w:=r_not a
theorem r_eqlb{T2:TypeId}{p q:Bool}(b:P.underlying T=some .bool)(c:ρ x=.bool p)(a:ρ y=.bool q):(execOp ρ ⟨d,.binOp .eql T x y T2,ty,pos,af,g⟩).run P w=.ok (.value (.bool (p==q))) w:=by
 simp[execOp,c,a,eqGuard,binOp,run_equal_bool w T p q b]
theorem SL{T2:TypeId}{p q:Bool}(b:P.underlying T=some .bool)(c:ρ x=.bool p)(a:ρ y=.bool q):(execOp ρ ⟨d,.binOp .neq T x y T2,ty,pos,af,g⟩).run P w=.ok (.value (.bool (p !=q))) w:=by
 simp[execOp,c,a,eqGuard,binOp,run_equal_bool w T p q b,bne]
theorem bW{z:Value}{b o:Nat}{cs:List Value}(h:SH w0 M K w hp)(i:Nat)(c:hp i=.blk b cs)(e:One P T z)(j:ρ x=.pointer (some ⟨b,o,none⟩))(f:cs[o]? =some v):
 (execOp ρ ⟨d,.load T x,ty,pos,af,g⟩).run P w=.ok (.value v) w:=let ⟨_,a⟩:=h.zK i c;r_load1 e j a (by simpa using f)
theorem r_loadN{zs vs:List Value}{b o:Nat}{cells:Array Value}{E:TypeId}{r:Nat×Nat}(k:wo P T zs)(u:ρ x=.pointer (some ⟨b,o,none⟩))(e:w.heap[b]? =some (.cells cells E r))(z:(cells.toList.drop o).take zs.length=vs)(t:vs.length=zs.length):
    (execOp ρ ⟨d,.load T x,ty,pos,af,g⟩).run P w=.ok (.value (.agg vs.toArray)) w:=by
  obtain⟨i,p,A,s⟩:=QU k.info;obtain⟨m,y,q⟩:=k.desc;have n:∀j v,vs[j]? =some v->w.cell? ((⟨b,o,none⟩:Addr).add j)=some v:=by
    intro j v a;have c:j<zs.length:=by
      rcases Nat.lt_or_ge j vs.length with h|h
      · omega
      · rw[List.getElem?_eq_none h]at a;cases a
    rw[<-z,List.getElem?_take,if_pos c,List.getElem?_drop]at a;by_cases l:j=0
    · subst l;simpa[Addr.add,World.cell?,e]using a
    · simpa[Addr.add,World.cell?,e,l]using a
  have f:=run_loadCells_list (P:=P) (w:=w) ⟨b,o,none⟩ vs n;rw[t]at f;cases m<;>simp at q<;>simp[execOp,Instr.loadAt,u,Instr.sureAddr,loadVar,isAgg,underlying,y,sizeOf,typeInfo,p,s,f]
theorem xG{zs vs:List Value}{b o:Nat}{cs:List Value}(h:SH w0 M K w hp)(i:Nat)(c:hp i=.blk b cs)(f:wo P T zs)(k:ρ x=.pointer (some ⟨b,o,none⟩))(j:(cs.drop o).take zs.length=vs)(e:vs.length=zs.length):
 (execOp ρ ⟨d,.load T x,ty,pos,af,g⟩).run P w=.ok (.value (.agg vs.toArray)) w:=let ⟨_,a⟩:=h.zK i c;r_loadN f k a (by simpa using j) e
theorem lG{z:Value}{b o k:Nat}{cs:List Value}(h:At w b o cs)(j:One P T z)(l:ρ x=.pointer (some ⟨b,o+k,none⟩))(a:cs[k]? =some v):
    (execOp ρ ⟨d,.load T x,ty,pos,af,g⟩).run P w=.ok (.value v) w:=by
  obtain⟨cells,E,m,i,e⟩:=h;refine r_load1 j l i ?_;have f:k<cs.length:=by
    rcases Nat.lt_or_ge k cs.length with h1|h1
    · exact h1
    · rw[List.getElem?_eq_none h1]at a;cases a
  have c:((cells.toList.drop o).take cs.length)[k]? =some v:=by rw[e];exact a
  rw[List.getElem?_take,if_pos f,List.getElem?_drop]at c;simpa using c
theorem YW{α:Type}{l:List α}{o k m s:Nat}{cs:List α}(h:(l.drop o).take s=cs)(a:k+m<=s):(l.drop (o+k)).take m=(cs.drop k).take m:=by
 rw[<-h,List.drop_take,List.take_take,List.drop_drop,Nat.min_eq_left V]
theorem lT{zs vs:List Value}{b o k:Nat}{cs:List Value}(h:At w b o cs)(i:wo P T zs)(l:ρ x=.pointer (some ⟨b,o+k,none⟩))(j:(cs.drop k).take zs.length=vs)(f:vs.length=zs.length)(c:k+zs.length<=cs.length):
  (execOp ρ ⟨d,.load T x,ty,pos,af,g⟩).run P w=.ok (.value (.agg vs.toArray)) w:=by
 obtain⟨cells,E,m,e,a⟩:=h;exact r_loadN i l e (by rw[YW a c];exact j) f
theorem fD{z:Value}{b o k:Nat}{cs:List Value}(h:SH w0 M K w hp)(i:Nat)(a:hp i=.pt b o cs)(c:One P T z)(f:ρ x=.pointer (some ⟨b,o+k,none⟩))(e:cs[k]? =some v):
 (execOp ρ ⟨d,.load T x,ty,pos,af,g⟩).run P w=.ok (.value v) w:=lG (h.ptAt i a) c f e
theorem KW{zs vs:List Value}{b o k:Nat}{cs:List Value}(h:SH w0 M K w hp)(i:Nat)(c:hp i=.pt b o cs)(f:wo P T zs)(l:ρ x=.pointer (some ⟨b,o+k,none⟩))(j:(cs.drop k).take zs.length=vs)(e:vs.length=zs.length)(a:k+zs.length<=cs.length):
 (execOp ρ ⟨d,.load T x,ty,pos,af,g⟩).run P w=.ok (.value (.agg vs.toArray)) w:=lT (h.ptAt i c) f l j e a
theorem aK{b o k off:Nat}(m:dP P T k off)(n:ρ x=.pointer (some ⟨b,o,none⟩)):
  (execOp ρ ⟨d,.fieldAddr T x k,ty,pos,af,g⟩).run P w=.ok (.value (.pointer (some ⟨b,o+off,none⟩))) w:=by
 obtain⟨q,f,s,h,j,e,c⟩:=m.desc;obtain⟨i,a,l⟩:∃i,P.info? f.type=some i/\i.size=s+1:=by
  cases a:P.info? f.type with
  |none=>simp[a]at c
  |some i=>simp[a]at c;exact⟨i,Z,c⟩
 by_cases p:off=0<;>simp[execOp,Instr.fieldAt,underlying,h,j,n,Instr.sureAddr,fieldPlace,sizeOf,typeInfo,a,l,e,Addr.add,p]
theorem aR{a:Addr}(b:ρ x=.pointer (some a)):(execOp ρ ⟨d,.nilCheck x,ty,pos,af,g⟩).run P w=.ok (.value (.pointer (some a))) w:=by
 simp[execOp,b]
theorem gG{α:Type}{R:kX α}{E:TypeId}{c:Nat}{B A:BS}{l:List α}{b:World}(e:SliceOf P T E c)(h:ρ x=v)(f:ed R b B A v l):
  (execOp ρ ⟨d,.call {callee:=.builtin .len,args:= #[x],argTypes:= #[T]},ty,pos,af,g⟩).run P w=.ok (.value (.int .i64 l.length)) w:=by
 obtain⟨a,cap,rfl,_⟩:=f;exact pg e h
theorem Je{s:Str}(a:P.underlying T=some .string)(b:ρ x=bB s):
  (execOp ρ ⟨d,.call {callee:=.builtin .len,args:= #[x],argTypes:= #[T]},ty,pos,af,g⟩).run P w=.ok (.value (.int .i64 s.length)) w:=by
 have c:(⟨s.toArray⟩:ByteArray).size=s.length:=by simp[ByteArray.size]
 simp[execOp,resolve,invoke,builtin,Builtin.len_,b,bB,underlying,a,goInt,c]
theorem r_ix{α:Type}{R:kX α}{E:TypeId}{B A:BS}{l:List α}{k:Int}{a:α}{n:World}(s:SliceOf P T E R.sz)(J:ed R n B A v l)(r:0<=k)(j:l[k.toNat]? =some a):
    ∃b o cs,(∀(ρ:Operand->Value) x y w d ty pos af g,ρ x=v->ρ y=.int .i64 k->(execOp ρ ⟨d,.indexAddr T x y,ty,pos,af,g⟩).run P w=.ok (.value (.pointer (some ⟨b,o,none⟩))) w)/\¬B b/\At n b o cs/\R.rd n A cs a:=by
  have e:k.toNat<l.length:=by
    rcases Nat.lt_or_ge k.toNat l.length with h|h
    · exact h
    · rw[List.getElem?_eq_none h]at j;cases j
  obtain⟨a',cap,rfl,O,N,M,u⟩:=J;obtain⟨b,o,cells,c,t,rfl,C,I,q⟩:=u k.toNat e;obtain⟨i,f,z⟩:∃i,P.info? E=some i/\i.size=R.sz:=by
    have:=s.info;cases f:P.info? E with
    |none=>simp[f]at this
    |some i=>simp[f]at this;exact⟨i,Z,this⟩
  have m:l[k.toNat]=a:=by rw[List.getElem?_eq_getElem e]at j;exact Option.some.inj j
  rw[m]at q;refine⟨b,o+k.toNat*R.sz,_,?_,C,⟨cells,c,t,I,by rw[R.len q]⟩,q⟩;intro ρ x y w d ty pos af g G K;simp only[execOp,Instr.indexAt,G,K,asIntOf,underlying,sizeOf,typeInfo];have L:(⟨b,o,none⟩:Addr).add (k.toNat*R.sz)=⟨b,o+k.toNat*R.sz,none⟩:=by
    unfold Addr.add;split
    · next hz=>rw[hz];rfl
    · rfl
  have p:k<(l.length:Int):=by omega
  simp[s.desc,f,z,r,p,L]
theorem SH.pt(h:SH w0 M K w hp)(i:Nat){b o:Nat}{cs:List Value}(a:¬iG hp b)(c:At w b o cs):SH w0 M K w (bX hp i (.pt b o cs)):=
 h.know i (fun _ h=>h) ⟨a,c⟩
theorem Zm{i:Nat}{c:Chunk}(d:∀b,¬c.own' b):∀b,iG (bX hp i c) b->iG hp b:=by
  rintro b⟨j,a⟩;by_cases e:j=i
  · subst e;rw[dm]at a;exact absurd a (d b)
  · rw[fu e]at a;exact⟨j,a⟩
theorem ed.up{α:Type}{R:kX α}{l:List α}{i:Nat}{c:Chunk}(h:cK R w (SH.A M hp) v l)(d:∀b,¬c.own' b:=by exact fun _ h=>h):cK R w (SH.A M (bX hp i c)) v l:=
 h.sub (fun b a _=>a.imp id (Zm d b)) (fun b a _=>a.imp id (Zm d b))
abbrev IxOk(P:Program)(T:TypeId)(v:Value)(k:Int)(p:Value):Prop:=∀(ρ:Operand->Value) x y w d ty pos af g,ρ x=v->ρ y=.int .i64 k->(execOp ρ ⟨d,.indexAddr T x y,ty,pos,af,g⟩).run P w=.ok (.value p) w
theorem SH.Jf{α:Type}{R:kX α}{E:TypeId}{d:Nat}{l:List α}{k:Int}{a:α}(h:SH w0 M K w hp)(i j:Nat)(f:hp i=.rd R v l)(s:SliceOf P T E d)(n:R.sz=d)(c:0<=k)(r:l[k.toNat]? =some a):
  ∃b o cs,SH w0 M K w (bX hp j (.pt b o cs))/\R.rd w (SH.A M hp) cs a/\IxOk P T v k (.pointer (some ⟨b,o,none⟩)):=by
 subst n;obtain⟨b,o,cs,q,m,e,g⟩:=r_ix s (h.bK i f) c r;exact⟨b,o,cs,h.pt j (fun p=>m<|.inr p) e,g,q⟩
theorem SH.A9{α:Type}{R:kX α}{E:TypeId}{d:Nat}{l:List α}{k:Int}{a:α}(h:SH w0 M K w hp)(i j:Nat)(f:hp i=.sr R v l)(r:SliceOf P T E d)(n:R.sz=d)(c:0<=k)(q:l[k.toNat]? =some a):
  ∃b o cs,SH w0 M K w (bX hp j (.pt b o cs))/\R.rd w (SH.A M hp) cs a/\IxOk P T v k (.pointer (some ⟨b,o,none⟩)):=by
 subst n;obtain⟨b,o,cs,p,m,e,g⟩:=r_ix r (h.srAt i f) c q;exact⟨b,o,cs,h.pt j m e,g,p⟩
def OV(o:Option Value)(a:Int)(b:Nat):Prop:=(o=none/\a=b)\/o=some (.int .i64 a)
def cut{α:Type}(l:List α)(a b:Int):List α:=(l.take b.toNat).drop a.toNat
theorem r_slv{α:Type}{R:kX α}{E:TypeId}{a b:Int}{B A:BS}{l:List α}{z:World}(hT:SliceOf P T E R.sz)(hv:ed R z B A v l)(ha:0<=a)(k:a<=b)(X:b<=l.length):
    ∃u,(∀(ρ:Operand->Value) x (t h:Option Operand) w d ty pos af g,ρ x=v->OV (t.map ρ) a 0->OV (h.map ρ) b l.length->(execOp ρ ⟨d,.slice T x t h none,ty,pos,af,g⟩).run P w=.ok (.value u) w)/\ed R z B A u (cut l a b)/\(∀(r:World) (q s:BS) (n:List α),ed R r q s v n->n.length=l.length->ed R r q s u (cut n a b)):=by
  obtain⟨a,rfl⟩:=Int.eq_ofNat_of_zero_le ha;obtain⟨b,rfl⟩:=Int.eq_ofNat_of_zero_le (by omega:0<=b);have k:a<=b:=by omega
  have X:b<=l.length:=by omega
  obtain⟨ad,cap,rfl,h1,O,K,I⟩:=hv;obtain⟨i,M,L⟩:∃i,P.info? E=some i/\i.size=R.sz:=by
    have:=hT.info;cases h:P.info? E with
    |none=>simp[h]at this
    |some i=>simp[h]at this;exact⟨i,Z,this⟩
  have p:b<=cap:=by omega
  refine⟨.slice (if cap=a then ad else ad.map (·.add (a*R.sz))) (b-a)<|cap-a,fun ρ x t h w d ty pos af g hx C N=>?_,?_⟩
  · have y:(Instr.sliceBounds true l.length cap (t.map ρ) (h.map ρ) none).run P w=.ok (a,b,cap) w:=by
      have h0:(0:Int)<=(a:Int):=Int.natCast_nonneg a;have a5:(0:Int)<=(b:Int):=Int.natCast_nonneg b;have a3:(a:Int)<=(b:Int):=by omega
      have a0:(b:Int)<=(cap:Int):=by omega
      rcases C with⟨m,e2⟩|m<;>rcases N with⟨f1,f2⟩|f1
      · obtain rfl:a=0:=by omega
        obtain rfl:b=l.length:=by omega
        simp[Instr.sliceBounds,m,f1]
      · obtain rfl:a=0:=by omega
        simp[Instr.sliceBounds,m,f1,Instr.sliceBound,asIntOf,p]
      · obtain rfl:b=l.length:=by omega
        simp[Instr.sliceBounds,m,f1,Instr.sliceBound,asIntOf,k]
      · simp[Instr.sliceBounds,m,f1,Instr.sliceBound,asIntOf,k,p]
    simp only[execOp,Instr.sliceAt,Instr.slice,underlying,hx];simp[hT.desc,y,sizeOf,typeInfo,M,L]
  suffices c:∀(r:World) (q s:BS) (n:List α),ed R r q s (.slice ad l.length cap) n->n.length=l.length->ed R r q s (.slice (if cap=a then ad else ad.map (·.add (a*R.sz))) (b-a) (cap-a)) (cut n a b)from⟨c _ _ _ l ⟨ad,cap,Z,h1,O,K,I⟩ Z,c⟩
  · intro z B A l⟨a4,Q,e0,h1,O,K,I⟩a1;obtain⟨J,a2,G⟩:=Value.slice.inj e0;subst J;subst G;have X:b<=l.length:=by omega
    have f:(cut l a b).length=b-a:=by simp[cut];omega
    refine⟨_,cap-a,by rw[f],by rw[f];omega,by omega,?_,?_⟩
    · intro hn;split at hn
      · omega
      · cases ad with
        |none=>have:=K Z;omega
        |some x=>simp at hn
    · intro j S;rw[f]at S;obtain⟨bb,o,cells,e,fz,m,e2,e3,e4⟩:=I (a+j) V;subst m;refine⟨bb,o+a*R.sz,cells,e,fz,?_,e2,e3,?_⟩
      · rw[if_neg V];simp only[Option.map_some,Option.some.injEq];unfold Addr.add;split
        · next hz=>rw[hz];rfl
        · rfl
      · have:(cut l a b)[j]'(by rw[f];exact S)=l[a+j]'V:=by simp[cut]
        rw[this];rw[show o+a*R.sz+j*R.sz=o+(a+j)*R.sz by rw[Nat.add_mul,Nat.add_assoc]];exact e4
theorem r_sl{α:Type}{R:kX α}{E:TypeId}{a b:Int}{B A:BS}{l:List α}{e:World}(o:SliceOf P T E R.sz)(k:ed R e B A v l)(n:0<=a)(c:a<=b)(j:b<=l.length):
  ∃u,(∀(ρ:Operand->Value) x (h f:Option Operand) w d ty pos af g,ρ x=v->OV (h.map ρ) a 0->OV (f.map ρ) b l.length->(execOp ρ ⟨d,.slice T x h f none,ty,pos,af,g⟩).run P w=.ok (.value u) w)/\ed R e B A u (cut l a b):=
 let ⟨u,m,i,_⟩:=r_slv o k n c j;⟨u,m,i⟩
abbrev SlOk(P:Program)(T:TypeId)(v:Value)(a b:Int)(n:Nat)(u:Value):Prop:=∀(ρ:Operand->Value) x (e c:Option Operand) w d ty pos af g,ρ x=v->OV (e.map ρ) a 0->OV (c.map ρ) b n->(execOp ρ ⟨d,.slice T x e c none,ty,pos,af,g⟩).run P w=.ok (.value u) w
theorem SH.slR{α:Type}{R:kX α}{E:TypeId}{d:Nat}{a b:Int}{l:List α}(h:SH w0 M K w hp)(i j:Nat)(e:hp i=.rd R v l)(o:SliceOf P T E d)(g:R.sz=d)(n:0<=a)(c:a<=b)(k:b<=l.length):
  ∃u,SH w0 M K w (bX hp j (.rd R u (cut l a b)))/\SlOk P T v a b l.length u:=by
 subst g;obtain⟨u,m,f⟩:=r_sl o (h.bK i e) n c k;exact⟨u,h.aJ j f,m⟩
theorem SH.slS{α:Type}{R:kX α}{E:TypeId}{d:Nat}{a b:Int}{l:List α}(h:SH w0 M K w hp)(i j:Nat)(e:hp i=.sr R v l)(o:SliceOf P T E d)(g:R.sz=d)(n:0<=a)(c:a<=b)(k:b<=l.length):
  ∃u,SH w0 M K w (bX hp j (.sr R u (cut l a b)))/\SlOk P T v a b l.length u:=by
 subst g;obtain⟨u,m,f⟩:=r_sl o (h.srAt i e) n c k;exact⟨u,h.know j (fun _ h=>h) f,m⟩
theorem r_allocN{zs:List Value}(b:wo P T zs):(execOp ρ ⟨d,.alloc T,ty,pos,af,g⟩).run P w=.ok (.value (.pointer (some ⟨w.heap.size,0,none⟩))) (w.alloc (.cells zs.toArray T)):=by
 obtain⟨i,a,c,e⟩:=QU b.info;simp[execOp,Instr.alloc,zeroValue,typeInfo,a,c,newVar,newRow,Value.cells,World.alloc,-World.alloc_eq]
theorem r_alloc1{z:Value}(a:One P T z):(execOp ρ ⟨d,.alloc T,ty,pos,af,g⟩).run P w=.ok (.value (.pointer (some ⟨w.heap.size,0,none⟩))) (w.alloc (.cells #[z] T)):=by
 obtain⟨i,b,c,e⟩:=QU a.info;simp[execOp,Instr.alloc,zeroValue,typeInfo,b,c,newVar,newRow,a.cell,World.alloc,-World.alloc_eq]
theorem r_box(a:ρ x=v):(execOp ρ ⟨d,.box T x,ty,pos,af,g⟩).run P w=.ok (.value (.pointer (some ⟨w.heap.size,0,none⟩))) (w.alloc (.cells v.cells T)):=by
 simp[execOp,Instr.box,newVar,newRow,a,World.alloc,-World.alloc_eq]
theorem SH.newB(h:SH w0 M K w hp)(i:Nat)(cs:List Value)(T:TypeId):SH w0 M K (w.alloc (.cells cs.toArray T)) (bX hp i (.blk w.heap.size cs)):=
 h.learn i (Grow.alloc _ _) (fun b a=>Nat.le_of_eq a.symm) ⟨T,NR _ _⟩
theorem bz{zs:List Value}(h:SH w0 M K w hp)(i:Nat)(a:wo P T zs)(k:∀w' b,SH w0 M K w' (bX hp i (.blk b zs))->WL P ops Q rest n (gq env d (.pointer (some ⟨b,0,none⟩))) w'):WL P ops Q (⟨d,.alloc T,ty,pos,af,none⟩::rest) n env w:=
 F (r_allocN a) (k _ _ (h.newB i zs T))
theorem yc{z:Value}(h:SH w0 M K w hp)(i:Nat)(a:One P T z)(k:∀w' b,SH w0 M K w' (bX hp i (.blk b [z]))->WL P ops Q rest n (gq env d (.pointer (some ⟨b,0,none⟩))) w'):WL P ops Q (⟨d,.alloc T,ty,pos,af,none⟩::rest) n env w:=
 F (r_alloc1 a) (k _ _ (h.newB i [z] T))
theorem iy{cs:List Value}(h:SH w0 M K w hp)(i:Nat)(c:ev n env x=v)(a:v.cells=cs.toArray)(k:∀w' b,SH w0 M K w' (bX hp i (.blk b cs))->WL P ops Q rest n (gq env d (.pointer (some ⟨b,0,none⟩))) w'):WL P ops Q (⟨d,.box T x,ty,pos,af,none⟩::rest) n env w:=
 F (by rw[r_box c,a]) (k _ _ (h.newB i cs T))
theorem QV{z:Value}{b o:Nat}{cs:Array Value}{E:TypeId}(m:One P T z)(n:ρ x=.pointer (some ⟨b,o,none⟩))(c:w.heap[b]? =some (.cells cs E (0,0)))(ho:o<cs.size)(f:ρ y=v)(e:v.oneCell'=true):
  (execOp ρ ⟨d,.store T x y,ty,pos,af,g⟩).run P w=.ok .skip (vV w b (.cells (cs.setIfInBounds o v) E (0,0))):=by
 obtain⟨i,k,p,j⟩:=QU m.info;have h:w.cell? ⟨b,o,none⟩=some cs[o]:=by simp[World.cell?,c,ho]
 have l:w.frozen? ⟨b,o,none⟩=false:=by simp[World.frozen?,c]
 have a:v.cells= #[v]:=by cases v<;>first|rfl|simp[Value.oneCell']at e
 rw[<-setCell_putb c];simp only[execOp,Instr.storeAt,n,f,Instr.sureAddr,storeVar,a,sizeOf,typeInfo];simp[k,j,storeCells,run_store _ _ _ _ _ e,h,l,Addr.add]
theorem QW{zs vs:List Value}{b o:Nat}{cs:List Value}{E:TypeId}(j:wo P T zs)(l:ρ x=.pointer (some ⟨b,o,none⟩))(a:w.heap[b]? =some (.cells cs.toArray E (0,0)))(c:ρ y=.agg vs.toArray)(h:vs.length=zs.length)(ho:o+vs.length<=cs.length)(k:∀v∈vs,v.oneCell'=true):
  (execOp ρ ⟨d,.store T x y,ty,pos,af,g⟩).run P w=.ok .skip (vV w b (.cells (KS cs o vs).toArray E (0,0))):=by
 obtain⟨i,f,m,e⟩:=QU j.info;have:=run_storeCells_at (P:=P) b o E vs 0 cs.toArray w a (by simpa using ho) k;simp only[execOp,Instr.storeAt,l,c,Instr.sureAddr,storeVar,Value.cells,sizeOf,typeInfo];simp[f,e,h,this,IA a,KS]
theorem SH.putB{b:Nat}{cs:List Value}(h:SH w0 M K w hp)(i:Nat)(c:hp i=.blk b cs)(a:List Value)(E:TypeId):SH w0 M K (vV w b (.cells a.toArray E (0,0))) (bX hp i (.blk b a)):=by
 have d:=h.zK i c;obtain⟨f,d⟩:=d;exact h.step i (bH.vV _ _ _) (fun x e _=>by rw[c];exact e) (fun x e _=>by rw[c];exact e) ⟨E,uX (iF d)⟩
theorem gK{z:Value}{b o:Nat}{cs:List Value}(h:SH w0 M K w hp)(i:Nat)(a:List Value)(c:hp i=.blk b cs)(j:One P T z)(m:ev n env x=.pointer (some ⟨b,o,none⟩))(f:ev n env y=v)(ho:cs.set o v=a)(e:Nat.blt o cs.length=true)(l:v.oneCell'=true)
  (k:∀w',SH w0 M K w' (bX hp i (.blk b a))->WL P ops Q rest n (gq env d undef) w'):
  WL P ops Q (⟨d,.store T x y,ty,pos,af,none⟩::rest) n env w:=by
 obtain⟨E,g⟩:=h.zK i c;refine Al (QV j m g (by rw[Nat.blt_eq]at e;simpa using e) f l) (k _ ?_);have:=h.putB i c a E;subst ho;simpa using this
theorem w_stN{zs vs:List Value}{b o:Nat}{cs:List Value}(h:SH w0 M K w hp)(i:Nat)(a:List Value)(e:hp i=.blk b cs)(p:wo P T zs)(j:ev n env x=.pointer (some ⟨b,o,none⟩))(m:ev n env y=.agg vs.toArray)(g:vs.length=zs.length)(ho:KS cs o vs=a)(f:Nat.ble (o+vs.length) cs.length=true)(l:∀v∈vs,v.oneCell'=true)
  (k:∀w',SH w0 M K w' (bX hp i (.blk b a))->WL P ops Q rest n (gq env d undef) w'):
  WL P ops Q (⟨d,.store T x y,ty,pos,af,none⟩::rest) n env w:=by
 obtain⟨E,c⟩:=h.zK i e;subst ho;exact Al (QW p j c m g (Nat.le_of_ble_eq_true f) l)<|k _<|h.putB i e _ E
def QX(P:Program)(f:FuncId):Prop:=∃a,P.funcs[f]? =some a/\(a.name== "runtime.NumGoroutine")=false/\a.body.isNone=false
theorem r_call{f:FuncId}{first captured:Array Value}{xs:Array Operand}{l:Array TypeId}(k:QX P f)(m:ρ x=.func (.func f) first captured):
  (execOp ρ ⟨d,.call {callee:=.value x,args:=xs,argTypes:=l},ty,pos,af,g⟩).run P w=.ok (.enter f (first++xs.map ρ++captured)) w:=by
 obtain⟨c,i,j,h⟩:=k;have a:¬c.name= "runtime.NumGoroutine" :=by simpa using j
 have b:¬c.body=none:=fun e=>by simp[e]at h
 simp[execOp,resolve,m,Deferred.ofValue,invoke,callFunc,i,a,b]
theorem bV{f:FuncId}{first captured:Array Value}{xs:Array Operand}{g:Array TypeId}{args:List Value}{R:Ending->World->Prop}(c:QX P f)(i:ev n env x=.func (.func f) first captured)
  (b:first.toList++xs.toList.map (ev n env)++captured.toList=args) (a:Calls P f args.toArray w R)
  (h:∀e w',R e w'->∃v,e=.returned v/\WL P ops Q rest n (gq env d v) w'):
  WL P ops Q (⟨d,.call {callee:=.value x,args:=xs,argTypes:=g},ty,pos,af,none⟩::rest) n env w:=by
 refine wl_enter (r_call c i) ?_ h;have:first++xs.map (ev n env)++captured=args.toArray:=by
  rw[<-b];apply Array.ext';simp
 rw[this];exact a
theorem dR{i:Nat}{vs:List Value}(b:ρ x=.tuple vs.toArray)(a:vs[i]? =some v):(execOp ρ ⟨d,.extract x i,ty,pos,af,g⟩).run P w=.ok (.value v) w:=by
 simp[execOp,Instr.extract,b,a]
theorem wu{f:FuncId}{first captured:Array Operand}{c1 c2:List Value}(b:first.toList.map ρ=c1)(e:captured.toList.map ρ=c2):
  (execOp ρ ⟨d,.makeFunc (.func f) first captured,ty,pos,af,g⟩).run P w=.ok (.value (.func (.func f) c1.toArray c2.toArray)) w:=by
 have c:first.map ρ=c1.toArray:=by rw[<-b];apply Array.ext';simp
 have a:captured.map ρ=c2.toArray:=by rw[<-e];apply Array.ext';simp
 simp[execOp,Instr.makeFunc,c,a]
theorem calls_start{f:FuncId}{a:Func}{c:Code}{args:List Value}{R:Ending->World->Prop}{n:Nat}
  (d:P.funcs[f]? =some a) (b:a.body=some c) (hn:a.ntmps=n) (e:args.length<=n)
  (h:WC P c (bodyPost P a R) n (SI args) w):Calls P f args.toArray w R:=by
 refine calls_of_wp d b ?_;rw[hn,act_init n args e];exact h.out
theorem aY{a:Func}{R:Ending->World->Prop}{t:Tmp}(b:a.results= #[.tmp t])(c:ev n env (.tmp t)=v)(h:R (.returned v) w):bodyPost P a R .ret (act n env) w:=by
 refine⟨Z,v,?_,h⟩;rw[results_tmp b];have:=congrFun (gJ n env)<|.tmp t;rw[c]at this;exact congrArg (fun v=>Result.ok v w) this
theorem fin0{a:Func}{R:Ending->World->Prop}(b:a.results= #[])(h:R (.returned (.tuple #[])) w):bodyPost P a R .ret (act n env) w:=⟨rfl,_,results_none b _ _ _,h⟩
theorem QY{a:Func}{R:Ending->World->Prop}(b:a.results= #[])(h:R (.returned (.tuple #[])) w):bodyPost P a R .normal (act n env) w:=⟨rfl,_,results_none b _ _ _,h⟩
theorem xH{c:Func}{R:Ending->World->Prop}{t u:Tmp}{v1 v2:Value}(f:c.results= #[.tmp t,.tmp u])(d:ev n env (.tmp t)=v1)(e:ev n env (.tmp u)=v2)(h:R (.returned (.tuple #[v1,v2])) w):bodyPost P c R .ret (act n env) w:=by
 refine⟨Z,_,?_,h⟩;rw[results_tmp2 f];have a:=congrFun (gJ n env)<|.tmp t;have b:=congrFun (gJ n env)<|.tmp u;rw[d]at a;rw[e]at b;simp only[Act.eval]at a b;rw[a,b]
end
section
variable{α β σ ρ:Type}{r:ρ}{G:Prop}
theorem iR{b:Bool}{X a:ρ}(c:cond b X a=r)(d:b=true->X=r->G)(e:b=false->a=r->G):G:=by
  cases b
  · exact e Z c
  · exact d Z c
theorem az{o:Option α}{f:α->Option β}{r:β}(h:o.bind f=some r):∃x,o=some x/\f x=some r:=by
 cases o with
 |none=>cases h
 |some x=>exact⟨x,rfl,h⟩
def iA(p:Prop) [Decidable p](x:Option β):Option β:=if p then x else none
theorem bC{p:Prop} [Decidable p]{x:Option β}{r:β}(h:iA p x=some r):p/\x=some r:=by
  unfold iA at h;by_cases hp:p
  · rw[if_pos hp]at h;exact⟨hp,h⟩
  · rw[if_neg hp]at h;cases h
def idx(l:List α)(k:Int):Option α:=if 0<=k then l[k.toNat]? else none
theorem aF{l:List α}{k:Int}{x:α}(h:idx l k=some x):0<=k/\l[k.toNat]? =some x:=by
  unfold idx at h;by_cases hp:0<=k
  · rw[if_pos hp]at h;exact⟨hp,h⟩
  · rw[if_neg hp]at h;cases h
def sub?(l:List α)(a b:Int):Option (List α):=if 0<=a/\a<=b/\b<=l.length then some (cut l a b)else none
theorem OW{l:List α}{a b:Int}{x:List α}(h:sub? l a b=some x):x=cut l a b/\0<=a/\a<=b/\b<=l.length:=by
  unfold sub? at h;by_cases hp:0<=a/\a<=b/\b<=l.length
  · rw[if_pos hp]at h;cases h;exact⟨Z,hp⟩
  · rw[if_neg hp]at h;cases h
def kg(x:Int):Prop:= -9223372036854775808<=x/\x<=9223372036854775807
def i64b:Int->Bool
 | .ofNat n=>Nat.ble n 9223372036854775807
 | .negSucc n=>Nat.ble n 9223372036854775807
theorem i64b_iff{x:Int}:i64b x=true↔kg x:=by
 unfold kg;cases x with
 |ofNat n=>simp[i64b,Nat.ble_eq];omega
 |negSucc n=>simp[i64b,Nat.ble_eq];omega
instance (x:Int):Decidable (kg x):=decidable_of_iff (i64b x=true) i64b_iff
theorem kg.mk{x:Int}(a: -9223372036854775808<=x)(b:x<=9223372036854775807):kg x:=⟨a,b⟩
def each(body:α->σ->(σ->ρ)->ρ)(k:σ->ρ):List α->σ->ρ
 |[],s=>k s
 |x::r,s=>body x s (each body k r)
def gU(body:Int->α->σ->(σ->ρ)->ρ)(k:σ->ρ):Int->List α->σ->ρ
 |_,[],s=>k s
 |i,x::r,s=>body i x s (gU body k (i+1) r)
def upto(body:Int->σ->(σ->ρ)->ρ)(k:σ->ρ):Int->Nat->σ->ρ
 |_,0,s=>k s
 |i,m+1,s=>body i s (upto body k (i+1) m)
def again(body:σ->(σ->Option β)->Option β):Nat->σ->Option β
 |0,_=>none
 |n+1,s=>body s (again body n)
end
section
variable{P:Program}{Q:Exit->Act->World->Prop}{n:Nat}{env:Nat->Value}{w:World}{x y:Code}
theorem aC{ρ:Type}{r X a:ρ}{c:Operand}{b:Bool}(d:cond b X a=r)(e:ev n env c=.bool b)(f:b=true->X=r->WC P x Q n env w)(g:b=false->a=r->WC P y Q n env w):
 WC P (Code.cond c x y) Q n env w:=eP e (fun h=>f h (by rw[h]at d;exact d)) (fun h=>g h (by rw[h]at d;exact d))
def JP{σ:Type}(n:Nat)(mod:Nat->Bool)(SI:Nat->Value)(live:σ->List (Nat×Value))(J:σ->World->Prop):Act->World->Prop:=
 fun a' w'=>∃s e,a'=act n e/\Iq mod e SI/\Holds e (live s)/\J s w'
def JL{σ:Type}(n:Nat)(mod:Nat->Bool)(SI:Nat->Value)(live:σ->List (Nat×Value))(J:σ->World->Prop)(a:σ->Nat)(b:σ):Act->World->Prop:=
 fun a' w'=>∃s e,a'=act n e/\Iq mod e SI/\Holds e (live s)/\J s w'/\a s<a b
theorem fB{σ:Type}{c:Code}(mod:Nat->Bool)(live:σ->List (Nat×Value))(J:σ->World->Prop)(d:σ->Nat)(b:σ)
 (h:Holds env (live b)) (g:J b w)
 (a:∀s e f,J s e->WC P c (Exit.then (JL n mod env live J d s) Q) n (YV (hav mod f env) (live s)) e):
 WC P (Code.loop c) Q n env w:=wc_loop mod live J d b h g a
theorem bU{σ:Type}(mod:Nat->Bool)(live:σ->List (Nat×Value))(J:σ->World->Prop)
  (b:∀s w f,J s w->WC P y Q n (YV (hav mod f env) (live s)) w)
  (h:WC P x (Exit.then (JP n mod env live J) Q) n env w):WC P (Code.seq x y) Q n env w:=by
 refine aD ⟨wp_mono h.out fun c a w h=>?_⟩;cases c with
 |normal=>
  obtain⟨s,e,rfl,d,i,g⟩:=h;have:=b s w e g;rw[hav_self d,SK _ i]at this;exact this.out
 |_=>exact h
end
section
variable{K:Act->World->Prop}{Q:Exit->Act->World->Prop}{a:Act}{w:World}{i j:Nat}
theorem ah(h:K a w):Exit.then K Q .normal a w:=h
theorem ai(h:Q .ret a w):Exit.then K Q .ret a w:=h
theorem bY(h:Q (.exit i) a w):Exit.then K Q (.exit i) a w:=h
theorem ak(h:Q .normal a w):Exit.inBlock i Q .normal a w:=h
theorem aA(h:Q .ret a w):Exit.inBlock i Q .ret a w:=h
theorem fC(h:Q .normal a w):Exit.inBlock i Q (.exit i) a w:=by simp only[Exit.inBlock,if_true];exact h
theorem GD(hn:¬j=i)(h:Q (.exit j) a w):Exit.inBlock i Q (.exit j) a w:=by simp only[Exit.inBlock,if_neg hn];exact h
end
theorem Iq.os{mod:Nat->Bool}{e a:Nat->Value}{d:Nat}{v:Value}(b:mod d=true)(h:Iq mod e a):Iq mod (gq e (some d) v) a:=Iq.upd b h
theorem Iq.on{mod:Nat->Bool}{e a:Nat->Value}{v:Value}(h:Iq mod e a):Iq mod (gq e none v) a:=h
theorem Iq.uc{mod:Nat->Bool}{e a:Nat->Value}{d:Nat}{v:Value}{l:List (Nat×Value)}(b:mod d=true)(h:Iq mod (YV e l) a):Iq mod (YV e ((d,v)::l)) a:=Iq.upd b h
theorem Iq.un{mod:Nat->Bool}{e a:Nat->Value}(h:Iq mod e a):Iq mod (YV e []) a:=h
def inl(l:List Nat)(i:Nat):Bool:=match l with|[]=>false|a::r=>bif Nat.beq i a then true else inl r i
def subl(l m:List Nat):Bool:=match l with|[]=>true|a::r=>bif inl m a then subl r m else false
theorem subl_inl{m:List Nat}:∀{l:List Nat},subl l m=true->∀i,inl l i=true->inl m i=true
 |[],_,i,h=>by simp[inl]at h
 |a::r,hs,i,h=>by
  unfold subl at hs;unfold inl at h;cases ha:inl m a with
  |false=>simp[ha]at hs
  |true=>
   simp only[ha,cond_true]at hs;cases hb:Nat.beq i a with
   |true=>have:=Nat.eq_of_beq_eq_true hb;subst this;exact ha
   |false=>simp only[hb,cond_false]at h;exact subl_inl hs i h
theorem Iq.hin{l m:List Nat}{j e a:Nat->Value}(c:subl l m=true)(h:Iq (inl m) e a):Iq (inl m) (LX.hav (inl l) j e) a:=fun i b=>by
 have:inl l i=false:=by
  cases hc:inl l i with
  |false=>rfl
  |true=>rw[subl_inl c i hc]at b;cases b
 simp only[LX.hav,this,cond_false];exact h i b
open Go.RowKit
theorem ed.row{α:Type}{R:kX α}{w:World}{B A:BS}{v:Value}{l:List α}(h:ed R w B A v l):
    (v=.slice none 0 0/\l=[])\/∃(a:Addr) (cap:Nat) (news:List Value),v=.slice (some a) l.length cap/\news.length=l.length*R.sz/\(∀j u,news[j]? =some u->w.cell? (a.add j)=some u)/\(∀u∈news,u.oneCell'=true)/\
      ∀i (h:i<l.length),R.rd w A ((news.drop (i*R.sz)).take R.sz) l[i]:=by
  obtain⟨a,cap,rfl,O,J,y,s⟩:=h;cases a with
  |none=>
    have z:=y Z;subst z;have q:l=[]:=List.eq_nil_of_length_eq_zero V;subst q;exact .inl ⟨Z,Z⟩
  |some a=>
    right;by_cases q:l.length=0
    · have:l=[]:=List.eq_nil_of_length_eq_zero q;subst this;exact⟨a,cap,[],Z,by simp,fun j u h=>by simp at h,fun u h=>by simp at h,fun i h=>absurd h<|Nat.not_lt_zero _⟩
    · obtain⟨b,o,cells,E,I,p,K,t,P⟩:=s 0 V;cases p;have c:∀i (d:i<l.length),R.rd w A ((cells.toList.drop<|o+i*R.sz).take R.sz) l[i]:=by
        intro i d;obtain⟨b',M,n,N,C,p,_,g,r⟩:=s i d;cases p;rw[t]at g;cases g;exact r
      have f:=R.len<|c (l.length-1) V;simp only[List.length_take,List.length_drop,Array.length_toList]at f;have k:=R.pos;have x:o+l.length*R.sz<=cells.size:=by
        have L:l.length*R.sz=(l.length-1)*R.sz+R.sz:=by
          conv=>lhs;rw[show l.length=(l.length-1)+1 by omega]
          rw[Nat.add_mul,Nat.one_mul]
        omega
      refine⟨⟨b,o,none⟩,cap,(cells.toList.drop o).take<|l.length*R.sz,Z,?_,?_,?_,?_⟩
      · simp only[List.length_take,List.length_drop,Array.length_toList];omega
      · intro j u e;rw[List.getElem?_take]at e;split at e
        · rw[List.getElem?_drop]at e;have G:(⟨b,o,none⟩:Addr).add j=⟨b,o+j,none⟩:=by unfold Addr.add;split<;>simp_all
          rw[G];simpa[World.cell?,t]using e
        · cases e
      · intro u e;obtain⟨j,m⟩:=List.getElem?_of_mem e;rw[List.getElem?_take]at m;split at m
        · next hlt=>
          rw[List.getElem?_drop]at m;have d:j / R.sz<l.length:=Nat.div_lt_of_lt_mul (by rw[Nat.mul_comm];exact hlt);refine R.one (c (j / R.sz) d) u ?_;refine List.mem_of_getElem? (i:=j%R.sz) ?_;rw[List.getElem?_take,if_pos (Nat.mod_lt _ k),List.getElem?_drop];rw[show o+j / R.sz*R.sz+j%R.sz=o+j by rw[Nat.add_assoc,Nat.div_add_mod' j R.sz]];exact m
        · cases m
      · intro i d;rw[List.drop_take,List.take_take,List.drop_drop,Nat.min_eq_left]
        · exact c i d
        · have:(i+1)*R.sz<=l.length*R.sz:=Nat.mul_le_mul_right _ d;rw[Nat.add_mul]at this;omega
theorem Zn(c:List Value):∀(cells:Array Value) (o:Nat),o+c.length<=cells.size->
  (c.zipIdx.foldl (fun cs(p:Value×Nat)=>cs.setIfInBounds (o+p.2) p.1) cells).toList=KS cells.toList o c:=by
 suffices a:∀(k:Nat) (cells:Array Value) (o:Nat),o+k+c.length<=cells.size->
   ((c.zipIdx k).foldl (fun cs(p:Value×Nat)=>cs.setIfInBounds (o+p.2) p.1) cells).toList=KS cells.toList (o+k) c by
  intro cells o h;have:=a 0 cells o (by simpa using h);simpa using this
 induction c with
 |nil=>intro k cells o h;simp[KS]
 |cons x r ih=>
  intro k cells o h;simp only[List.length_cons]at h;rw[List.zipIdx_cons,List.foldl_cons,ih (k+1) _ o (by simp;omega)];simp only[Array.toList_setIfInBounds,KS];rw[show o+(k+1)=o+k+1 by omega];apply List.ext_getElem?;intro i;simp only[List.append_assoc,List.getElem?_append,List.length_take,List.length_set,Array.length_toList,List.getElem?_take,List.getElem?_set,List.getElem?_drop,List.length_cons,List.getElem?_cons]
  grind
theorem V6{a:Nat}(j:0<a):∀(vs:List Value) (k:Nat) (cells:Array Value),(∀v∈vs,v.cells.size=a)->(k+vs.length)*a<=cells.size->
    ∃out,Instr.fill (fun i=>some (i*a,a)) cells ((vs.zipIdx k).map fun p=>(p.2,p.1))=some out/\out.toList=KS cells.toList (k*a) (vs.map fun v=>v.cells.toList).flatten
  |[],k,cells,_,_=>⟨cells,rfl,by simp[KS]⟩
  |v::r,k,cells,hv,hs=>by
    have g:v.cells.size=a:=hv v zq3;simp only[List.length_cons]at hs;have h:(k+1+r.length)*a<=cells.size:=by rw[show k+1+r.length=k+(r.length+1) by omega];exact hs
    have l:k*a+a<=cells.size:=by
      have:(k+1)*a<=(k+1+r.length)*a:=Nat.mul_le_mul_right _ V;rw[Nat.add_mul,Nat.one_mul]at this;omega
    have m:=Zn v.cells.toList cells (k*a) (by rw[Array.length_toList,g];exact l);let c2:=v.cells.zipIdx.foldl (fun cs(p:Value×Nat)=>cs.setIfInBounds (k*a+p.2) p.1) cells;have b:c2.toList=KS cells.toList (k*a) v.cells.toList:=by
      rw[<-m];show(v.cells.zipIdx.foldl _ cells).toList=_;rw[<-Array.foldl_toList,Array.toList_zipIdx]
    have f:c2.size=cells.size:=by
      have:=congrArg List.length b;simp only[KS,List.length_append,List.length_take,List.length_drop,Array.length_toList]at this;omega
    obtain⟨out,e,d⟩:=V6 j r (k+1) c2 (fun x n=>hv x (by simp[n])) (by rw[f];exact h);refine⟨out,?_,?_⟩
    · rw[List.zipIdx_cons,List.map_cons];unfold Instr.fill;simp only[g,ne_eq,not_true_eq_false,decide_false,Bool.false_or];rw[if_neg (by simp;omega)];exact e
    · rw[d,b];simp only[List.map_cons,List.flatten_cons,KS];rw[show(k+1)*a=k*a+a by rw[Nat.add_mul,Nat.one_mul]];have o:v.cells.toList.length=a:=by rw[Array.length_toList,g]
      generalize v.cells.toList=c at*;generalize (r.map fun v=>v.cells.toList).flatten=q;apply List.ext_getElem?;intro i;simp only[List.append_assoc,List.getElem?_append,List.length_take,Array.length_toList,List.length_append,List.getElem?_take,List.getElem?_drop,List.length_drop]
      grind
def JI{α:Type}(R:kX α)(w:World)(A:BS):List Value->List α->Prop
 |[],[]=>True
 |v::vs,x::xs=>R.rd w A v.cells.toList x/\JI R w A vs xs
 |_,_=>False
theorem JI.len{α:Type}{R:kX α}{w:World}{A:BS}:∀{vs:List Value} {xs:List α},JI R w A vs xs->vs.length=xs.length
 |[],[],_=>rfl
 |v::vs,x::xs,h=>by simp[JI.len h.2]
 |[],_::_,h=>h.elim
 |_::_,[],h=>h.elim
theorem JI.sizes{α:Type}{R:kX α}{w:World}{A:BS}:∀{vs:List Value} {xs:List α},JI R w A vs xs->∀v∈vs,v.cells.size=R.sz
  |[],[],_=>by simp
  |v::vs,x::xs,h=>by
    intro u a;rcases List.mem_cons.1 a with rfl|a
    · have:=R.len h.1;simpa using this
    · exact JI.sizes h.2 u a
  |[],_::_,h=>h.elim
  |_::_,[],h=>h.elim
theorem flat_len{a:Nat}:∀{vs:List Value},(∀v∈vs,v.cells.size=a)->(vs.map fun v=>v.cells.toList).flatten.length=vs.length*a
 |[],_=>by simp
 |v::r,h=>by
  have b:=h v zq3;have c:=flat_len fun u d=>h u<|List.mem_cons_of_mem _ d;simp only[List.map_cons,List.flatten_cons,List.length_append,c,Array.length_toList,b,List.length_cons,Nat.add_mul];omega
theorem JI.at{α:Type}{R:kX α}{w:World}{A:BS}:∀{vs:List Value} {xs:List α},JI R w A vs xs->∀i (h:i<xs.length),R.rd w A (((vs.map fun v=>v.cells.toList).flatten.drop (i*R.sz)).take R.sz) xs[i]
 |[],[],_,i,h=>absurd h (Nat.not_lt_zero _)
 |v::vs,x::xs,h,i,hi=>by
  have a:v.cells.toList.length=R.sz:=R.len h.1;cases i with
  |zero=>
   simp only[List.map_cons,List.flatten_cons,Nat.zero_mul,List.drop_zero,List.getElem_cons_zero];rw[List.take_append_of_le_length V,List.take_of_length_le V];exact h.1
  |succ i=>
   have:=JI.at h.2 i (by simpa using hi);simp only[List.map_cons,List.flatten_cons,List.getElem_cons_succ];rw[List.drop_append,List.drop_eq_nil_of_le (by rw[a,Nat.add_mul];omega),List.nil_append,a,show(i+1)*R.sz-R.sz=i*R.sz by rw[Nat.add_mul];omega];exact this
 |[],_::_,h,_,_=>h.elim
 |_::_,[],h,_,_=>h.elim
structure Struct(P:Program)(T:TypeId)(zs:List Value)(pl:List (Nat×Nat)):Prop where
  zero:(P.info? T).map (·.zero)=some (some (.agg zs.toArray))
  desc:∃fs,P.underlying T=some (.struct fs)/\fs.toList.map (fun f=>(f.offset,(P.info? f.type).map (·.size)))=pl.map (fun p=>(p.1,some p.2))
def FillOk(b:List (Nat×Nat))(cs:List Value):List (Nat×Value)->List Value->Prop
 |[],out=>cs=out
 |(i,v)::r,out=>∃off a vs,b[i]? =some (off,a)/\v.cells.toList=vs/\vs.length=a/\off+a<=cs.length/\FillOk b (KS cs off vs) r out
theorem fill_ok{f:List (Nat×Nat)}:∀{a:List (Nat×Value)} {cs out:List Value},FillOk f cs a out->Instr.fill (fun i=>f[i]?) cs.toArray a=some out.toArray
 |[],cs,out,h=>by cases h;rfl
 |(i,v)::r,cs,out,h=>by
  obtain⟨off,b,vs,j,g,e,k,l⟩:=h;unfold Instr.fill;simp only[j];have c:v.cells.size=b:=by rw[<-e,<-g,Array.length_toList]
  rw[if_neg (by simp[c];omega)];have m:=Zn vs cs.toArray off (by rw[e];simpa using k);have:(v.cells.zipIdx.foldl (fun cs(p:Value×Nat)=>cs.setIfInBounds (off+p.2) p.1) cs.toArray)=(KS cs off vs).toArray:=by
   apply Array.ext';rw[<-Array.foldl_toList,Array.toList_zipIdx,g];exact m
  have d:=fill_ok l;rw[<-this]at d;exact d
section
variable{P:Program}{ops:Array Oper}{Q:Exit->Act->World->Prop}{n:Nat}{env:Nat->Value}{w w' w0:World}{M K:BS}{hp:Nat->Chunk}{rest:List Oper}
 {d:Option Nat} {op:Op} {ty:TypeId} {pos:String} {af:Array Edge} {v:Value} {g:Option (Nat×Bool)} {T:TypeId} {ρ:Operand->Value} {x y:Operand}
theorem Am(h:w.grownBy w' v.ownBlock):bH (ob v) w w':=
 ⟨h.os,h.tape,h.output,h.size,fun b a c=>h.block b c (fun e=>a (ob_row.2 e.symm))⟩
theorem OX{E:TypeId}{k b:Nat}{a:Option Addr}{l c:Nat}(e:kr P T E k b)(m:ρ x=.slice a l c)(j:l<=c)(f:ρ y=.slice none 0 0):
  (execOp ρ ⟨d,.call {callee:=.builtin .append,args:= #[x,y],argTypes:= #[T,T]},ty,pos,af,g⟩).run P w=.ok (.value (.slice a l c)) w:=by
 obtain⟨i,z,h,o,n,_,_⟩:=e.info;cases a<;>simp[execOp,resolve,invoke,builtin,m,f,Builtin.append_,underlying,e.desc,sizeOf,typeInfo,h,Builtin.lenOf,j,Builtin.firstCells,storeCells]
theorem run_app{α:Type}{R:kX α}{E:TypeId}{sz e:Nat}{A:BS}{u:Value}{l m:List α}(q:kr P T E sz e)(n:R.sz=sz)(O:ρ x=v)(hv:cO R E w A v l)(S:ρ y=u)(hu:ed R w BE A u m)
    (hA:∀b,ob v b->A b) (a:(l.length+m.length)*e<=140737488355328) (hm:l.length+m.length<=9223372036854775807):
    ∃o w',(execOp ρ ⟨d,.call {callee:=.builtin .append,args:= #[x,y],argTypes:= #[T,T]},ty,pos,af,g⟩).run P w=.ok (.value o) w'/\cO R E w' A o (l++m)/\bH (ob v) w w'/\(∀b,ob o b->b<w.heap.size->ob v b):=by
  subst n;have a0:=hv;obtain⟨xs,B,h3⟩:=hv;rcases hu.row with⟨rfl,rfl⟩|⟨ad,c,news,rfl,n1,n2,n3,n4⟩
  · have hw:(execOp ρ ⟨d,.call {callee:=.builtin .append,args:= #[x,y],argTypes:= #[T,T]},ty,pos,af,g⟩).run P w=.ok (.value v) w:=by
      rcases B.2 with⟨rfl,hn⟩|⟨gg,cap,cur,rfl,_,_,hc,_⟩
      · exact OX q O (Nat.le_refl _) S
      · exact OX q O hc S
    exact⟨v,w,hw,by simpa using a0,bH.refl _ _,fun _ a _=>a⟩
  · obtain⟨i,z,C,hz,n,r,a1⟩:=q.info;obtain⟨o,w',k,M,hg,_⟩:=run_append_own (P:=P) w 0 T ty E i z R.sz e q.desc C hz n r a1 R.pos v l.length xs B ad m.length c news n1 n2 n3 (by unfold maxLen;omega) a (Nat.zero_le _);have X:=Am hg;have p:∀b,ob o b->b<w.heap.size->ob v b:=by
      rcases B.2 with⟨rfl,hn⟩|⟨gg,cap,cur,rfl,_,hgg,hc,hcm,hcs,htake⟩
      · by_cases K:m.length=0
        · have t:news=[]:=List.eq_nil_of_length_eq_zero (by rw[n1,K];simp);subst t;have f:(Builtin.append_ #[T,T] ty #[.slice none 0 0,.slice (some ad) m.length c]).run P w=.ok (.slice none 0 0) w:=by
            simp[Builtin.append_,underlying,q.desc,sizeOf,typeInfo,C,Builtin.lenOf,K,Builtin.firstCells,loadCells,loadCellsFrom]
          rw[f]at k;cases k;exact fun b a _=>a
        · have f:=run_append_nil (P:=P) w T ty E i z q.desc C hz ad m.length c news (by rw[n];exact n1) n2 V V (by rw[r];have:=a;rw[Nat.add_mul]at this;omega);rw[f]at k;cases k;intro b a I;simp[ob]at a;omega
      · by_cases h:l.length+m.length<=cap
        · have N:l.length*i.size+news.length<=cur.size:=by rw[n1,n,hcs,<-Nat.add_mul];exact Nat.mul_le_mul_right _ h
          have f:=run_append_room (P:=P) w T ty E i q.desc C gg l.length cap cur hgg ad m.length c news (by rw[n];exact n1) n2 n3 h N;rw[f]at k;cases k;exact fun b a _=>a
        · have holds:∀j u,xs[j]? =some u->w.cell? ((⟨gg,0,none⟩:Addr).add j)=some u:=B.cells (g:=gg) Z;have f:=run_append_grow (P:=P) w T ty E i z q.desc C hz ⟨gg,0,none⟩ l.length cap xs (by rw[n];exact B.1) holds ad m.length c news (by rw[n];exact n1) n2 V V (growslice_fits V (by rw[r];exact a));rw[f]at k;cases k;intro b a I;simp[ob]at a;omega
    have J:(execOp ρ ⟨d,.call {callee:=.builtin .append,args:= #[x,y],argTypes:= #[T,T]},ty,pos,af,g⟩).run P w=.ok (.value o) w':=by
      simp only[execOp,resolve,invoke,builtin,Sem.run_bind,Sem.run_pure,Result.andThen_ok,List.map_toArray,List.map_cons,List.map_nil,O,S,k]
    refine⟨o,w',J,⟨xs++news,by rw[List.length_append];exact M,?_⟩,X,p⟩;intro i a2;have G:=B.1;have L:∀b,A b\/ob o b->b<w.heap.size->A b\/ob v b:=fun b a I=>a.imp id fun a=>p b a I;by_cases s:i<l.length
    · have h5:=R.go (h3 i s) X (fun b a _=>.inr a) L;have Q:(i+1)*R.sz<=l.length*R.sz:=Nat.mul_le_mul_right _ s;rw[Nat.add_mul]at Q;rw[List.getElem_append_left s,List.drop_append_of_le_length V,List.take_append_of_le_length (by rw[List.length_drop];omega)];exact h5
    · rw[List.length_append]at a2;have h5:=R.go (n4 (i-l.length) V) X (fun b a _=>hA b a) fun b a I=>(L b a I).elim id<|hA b;rw[List.getElem_append_right V,List.drop_append,List.drop_eq_nil_of_le (by rw[G];exact Nat.mul_le_mul_right _ V),List.nil_append,G,<-Nat.sub_mul];exact h5
theorem SH.Dq{α:Type}{R:kX α}{E:TypeId}(h:SH w0 M K w hp)(i:Nat):SH w0 M K w (bX hp i (.own R E (.slice none 0 0) ([]:List α))):=
 h.learn i (bH.refl BE w) (fun _ h=>h.elim) cO.nil
theorem lH{α:Type}{R:kX α}{E:TypeId}{j c:Nat}{u:Value}{l m:List α}(h:SH w0 M K w hp)(i:Nat)(e:hp i=.own R E v l)(q:ed R w BE (SH.A M hp) u m)(G:kr P T E j c)(C:R.sz=j)(I:ev n env x=v)(s:ev n env y=u)
    (a:(l.length+m.length)*c<=140737488355328) (r:l.length+m.length<=9223372036854775807)
    (k:∀w' f,SH w0 M K w' (bX hp i (.own R E f (l++m)))->WL P ops Q rest n (gq env d f) w'):
    WL P ops Q (⟨d,.call {callee:=.builtin .append,args:= #[x,y],argTypes:= #[T,T]},ty,pos,af,none⟩::rest) n env w:=by
  obtain⟨f,w',t,B,o,z⟩:=run_app (d:=d) (ty:=ty) (pos:=pos) (af:=af) (g:=none) G C I (h.bF i e) s q (fun b a=>.inr ⟨i,by rw[e];exact a⟩) a r;refine F t (k w' f (h.step i o (fun b a _=>by rw[e];exact a) (fun b a p=>by rw[e];exact z b a p) ?_));refine cO.go B (bH.refl BE w') (fun _ h=>h.elim) (fun _ h=>h.elim) fun b a _=>?_;rcases a with a|a|a
  · exact .inl<|.inl a
  · exact .inl<|.inr<|lg a
  · exact .inr a
theorem run_bs{α:Type}{R:kX α}{E:TypeId}{J m:Nat}{A:BS}{a:Array (Nat×Operand)}{len:Nat}{vs:List Value}{xs:List α}(N:kr P T E J m)(Q:R.sz=J)
    (S:(a.toList.map fun p=>(p.1,ev n env p.2))=vs.zipIdx.map fun p=>(p.2,p.1)) (y:vs.length=len) (M:JI R w A vs xs) (hA:∀b,A b->b<w.heap.size) (a0:len*J<=16777216):
    ∃u w',(execOp (ev n env) ⟨d,.buildSlice T len a,ty,pos,af,g⟩).run P w=.ok (.value u) w'/\Grow w w'/\cO R E w' A u xs/\∀b,ob u b->w.heap.size=b:=by
  subst Q;subst y;obtain⟨i,z,O,hz,q,X,a1⟩:=N.info;have e:=M.sizes;have o:=M.len;let zero:Array Value:=if vs.length*R.sz=0 then #[]else z.cells
  let c:Array Value:=(Array.range (vs.length*R.sz)).map (zero[· %zero.size]!);have f:c.size=vs.length*R.sz:=by simp[c]
  obtain⟨out,r,L⟩:=V6 R.pos vs 0 c e (by rw[f];simp);have j:=flat_len e;have C:out.toList=(vs.map fun v=>v.cells.toList).flatten:=by
    rw[L,Nat.zero_mul];simp only[KS,List.take_zero,List.nil_append,Nat.zero_add];rw[List.drop_eq_nil_of_le (by rw[Array.length_toList,f,j];omega),List.append_nil]
  have k:out.size=vs.length*R.sz:=by rw[<-Array.length_toList,C,j]
  have t:(a.map fun p=>(p.1,ev n env p.2)).toList=vs.zipIdx.map fun p=>(p.2,p.1):=by simpa using S
  have s:(execOp (ev n env) ⟨d,.buildSlice T vs.length a,ty,pos,af,g⟩).run P w=.ok (.value<|.slice (some ⟨w.heap.size,0,none⟩) vs.length vs.length) (w.alloc<|.cells out E):=by
    simp only[execOp,Instr.buildSlice,underlying,sizeOf,typeInfo];have G:¬(vs.length*R.sz>2 ^ 24):=by omega
    by_cases B:vs.length*R.sz=0
    · simp only[Sem.run_bind,run_program,Result.andThen_ok,N.desc,Sem.run_pure,O,q,Sem.run_ite,B,if_true];have:out= #[]:=Array.eq_empty_of_size_eq_zero (by rw[k,B]);have I:Instr.fill (fun i=>some (i*R.sz,R.sz)) ((Array.range 0).map fun x=>(#[]:Array Value)[x%(#[]:Array Value).size]!) (a.map fun p=>(p.1,ev n env p.2)).toList=some out:=by
        rw[t];have:c=(Array.range 0).map (fun x=>(#[]:Array Value)[x%(#[]:Array Value).size]!):=by simp[c,B]
        rw[<-this];exact r
      rw[I];simp[newRow,World.alloc,-World.alloc_eq]
    · simp only[Sem.run_bind,run_program,Result.andThen_ok,N.desc,Sem.run_pure,O,q,Sem.run_ite,if_neg G,B,if_false,zeroValue,typeInfo,hz];have I:Instr.fill (fun i=>some (i*R.sz,R.sz)) ((Array.range<|vs.length*R.sz).map fun x=>z.cells[x%z.cells.size]!) (a.map fun p=>(p.1,ev n env p.2)).toList=some out:=by
        rw[t];have:c=(Array.range<|vs.length*R.sz).map (fun x=>z.cells[x%z.cells.size]!):=by simp[c,zero,B]
        rw[<-this];exact r
      rw[I];simp[newRow,World.alloc,-World.alloc_eq]
  refine⟨_,_,s,Grow.alloc _ _,⟨out.toList,⟨by rw[Array.length_toList,k,o],.inr ⟨w.heap.size,vs.length,out,by rw[o],Nat.zero_le _,NR _ _,by omega,?_,k,?_⟩⟩,?_⟩,?_⟩
  · unfold maxLen;have:vs.length<=vs.length*R.sz:=Nat.le_mul_of_pos_right _ R.pos;omega
  · rw[List.take_of_length_le];rw[Array.length_toList,k,o];exact Nat.le_refl _
  · intro i K;have h5:=R.go (A':=fun b=>A b\/ob (.slice (some ⟨w.heap.size,0,none⟩) vs.length vs.length) b) (M.at i K) (Grow.alloc w (.cells out E)) (fun _ h=>h.elim) (fun b l hl=>by
      rcases l with l|l
      · exact l
      · simp[ob]at l;omega)
    rw[C];exact h5
  · intro b l;simp[ob]at l;exact l.symm
theorem qC{α:Type}{R:kX α}{E:TypeId}{j c:Nat}{a:Array (Nat×Operand)}{len:Nat}{vs:List Value}{xs:List α}(h:SH w0 M K w hp)(i:Nat)(v:kr P T E j c)(r:R.sz=j)
  (x:(a.toList.map fun p=>(p.1,ev n env p.2))=vs.zipIdx.map fun p=>(p.2,p.1)) (e:vs.length=len) (s:JI R w (SH.A M hp) vs xs) (f:Nat.ble (len*j) 16777216=true)
  (k:∀w' u,SH w0 M K w' (bX hp i (.own R E u xs))->WL P ops Q rest n (gq env d u) w'):
  WL P ops Q (⟨d,.buildSlice T len a,ty,pos,af,none⟩::rest) n env w:=by
 obtain⟨u,w',m,q,l,o⟩:=run_bs (d:=d) (ty:=ty) (pos:=pos) (af:=af) (g:=none) v r x e s h.lt<|Nat.le_of_ble_eq_true f;exact F m<|k w' u<|h.xE i q l fun b t=>Nat.le_of_eq<|o b t
theorem run_places{P:Program}{w:World}:∀(a:List Field) (b:List (Nat×Nat)),a.map (fun f=>(f.offset,(P.info? f.type).map (·.size)))=b.map (fun p=>(p.1,some p.2))->
    (a.mapM (m:=Sem) fun f=>do pure (f.offset,<-sizeOf f.type)).run P w=.ok b w
  |[],[],_=>rfl
  |[],_::_,h=>by simp at h
  |_::_,[],h=>by simp at h
  |f::a,p::b,h=>by
    simp only[List.map_cons,List.cons.injEq,Prod.mk.injEq]at h;obtain⟨⟨j,d⟩,g⟩:=h;have e:=run_places (w:=w) a b g;obtain⟨i,c,k⟩:∃i,P.info? f.type=some i/\i.size=p.2:=by
      cases c:P.info? f.type with
      |none=>simp[c]at d
      |some i=>simp[c]at d;exact⟨i,Z,d⟩
    rw[List.mapM_cons];simp only[Sem.run_bind,sizeOf,typeInfo,run_program,Result.andThen_ok,c,Sem.run_pure,k,j];simp only[sizeOf,typeInfo]at e;rw[e];simp
theorem oh{zs out:List Value}{c:List (Nat×Nat)}{a:Array (Nat×Operand)}{pv:List (Nat×Value)}(q:Struct P T zs c)(hp:(a.toList.map fun p=>(p.1,ρ p.2))=pv)(t:FillOk c zs pv out):
  (execOp ρ ⟨d,.build T a,ty,pos,af,g⟩).run P w=.ok (.value (.agg out.toArray)) w:=by
 obtain⟨o,l,j⟩:=q.desc;obtain⟨i,h,s⟩:∃i,P.info? T=some i/\i.zero=some (.agg zs.toArray):=by
  have:=q.zero;cases h:P.info? T with
  |none=>simp[h]at this
  |some i=>simp[h]at this;exact⟨i,Z,this⟩
 have r:=run_places (w:=w) o.toList c j;have k:(o.mapM (m:=Sem) fun f=>do pure (f.offset,<-sizeOf f.type)).run P w=.ok c.toArray w:=by
  rw[Array.mapM_eq_mapM_toList];simp only[Sem.run_map,r,Result.andThen_ok]
 have n:(a.map fun p=>(p.1,ρ p.2)).toList=pv:=by rw[<-hp];simp
 have b:=fill_ok t;simp only[execOp,Instr.build,zeroValue,typeInfo,underlying];simp only[Sem.run_bind,run_program,Result.andThen_ok,h,Sem.run_pure,s,l,k,n,Value.cells];have e:(fun(x:Nat)=>c.toArray[x]?)=fun(i:Nat)=>c[i]? :=by funext x;simp
 rw[e,b];simp
def isNil:Value->Bool| .slice none _ _=>true|_=>false
theorem Ed{α:Type}{R:kX α}{T2 E:TypeId}{f:Nat}{B A:BS}{l:List α}{e:World}(k:SliceOf P T E f)(h:ρ x=v)(i:ed R e B A v l)(j:ρ y=.slice none 0 0):(execOp ρ ⟨d,.binOp .eql T x y T2,ty,pos,af,g⟩).run P w=.ok (.value (.bool (isNil v))) w:=by
 obtain⟨a,cap,rfl,p,o,m,n⟩:=i;have b:∀a l c,(Op.equalIn Op.maxDepth T (.slice a l c)<|.slice none 0 0).run P w=.ok a.isNone w:=by
  intro a l c;show(Op.equalIn (9999+1) T (.slice a l c)<|.slice none 0 0).run P w=_;unfold Op.equalIn;simp only[Sem.run_bind,underlying,run_program,Result.andThen_ok,k.desc,Sem.run_pure];cases a<;>simp
 cases a<;>simp[execOp,h,j,eqGuard,binOp,isNil,Op.equal,b]
theorem oZ{α:Type}{R:kX α}{B A:BS}{l:List α}(d:ed R w B A v l)(h:isNil v=true):v=.slice none 0 0/\l=[]:=by
 obtain⟨a,cap,rfl,e,g,c,f⟩:=d;cases a with
 |none=>
  have:=c Z;subst this;have b:l.length=0:=by omega
  exact⟨by rw[b],List.eq_nil_of_length_eq_zero b⟩
 |some a=>simp[isNil]at h
theorem SH.wU{α:Type}{R:kX α}{E:TypeId}{l:List α}{k:Int}{a:α}{b:Nat}(h:SH w0 M K w hp)(i:Nat)(m:hp i=.own R E v l)(r:ob v b)(g:l[k.toNat]? =some a):
    ∃cs,At w b (k.toNat*R.sz) cs/\R.rd w (SH.A M hp) cs a:=by
  have d:k.toNat<l.length:=by
    rcases Nat.lt_or_ge k.toNat l.length with h|h
    · exact h
    · rw[List.getElem?_eq_none h]at g;cases g
  have j:l[k.toNat]=a:=by rw[List.getElem?_eq_getElem d]at g;exact Option.some.inj g
  obtain⟨a',cap,rfl,x,u,t,q⟩:=h.dJ i m;obtain⟨b',o,cells,c,n,rfl,_,s,f⟩:=q k.toNat d;have:b=b':=r;subst this;have ho:o=0:=by
    obtain⟨xs,p,_⟩:=h.bF i m;rcases p.2 with⟨e,_⟩|⟨_,_,_,e,_⟩
    · cases e
    · cases e;rfl
  subst ho;rw[j]at f;rw[Nat.zero_add]at f;exact⟨_,⟨cells,c,n,s,by rw[R.len f]⟩,f⟩
theorem SH.uD{α:Type}{R:kX α}{E:TypeId}{f:Nat}{l:List α}{k:Int}{a:α}(h:SH w0 M K w hp)(i:Nat)(c:hp i=.own R E v l)(o:SliceOf P T E f)(e:R.sz=f)(j:0<=k)(n:l[k.toNat]? =some a):
    ∃b,ob v b/\IxOk P T v k (.pointer (some ⟨b,k.toNat*f,none⟩)):=by
  subst e;have t:k.toNat<l.length:=by
    rcases Nat.lt_or_ge k.toNat l.length with h|h
    · exact h
    · rw[List.getElem?_eq_none h]at n;cases n
  obtain⟨xs,p,_⟩:=h.bF i c;rcases p.2 with⟨rfl,hn⟩|⟨g',cap,cur,rfl,_⟩
  · omega
  refine⟨g',Z,fun ρ x y w d ty pos af g q r=>?_⟩;obtain⟨i,c,e⟩:∃i,P.info? E=some i/\i.size=R.sz:=by
    have:=o.info;cases c:P.info? E with
    |none=>simp[c]at this
    |some i=>simp[c]at this;exact⟨i,Z,this⟩
  simp only[execOp,Instr.indexAt,q,r,asIntOf,underlying,sizeOf,typeInfo];have s:(⟨g',0,none⟩:Addr).add (k.toNat*R.sz)=⟨g',k.toNat*R.sz,none⟩:=by
    unfold Addr.add;split
    · next hz=>rw[hz]
    · simp
  have m:k<(l.length:Int):=by omega
  simp[o.desc,c,e,j,m,s]
theorem SH.cutO{α:Type}{R:kX α}{E:TypeId}{Q:Nat}{l:List α}{b:Int}(h:SH w0 M K w hp)(i:Nat)(B:hp i=.own R E v l)(r:SliceOf P T E Q)(hs:R.sz=Q)(k:0<=b)(O:b<=l.length):
    ∃u,SH w0 M K w (bX hp i (.own R E u (l.take b.toNat)))/\SlOk P T v 0 b l.length u:=by
  subst hs;have n:b.toNat<=l.length:=by omega
  have d:(l.take b.toNat).length=b.toNat:=by rw[List.length_take];omega
  obtain⟨xs,G,q2⟩:=h.bF i B;obtain⟨u,C,hr⟩:=r_sl (P:=P) (T:=T) r (h.dJ i B) (Int.le_refl 0) k O;have hv:∃cap,v=.slice none 0 0\/∃g,v=.slice (some ⟨g,0,none⟩) l.length cap:=by
    rcases G.2 with⟨rfl,_⟩|⟨g',cap,cur,rfl,_⟩
    · exact⟨0,.inl Z⟩
    · exact⟨cap,.inr ⟨g',Z⟩⟩
  have e:=C (fun o=>match o with| .tmp 0=>v| .const v=>v|_=>undef) (.tmp 0) none (some<|.const<|.int .i64 b) w none 0 "" #[] none Z (.inl ⟨Z,Z⟩) (.inr Z);rcases G.2 with⟨rfl,hn⟩|⟨g',cap,cur,rfl,e1,e2,e3,e4,e5,e6⟩
  · have J:l=[]:=List.eq_nil_of_length_eq_zero hn;subst J;obtain⟨a,cap,rfl,h1,h2,h3,h4⟩:=hr;have A:b=0:=by simp at O;omega
    subst A;have:a=none/\cap=0:=by
      obtain⟨p,m⟩:∃p,P.info? E=some p:=by
        have:=r.info;cases q:P.info? E with
        |none=>simp[q]at this
        |some i=>exact⟨i,rfl⟩
      simp[execOp,Instr.sliceAt,Instr.slice,underlying,r.desc,Instr.sliceBounds,Instr.sliceBound,asIntOf,sizeOf,typeInfo,m,cut]at e;exact⟨e.1.symm,e.2.symm⟩
    obtain⟨rfl,rfl⟩:=this;refine⟨_,?_,C⟩;have:=h.step (c:=.own R E (.slice none 0 0) ([]:List α)) i (bH.refl BE w) (fun _ h=>h.elim) (fun _ h=>h.elim) cO.nil;simpa[cut]using this
  · have L:u=.slice (some ⟨g',0,none⟩) b.toNat cap:=by
      obtain⟨p,m,t⟩:∃p,P.info? E=some p/\p.size=R.sz:=by
        have:=r.info;cases q:P.info? E with
        |none=>simp[q]at this
        |some i=>simp[q]at this;exact⟨i,Z,this⟩
      obtain⟨s,rfl⟩:=Int.eq_ofNat_of_zero_le k;have N:s<=cap:=by simp at n;omega
      have z:(⟨g',0,none⟩:Addr).add 0=⟨g',0,none⟩:=rfl;have a0:(0:Int)<=(s:Int):=Int.natCast_nonneg s;have X:(s:Int)<=(cap:Int):=by omega
      by_cases y:cap=0
      · subst y;have k:s=0:=by omega
        subst k;simp[execOp,Instr.sliceAt,Instr.slice,underlying,r.desc,Instr.sliceBounds,Instr.sliceBound,asIntOf,sizeOf,typeInfo,m,t]at e;simpa using e.symm
      · simp[execOp,Instr.sliceAt,Instr.slice,underlying,r.desc,Instr.sliceBounds,Instr.sliceBound,asIntOf,sizeOf,typeInfo,m,t,N,y,z]at e;simpa using e.symm
    subst L;refine⟨_,h.step (c:=.own R E (.slice (some ⟨g',0,none⟩) b.toNat cap) (l.take b.toNat)) i (bH.refl BE w) (fun _ h=>h.elim) (fun x f _=>by rw[B];exact f) ⟨xs.take (b.toNat*R.sz),⟨?_,.inr ⟨g',cap,cur,by rw[d],e1,e2,?_,e4,e5,?_⟩⟩,?_⟩,C⟩
    · rw[d,List.length_take,G.1,Nat.min_eq_left (Nat.mul_le_mul_right _ n)]
    · rw[d];omega
    · rw[d,<-e6,List.take_take,Nat.min_eq_left (Nat.mul_le_mul_right _ n)]
    · intro j S;rw[d]at S;have I:j<l.length:=by omega
      have q:=R.go (A':=fun x=>(M x\/SH.av hp i (.own R E (.slice (some ⟨g',0,none⟩) b.toNat cap) (l.take b.toNat)) x)\/ob (.slice (some ⟨g',0,none⟩) b.toNat cap) x) (q2 j I) (bH.refl BE w) (fun _ h=>h.elim) (fun x f _=>by
        rcases f with(f|f|f)|f
        · exact .inl<|.inl f
        · exact .inl<|.inr<|lg f
        · exact .inr f
        · exact .inr f)
      rw[List.getElem_take];rw[List.drop_take,List.take_take,Nat.min_eq_left]
      · exact q
      · have:(j+1)*R.sz<=b.toNat*R.sz:=Nat.mul_le_mul_right _ S;rw[Nat.add_mul]at this;omega
theorem OY{α:Type}{l:List α}{i o s off:Nat}{x:α}(ho:o=i+off):((l.set o x).drop i).take s=((l.drop i).take s).set off x:=by
 subst ho;rw[List.drop_set,if_neg V,Nat.add_sub_cancel_left,List.take_set]
theorem Mx{α:Type}{l:List α}{i o s:Nat}{x:α}(h:o<i\/i+s<=o):((l.set o x).drop i).take s=(l.drop i).take s:=by
  rw[List.drop_set];split
  · rfl
  · rw[List.take_set,List.set_eq_of_length_le];rw[List.length_take];omega
theorem JJ{α:Type}{R:kX α}{E:TypeId}{I:Nat}{l:List α}{k:Int}{a a':α}{b off:Nat}{z u:Value}(h:SH w0 M K w hp)(i:Nat)(r:hp i=.own R E u l)(G:ob u b)(X:R.sz=I)(s:l[k.toNat]? =some a)(hT:One P T z)(c:ev n env x=.pointer (some ⟨b,k.toNat*I+off,none⟩))
    (hy:ev n env y=v) (h1:v.oneCell'=true) (p:Nat.blt off I=true) (hset:∀cs,R.rd w (SH.A M hp) cs a->R.rd w (SH.A M hp) (cs.set off v) a')
    (kk:∀w',SH w0 M K w' (bX hp i (.own R E u (l.set k.toNat a')))->WL P ops Q rest n (gq env d undef) w'):
    WL P ops Q (⟨d,.store T x y,ty,pos,af,none⟩::rest) n env w:=by
  subst X;rw[Nat.blt_eq]at p;have f:k.toNat<l.length:=by
    rcases Nat.lt_or_ge k.toNat l.length with h|h
    · exact h
    · rw[List.getElem?_eq_none h]at s;cases s
  have B:l[k.toNat]=a:=by rw[List.getElem?_eq_getElem f]at s;exact Option.some.inj s
  generalize k.toNat=k at*;have e:∀b,ob u b->SH.A M hp b:=fun b G=>.inr ⟨i,by rw[r];exact G⟩;obtain⟨xs,O,q3⟩:=h.bF i r;rcases O.2 with⟨rfl,hn⟩|⟨g',cap,cur,rfl,e1,e2,e3,e4,e5,e6⟩
  · omega
  have C:b=g':=G;subst C;have t:(k+1)*R.sz<=l.length*R.sz:=Nat.mul_le_mul_right _ f;have a0:l.length*R.sz<=cap*R.sz:=Nat.mul_le_mul_right _ e3;rw[Nat.add_mul]at t;have J:k*R.sz+off<cur.size:=by omega
  have o:=bH.vV w b<|.cells (cur.setIfInBounds (k*R.sz+off) v) E (0,0);refine Al (QV hT c e2 J hy h1) (kk _ (h.step i o (fun x c _=>by rw[r];exact c) (fun x c _=>by rw[r];exact c) ⟨xs.set (k*R.sz+off) v,⟨?_,.inr ⟨b,cap,cur.setIfInBounds (k*R.sz+off) v,?_,e1,?_,?_,e4,?_,?_⟩⟩,?_⟩))
  · rw[List.length_set,List.length_set];exact O.1
  · rw[List.length_set]
  · rw[uX (iF e2)]
  · rw[List.length_set];exact e3
  · simpa using e5
  · rw[List.length_set,Array.toList_setIfInBounds,List.take_set,e6]
  · intro g L;have N:g<l.length:=by rwa[List.length_set]at L
    have m:=fun cs a(h:R.rd w (SH.A M hp) cs a)=>R.go (A':=fun x=>(M x\/(SH.av hp i (.own R E (.slice (some ⟨b,0,none⟩) l.length cap) (l.set k a'))) x)\/ob (.slice (some ⟨b,0,none⟩) l.length cap) x) h o (fun x c _=>e x c) (fun x c _=>by
      rcases c with(c|c|c)|c
      · exact .inl c
      · exact .inr<|lg c
      · exact e x c
      · exact e x c)
    have S:=fun j(hj:j<l.length)=>R.go (A':=SH.A M hp) (q3 j hj) (bH.refl BE w) (fun _ h=>h.elim) fun x c _=>.inl c;by_cases q:g=k
    · subst q;rw[List.getElem_set_self,OY rfl];exact m _ _<|hset _<|B▸S g f
    · rw[List.getElem_set_ne (Ne.symm q),Mx]
      · exact m _ _<|S g N
      · rcases Nat.lt_or_ge k g with h5|h5
        · left;have:(k+1)*R.sz<=g*R.sz:=Nat.mul_le_mul_right _ h5;rw[Nat.add_mul]at this;omega
        · right;have:(g+1)*R.sz<=k*R.sz:=Nat.mul_le_mul_right _ V;rw[Nat.add_mul]at this;omega
structure WK(P:Program)(ops:Array Oper)(w:World)(Q:Act->Prop)(l:List Oper)(n:Nat)(env:Nat->Value):Prop where
 out:wpQuiet P ops (fun x=>x=w) Q l (act n env)
end
section
variable{P:Program}{ops:Array Oper}
theorem uY{w:World}{Q:Act->Prop}:∀{l:List Oper} {a:Act},wpQuiet P ops (fun x=>x=w) Q l a->wpStill P ops w Q l a
  |[],_,h=>h
  |o::rest,a,h=>by
    unfold wpQuiet at h;unfold wpStill;split
    · rename_i d;rw[if_pos d]at h;obtain⟨v,g,c⟩:=h;have b:=g w Z;unfold Oper.quietAt at b;unfold Oper.still;generalize (execOp a.eval o).run P w=r at b⊢;cases r with
      |ok n w'=>
        cases n<;>simp only[Oper.quietUpon]at b<;>simp only[Oper.stillUpon];case value u=>exact⟨b.1,by rw[b.2];exact uY c⟩
        case skip=>exact⟨b.1,by rw[<-b.2];exact uY c⟩
        case enter f args=>exact⟨b.1,v,b.2.mono (fun e i h=>h),uY c⟩
      |halt x w'=>simp only[Oper.quietUpon]at b
    · rename_i d;rw[if_neg d]at h;exact uY h
end
section
variable{P:Program}{ops:Array Oper}{Q:Exit->Act->World->Prop}{n:Nat}{env:Nat->Value}{w w' w0:World}{M K:BS}{hp:Nat->Chunk}{rest:List Oper}
 {d:Option Nat} {op:Op} {ty:TypeId} {pos:String} {af:Array Edge} {v:Value} {g:Option (Nat×Bool)} {T:TypeId} {ρ:Operand->Value} {x y:Operand}
variable{Q1:Act->Prop}
theorem aG(c:(execOp (ev n env) ⟨d,op,ty,pos,af,none⟩).run P w=.ok (.value v) w)(h:WK P ops w Q1 rest n (gq env d v)):WK P ops w Q1 (⟨d,op,ty,pos,af,none⟩::rest) n env:=by
  refine⟨?_⟩;unfold wpQuiet;have a:Region.wanted ⟨d,op,ty,pos,af,none⟩ (yielded ops (act n env).tmps)=true:=rfl;rw[if_pos a];refine⟨v,fun w' b=>?_,?_⟩
  · subst b;unfold Oper.quietAt;rw[gJ,c];exact⟨Z,Z⟩
  · rw[Ec];exact h.out
theorem fT{j dj:Nat}{b:Bool}(c:(ops[j]?).bind (·.dst)=some dj)(f:ev n env (.tmp dj)=.bool b)(h:WK P ops w Q1 (⟨d,op,ty,pos,af,none⟩::rest) n env):WK P ops w Q1 (⟨d,op,ty,pos,af,some (j,b)⟩::rest) n env:=by
  have g:=KU (ops:=ops) c f;have e:Region.wanted ⟨d,op,ty,pos,af,some (j,b)⟩ (yielded ops (act n env).tmps)=true:=by simp[Region.wanted,g]
  have a:Region.wanted ⟨d,op,ty,pos,af,none⟩ (yielded ops (act n env).tmps)=true:=rfl;obtain⟨h⟩:=h;refine⟨?_⟩;unfold wpQuiet at h⊢;rw[if_pos a]at h;rw[if_pos e];exact h
theorem wk_skip(a:Region.wanted ⟨d,op,ty,pos,af,g⟩ (yielded ops (act n env).tmps)=false)(h:WK P ops w Q1 rest n (gq env d undef)):WK P ops w Q1 (⟨d,op,ty,pos,af,g⟩::rest) n env:=by
 refine⟨?_⟩;unfold wpQuiet;rw[if_neg (by rw[a];decide),Ec];exact h.out
theorem dO{j dj:Nat}{b b':Bool}(a:(ops[j]?).bind (·.dst)=some dj)(c:ev n env (.tmp dj)=.bool b')(f:(b'==b)=false)(h:WK P ops w Q1 rest n (gq env d undef)):WK P ops w Q1 (⟨d,op,ty,pos,af,some (j,b)⟩::rest) n env:=
  wk_skip (by have e:=KU (ops:=ops) a c;simpa[Region.wanted,e]using f) h
theorem OZ{j dj:Nat}(b:(ops[j]?).bind (·.dst)=some dj)(c:ev n env (.tmp dj)=undef):yielded ops (act n env).tmps j=none:=by
  unfold yielded;have a:(act n env).eval (.tmp dj)=undef:=by rw[gJ];exact c
  simp only[b,Option.bind_some];simp only[Act.eval]at a;cases h2:(act n env).tmps[dj]? with
  |none=>rfl
  |some x=>simp[Array.getD_eq_getD_getElem?,h2]at a;subst a;rfl
theorem Ao{j dj:Nat}{b:Bool}(a:(ops[j]?).bind (·.dst)=some dj)(c:ev n env (.tmp dj)=undef)(h:WK P ops w Q1 rest n (gq env d undef)):WK P ops w Q1 (⟨d,op,ty,pos,af,some (j,b)⟩::rest) n env:=
  wk_skip (by simp[Region.wanted,OZ a c]) h
theorem lV{j dj:Nat}{b:Bool}(c:(ops[j]?).bind (·.dst)=some dj)(e:ev n env (.tmp dj)=undef)(h:WL P ops Q rest n (gq env d undef) w):WL P ops Q (⟨d,op,ty,pos,af,some (j,b)⟩::rest) n env w:=by
  have a:Region.wanted ⟨d,op,ty,pos,af,some (j,b)⟩ (yielded ops (act n env).tmps)=false:=by simp[Region.wanted,OZ c e]
  refine⟨?_⟩;unfold wpList;rw[if_neg (by rw[a];decide),Ec];exact h.out
theorem wk_gd{j dj:Nat}{b a:Bool}(c:Bool)(i:(ops[j]?).bind (·.dst)=some dj)(g:ev n env (.tmp dj)=gv c (.bool b))
    (m:(c&&(b==a))=true->(execOp (ev n env) ⟨d,op,ty,pos,af,none⟩).run P w=.ok (.value v) w) (h:WK P ops w Q1 rest n (gq env d (gv (c&&(b==a)) v))):
    WK P ops w Q1 (⟨d,op,ty,pos,af,some (j,a)⟩::rest) n env:=by
  by_cases e:(c&&(b==a))=true
  · have o:=gl e;have k:=gr e;rw[eF o]at g;rw[eF e]at h;have l:b=a:=by simpa using k
    subst l;exact fT i g<|aG (m e) h
  · have f:(c&&(b==a))=false:=by simpa using e
    rw[f]at h;cases c with
    |true=>exact dO i g (by simpa using f) h
    |false=>exact Ao i g h
theorem ni{j dj:Nat}{b a:Bool}(e:(ops[j]?).bind (·.dst)=some dj)(f:ev n env (.tmp dj)=.bool b)
    (c:(b==a)=true->(execOp (ev n env) ⟨d,op,ty,pos,af,none⟩).run P w=.ok (.value v) w) (h:WK P ops w Q1 rest n (gq env d (gv (b==a) v))):
    WK P ops w Q1 (⟨d,op,ty,pos,af,some (j,a)⟩::rest) n env:=
  wk_gd true e f (fun h=>c (by simpa using h)) (by simpa using h)
theorem Ba{l:List Oper}(h:WL P ops Q l n env w):WK P ops w (fun a=>wpList P ops Q l a w) [] n env:=⟨h.out⟩
theorem uR{id:Nat}(k:Nat){l:List Oper}(b:P.follows .mixedOrders=true)(c:Region.lexTailB .any l.toArray k=true)(h:SH w0 M K w hp)
  (d:∀w,SH w0 M K w hp->WK P l.toArray w (fun a=>wpList P l.toArray Q (l.drop k) a w) (l.take k) n env):WC P (Code.region id l.toArray true) Q n env w:=
 ⟨wp_region_still_tail k b c (uY (d _ (h.grow (Grow.drew w))).out)⟩
theorem qo{id:Nat}{l:List Oper}(b:P.follows .mixedOrders=true)(c:Region.lexB .any l.toArray=true)(h:SH w0 M K w hp)
  (d:∀w,SH w0 M K w hp->WK P l.toArray w (fun a=>∀w',w'=w->Q .normal a w') l n env):WC P (Code.region id l.toArray true) Q n env w:=
 ⟨wp_region_quiet (C:=fun x=>x=w.drew) b c Z (d _ (h.grow (Grow.drew w))).out⟩
theorem qD(h:Q .normal (act n env) w):WK P ops w (fun a=>∀w',w'=w->Q .normal a w') [] n env:=⟨fun _ e=>by rw[e];exact h⟩
end
open Go.RowKit
section
variable{P:Program}{ops:Array Oper}{Q:Exit->Act->World->Prop}{n:Nat}{env:Nat->Value}{w w' w0:World}{M K:BS}{hp:Nat->Chunk}{rest:List Oper}
 {d:Option Nat} {op:Op} {ty:TypeId} {pos:String} {af:Array Edge} {v:Value} {g:Option (Nat×Bool)} {T:TypeId} {ρ:Operand->Value} {x y:Operand}
theorem FQ{v:Value}(h:v.oneCell'=true):v.cells= #[v]:=by
 cases v<;>first|rfl|simp[Value.oneCell']at h
theorem dS{v:Value}(h:v.oneCell'=true):v.cells.toList=[v]:=by rw[FQ h]
theorem ed.rdc{α:Type}{R:kX α}{A:BS}{l:List α}(h:cK R w A v l):(uE R).rd w A v.cells.toList l:=by
 rw[FQ h.one];exact⟨v,Z,h⟩
theorem gvn{c d:Bool}{v:Value}(h:c=true):gv (c&&d) v=gv d v:=by rw[h,Bool.true_and]
theorem aL:∀v∈([]:List Value),v.oneCell'=true:=fun _ h=>by cases h
theorem aa{a:Value}{l:List Value}(b:a.oneCell'=true)(c:∀v∈l,v.oneCell'=true):∀v∈a::l,v.oneCell'=true:=fun v h=>by
  rcases List.mem_cons.1 h with rfl|h
  · exact b
  · exact c v h
def Room{α:Type}(a:Nat)(l m:List α):Prop:=(l.length+m.length)*a<=140737488355328/\l.length+m.length<=9223372036854775807
instance {α:Type} (bytes:Nat) (l m:List α):Decidable (Room bytes l m):=inferInstanceAs (Decidable (_/\_))
theorem Room.mk{α:Type}{a:Nat}{l m:List α}(b:(l.length+m.length)*a<=140737488355328)(c:l.length+m.length<=9223372036854775807):Room a l m:=⟨b,c⟩
theorem set1{α:Type}{R:kX α}{A:BS}{cs:List Value}{a a':α}{v:Value}(h:R.rd w A v.cells.toList a')(b:R.rd w A cs a)(d:R.sz=1:=by rfl)(e:v.oneCell'=true:=by assumption):R.rd w A (cs.set 0 v) a':=by
 have:=R.len b;rw[d]at this
 match cs,this with
 |[c],_=>rw[dS e]at h;exact h
theorem iU{f:FuncId}{first captured:Array Value}{xs:Array Operand}{g:Array TypeId}{args:List Value}(c:QX P f)(i:ev n env x=.func (.func f) first captured)
  (b:first.toList++xs.toList.map (ev n env)++captured.toList=args) (a:Calls P f args.toArray w (fun e w'=>∃v,e=.returned v/\WL P ops Q rest n (gq env d v) w')):
  WL P ops Q (⟨d,.call {callee:=.value x,args:=xs,argTypes:=g},ty,pos,af,none⟩::rest) n env w:=
 bV c i b a (fun _ _ h=>h)
theorem j3{α:Type}{a b:α}{l m:List α}(h:a=b)(c:l=m):a::l=b::m:=by rw[h,c]
theorem w_callG{f:FuncId}{first captured:Array Value}{xs:Array Operand}{y:Array TypeId}{args:List Value}{j dj:Nat}{b a:Bool}(g:Bool)(m:(ops[j]?).bind (·.dst)=some dj)(l:ev n env (.tmp dj)=gv g (.bool b))(u:QX P f)(q:ev n env x=.func (.func f) first captured)
    (s:(g&&(b==a))=true->first.toList++xs.toList.map (ev n env)++captured.toList=args) (o:Calls P f args.toArray w (fun e w'=>Grow w w'/\e=.returned v))
    (k:∀w',Grow w w'->WL P ops Q rest n (gq env d (gv (g&&(b==a)) v)) w'):
    WL P ops Q (⟨d,.call {callee:=.value x,args:=xs,argTypes:=y},ty,pos,af,some (j,a)⟩::rest) n env w:=by
  by_cases c:(g&&(b==a))=true
  · have z:=gl c;have r:=gr c;rw[eF z]at l;have p:b=a:=by simpa using r
    subst p;refine Vh m l<|bV u q (s c) o ?_;rintro e w'⟨t,rfl⟩;refine⟨_,Z,?_⟩;have:=k w' t;rw[eF c]at this;exact this
  · have i:(g&&(b==a))=false:=by simpa using c
    have h:=k w<|bH.refl _ _;rw[i]at h;cases g with
    |true=>exact cz m l (by simpa using i) h
    |false=>exact lV m l h
theorem w_callG0{f:FuncId}{first captured:Array Value}{xs:Array Operand}{m:Array TypeId}{args:List Value}{j dj:Nat}{b a:Bool}(g:(ops[j]?).bind (·.dst)=some dj)(o:ev n env (.tmp dj)=.bool b)(l:QX P f)(p:ev n env x=.func (.func f) first captured)
    (i:(b==a)=true->first.toList++xs.toList.map (ev n env)++captured.toList=args) (c:Calls P f args.toArray w (fun e w'=>Grow w w'/\e=.returned v))
    (k:∀w',Grow w w'->WL P ops Q rest n (gq env d (gv (b==a) v)) w'):
    WL P ops Q (⟨d,.call {callee:=.value x,args:=xs,argTypes:=m},ty,pos,af,some (j,a)⟩::rest) n env w:=
  w_callG true g o l p (fun h=>i (by simpa using h)) c (by simpa using k)
theorem SH.dY{α:Type}{R:kX α}{E:TypeId}{l:List α}(h:SH w0 M BE w hp)(i:Nat)(c:hp i=.own R E v l):cO R E w M v l/\∀b,ob v b->w0.heap.size<=b:=
 ⟨cO.go (h.bF i c) (bH.refl BE w) (fun _ h=>h.elim) (fun _ h=>h.elim) (fun b a _=>.inl (.inl a)),fun b a=>h.fresh i b (by rw[c];exact a)⟩
theorem eG{s:Nat}:∀b,ob (.slice none 0 0) b->s<=b:=fun _ h=>h.elim
theorem pY{P:Program}{E:TypeId}{z:Value}{s b:Nat}(h:(P.info? E).map (fun i=>(i.zero,i.size,i.bytes))=some (some z,s,b))(a:z.cells.size=s):∃i z,P.info? E=some i/\i.zero=some z/\i.size=s/\i.bytes=b/\z.cells.size=s:=by
 cases hi:P.info? E with
 |none=>simp[hi]at h
 |some i=>simp[hi]at h;exact⟨i,z,Z,h.1,h.2.1,h.2.2,a⟩
theorem r_max{T2:TypeId}{p q:Int}(b:ρ x=.int .i64 p)(a:ρ y=.int .i64 q):(execOp ρ ⟨d,.call {callee:=.builtin .max,args:= #[x,y],argTypes:= #[T,T2]},ty,pos,af,g⟩).run P w=.ok (.value (.int .i64 (max p q))) w:=by
 have h:(if q>p then q else p)=max p q:=by split<;>omega
 simp[execOp,resolve,invoke,builtin,Builtin.max_,Builtin.max2,b,a,h]
theorem r_min{T2:TypeId}{p q:Int}(b:ρ x=.int .i64 p)(a:ρ y=.int .i64 q):(execOp ρ ⟨d,.call {callee:=.builtin .min,args:= #[x,y],argTypes:= #[T,T2]},ty,pos,af,g⟩).run P w=.ok (.value (.int .i64 (min p q))) w:=by
 have h:(if q<p then q else p)=min p q:=by split<;>omega
 simp[execOp,resolve,invoke,builtin,Builtin.min_,Builtin.min2,b,a,h]
theorem BJ{zs vs cs:List Value}{b i:Nat}(l:SH w0 M K w hp)(f:hp i=.blk b cs)(j:wo P T zs)(e:vs.length=zs.length)(k:cs=vs):(loadVar T ⟨b,0,none⟩).run P w=.ok (.agg vs.toArray) w:=by
 subst k;have h:=xG (P:=P) (ρ:=fun _=>.pointer (some ⟨b,0,none⟩)) (d:=none) (ty:=0) (pos:= "") (af:= #[]) (g:=none) (x:=.tmp 0) (o:=0) (vs:=cs) l i f j Z (by rw[<-e];simp) e;simp only[execOp,Instr.loadAt,Instr.sureAddr]at h;have c:((loadVar T ⟨b,0,none⟩).run P w).andThen (fun a w'=>Result.ok (Next.value a) w')=Result.ok (Next.value (Value.agg cs.toArray)) w:=by simpa using h
 cases hres:(loadVar T ⟨b,0,none⟩).run P w with
 |ok v w'=>rw[hres]at c;simp at c;rw[c.1,c.2]
 |halt x w'=>rw[hres]at c;simp[Result.andThen]at c
theorem fin_tct{g:Func}{R:Ending->World->Prop}{t u a:Tmp}{T:TypeId}{v1 v3:Value}{zs vs:List Value}{b:Nat}(o:g.results= #[.tmp t,.cell a T,.tmp u])(k:ev n env (.tmp t)=v1)(l:ev n env (.tmp a)=.pointer (some ⟨b,0,none⟩))(m:ev n env (.tmp u)=v3)
  (r:SH w0 M K w hp) (i:Nat) (j:hp i=.blk b vs) (q:wo P T zs) (p:vs.length=zs.length) (h:R (.returned (.tuple #[v1,.agg vs.toArray,v3])) w):bodyPost P g R .ret (act n env) w:=by
 refine⟨Z,_,?_,h⟩;have d:=congrFun (gJ n env)<|.tmp t;have e:=congrFun (gJ n env)<|.tmp u;have c:=congrFun (gJ n env)<|.tmp a;rw[k]at d;rw[m]at e;rw[l]at c;simp only[Act.eval]at d e c;rw[Array.getD_eq_getD_getElem?]at d e c;have f:=BJ (P:=P) r j q p Z;unfold results;rw[o];simp[d,e,c,asAddr,f]
theorem SH.j5{α:Type}{R:kX α}{E:TypeId}{l:List α}(h:SH w0 M K w hp)(j i:Nat)(p:hp j=.own R E v l)(u:hp i=.no)(r:j≠i):SH w0 M K w (bX (bX hp j .no) i (.own R E v l)):=by
  have ho:=h.bF j p;have d:∀x b,(bX (bX hp j .no) i (.own R E v l) x).own' b->∃y,(hp y).own' b/\(x=i->y=j)/\(x≠i->y=x/\x≠j):=by
    intro x b a;by_cases e:x=i
    · subst e;rw[dm]at a;exact⟨j,by rw[p];exact a,fun _=>rfl,fun h=>absurd Z h⟩
    · rw[fu e]at a;by_cases c:x=j
      · subst c;rw[dm]at a;exact a.elim
      · rw[fu c]at a;exact⟨x,a,fun h=>absurd h e,fun _=>⟨Z,c⟩⟩
  have f:∀b,iG (bX (bX hp j .no) i<|.own R E v l) b->iG hp b:=fun b⟨x,o⟩=>let ⟨y,g,_⟩:=d x b o;⟨y,g⟩;refine⟨h.keep,h.ltM,fun x b a=>let ⟨y,g,_⟩:=d x b a;h.apM y b g,fun x=>?_,fun x y k b o g=>?_,fun x b a=>let ⟨y,g,_⟩:=d x b a;h.old y b g⟩
  · by_cases e:x=i
    · subst e;rw[dm];have:=h.ok j;rw[p]at this;exact Chunk.sub this fun b a _=>f b a
    · rw[fu e];by_cases c:x=j
      · subst c;rw[dm];trivial
      · rw[fu c];exact Chunk.sub (h.ok x) (fun b a _=>f b a)
  · obtain⟨x',t,s,m⟩:=d x b o;obtain⟨q,k1,k2,n⟩:=d y b g;have:x'≠q:=by
      by_cases e:x=i
      · have c:y≠i:=fun h=>k<|e.trans h.symm;rw[s e,(n c).1];exact fun h=>(n c).2 h.symm
      · by_cases c:y=i
        · rw[k2 c,(m e).1];exact(m e).2
        · rw[(m e).1,(n c).1];exact k
    exact h.apart x' q this b t k1
theorem SH.iB{α:Type}{R:kX α}{l:List α}(h:SH w0 M K w hp)(j i:Nat)(a:hp j=.rd R v l):SH w0 M K w (bX hp i (.rd R v l)):=h.aJ i (h.bK j a)
theorem SH.xP{α:Type}{R:kX α}{l:List α}(h:SH w0 M K w hp)(i:Nat)(c:hp i=.rd R v l):cK R w M v l:=
 (h.bK i c).sub (fun b a _=>.inl a) (fun b a _=>.inl a)
def clone{α:Type}(b:Nat)(a:List α):Option (List α):=iA (Room b ([]:List α) a) (some a)
structure Arr2(P:Program)(T E:TypeId):Prop where
  desc:P.underlying T=some (.array 2 E)
  zero:∃z0 z1,(P.info? T).map (·.zero)=some (some (.agg #[z0,z1]))
  size:(P.info? E).map (·.size)=some 1
  plain:∃F,P.underlying E=some (.slice F)
theorem r_build2{E:TypeId}{x y:Operand}{p q:Value}(k:Arr2 P T E)(l:ρ x=p)(m:ρ y=q)(s:p.oneCell'=true)(n:q.oneCell'=true):(execOp ρ ⟨d,.build T #[(0,x),(1,y)],ty,pos,af,g⟩).run P w=.ok (.value (.agg #[p,q])) w:=by
 obtain⟨e,f,c⟩:=k.zero;obtain⟨i,a,h⟩:∃i,P.info? T=some i/\i.zero=some (.agg #[e,f]):=by
  cases a:P.info? T with
  |none=>simp[a]at c
  |some i=>simp[a]at c;exact⟨i,Z,c⟩
 obtain⟨j,o,b⟩:∃j,P.info? E=some j/\j.size=1:=by
  have:=k.size;cases a:P.info? E with
  |none=>simp[a]at this
  |some i=>simp[a]at this;exact⟨i,Z,this⟩
 have c1:=FQ s;have c2:=FQ n;simp only[execOp,Instr.build,l,m,underlying,zeroValue,typeInfo,sizeOf];have r:(Value.agg #[e,f]).cells= #[e,f]:=rfl;simp[a,h,k.desc,o,b,Instr.fill,c1,c2,r,l,m]
theorem r_index2{E:TypeId}{x y:Operand}{p q v:Value}{k:Nat}(f:Arr2 P T E)(o:ρ x=.agg #[p,q])(r:ρ y=.int .i64 k)(b:[p,q][k]? =some v):(execOp ρ ⟨d,.index T x y,ty,pos,af,g⟩).run P w=.ok (.value v) w:=by
  obtain⟨a,m⟩:=f.plain;obtain⟨j,s,c⟩:∃j,P.info? E=some j/\j.size=1:=by
    have:=f.size;cases hi:P.info? E with
    |none=>simp[hi]at this
    |some i=>simp[hi]at this;exact⟨i,Z,this⟩
  have l:k<2:=by
    rcases Nat.lt_or_ge k 2 with h|h
    · exact h
    · rw[List.getElem?_eq_none (by simpa using h)]at b;cases b
  have n:(#[p,q]:Array Value)[k]? =some v:=by simpa using b
  have e:((k:Int)<2):=by omega
  simp only[execOp,Instr.index,o,r,underlying,asIntOf,part,isAgg,sizeOf,typeInfo];simp[f.desc,s,c,m,e,l];rw[List.getElem?_eq_getElem (by simpa using l)]at b;exact Option.some.inj b
structure PairI(P:Program)(T:TypeId):Prop where
 desc:∃f0 f1,P.underlying T=some (.struct #[f0,f1])/\f0.name≠ "_" /\f1.name≠ "_" /\f0.offset=0/\f1.offset=1/\P.underlying f0.type=some (.int .i64)/\P.underlying f1.type=some (.int .i64)/\P.plainKey f0.type=true/\P.plainKey f1.type=true
 stood:P.stoodInHeld T=false
 guard:P.eqGuardType P.depth T=false
theorem eq_pairI(k:PairI P T)(a b c e:Int):(Op.equalIn 10000 T (.agg #[.int .i64 a,.int .i64 b]) (.agg #[.int .i64 c,.int .i64 e])).run P w=.ok (decide (a=c)&&decide (b=e)) w:=by
  obtain⟨g,f,i,m,n,q,o1,o,l,j,k1⟩:=k.desc;have d:P.fieldsOf T= #[g,f]:=by simp[Program.fieldsOf,i]
  rw[show(10000:Nat)=9999+1 from rfl,run_equalIn_agg w 9999 T _ _ (by rw[d];exact i) k.stood,d];simp only[Op.eqFields,m,n,ne_eq,not_false_eq_true,if_true,q,o1,Sem.run_bind];rw[run_part_plain w j (xs:= #[.int .i64 a,.int .i64 b]) (off:=0) (v:=.int .i64 a) rfl];simp only[Result.andThen_ok];rw[run_part_plain w j (xs:= #[.int .i64 c,.int .i64 e]) (off:=0) (v:=.int .i64 c) rfl];simp only[Result.andThen_ok];rw[show(9999:Nat)=9998+1 from rfl,run_equalIn_int w 9998 g.type .i64 .i64 a c o];simp only[Result.andThen_ok,Sem.run_ite,Sem.run_bind];by_cases h:a=c
  · subst h;simp only[beq_self_eq_true,Bool.not_true,Bool.false_eq_true,if_false];rw[run_part_plain w k1 (xs:= #[.int .i64 a,.int .i64 b]) (off:=1) (v:=.int .i64 b) rfl];simp only[Result.andThen_ok];rw[run_part_plain w k1 (xs:= #[.int .i64 a,.int .i64 e]) (off:=1) (v:=.int .i64 e) rfl];simp only[Result.andThen_ok];rw[run_equalIn_int w 9998 f.type .i64 .i64 b e l];by_cases p:b=e<;>simp[p]
  · simp[h]
theorem r_eqlP{T2:TypeId}{a b c e:Int}(f:PairI P T)(i:ρ x=.agg #[.int .i64 a,.int .i64 b])(h:ρ y=.agg #[.int .i64 c,.int .i64 e]):(execOp ρ ⟨d,.binOp .eql T x y T2,ty,pos,af,g⟩).run P w=.ok (.value (.bool (decide (a=c)&&decide (b=e)))) w:=by
 simp only[execOp,i,h,Sem.run_bind,run_eqGuard_agg w .eql T x y _ _ f.guard,Result.andThen_ok,run_eql_struct,eq_pairI f];simp
theorem r_neqP{T2:TypeId}{a b c e:Int}(f:PairI P T)(i:ρ x=.agg #[.int .i64 a,.int .i64 b])(h:ρ y=.agg #[.int .i64 c,.int .i64 e]):(execOp ρ ⟨d,.binOp .neq T x y T2,ty,pos,af,g⟩).run P w=.ok (.value (.bool (!(decide (a=c)&&decide (b=e))))) w:=by
 simp only[execOp,i,h,Sem.run_bind,run_eqGuard_agg w .neq T x y _ _ f.guard,Result.andThen_ok,run_neq_struct,eq_pairI f];simp
end
section
variable{σ:Type}{n:Nat}{e SI:Nat->Value}{mod:Nat->Bool}{live:σ->List (Nat×Value)}{J:σ->World->Prop}{w:World}
theorem bM(s:σ)(a:J s w)(c:Holds e (live s):=by repeat (first|exact U|refine⟨rfl,?_⟩))
 (b:Iq mod e SI:=by repeat (first|(with_reducible exact Iq.refl _ _)|(with_reducible exact Iq.hav _ _ _)|(with_reducible refine Iq.on ?_)|((with_reducible refine Iq.hin ?_ ?_);rfl)|(with_reducible refine Iq.un ?_)|((with_reducible refine Iq.os ?_ ?_);rfl)|((with_reducible refine Iq.uc ?_ ?_);rfl))):
 JP n mod SI live J (act n e) w:=⟨s,e,rfl,b,c,a⟩
theorem jw{a:σ->Nat}{c:σ}(s:σ)(f:J s w)(b:a s<a c:=by dsimp only;omega)(g:Holds e (live s):=by repeat (first|exact U|refine⟨rfl,?_⟩))
 (d:Iq mod e SI:=by repeat (first|(with_reducible exact Iq.refl _ _)|(with_reducible exact Iq.hav _ _ _)|(with_reducible refine Iq.on ?_)|((with_reducible refine Iq.hin ?_ ?_);rfl)|(with_reducible refine Iq.un ?_)|((with_reducible refine Iq.os ?_ ?_);rfl)|((with_reducible refine Iq.uc ?_ ?_);rfl))):
 JL n mod SI live J a c (act n e) w:=⟨s,e,rfl,d,g,f,b⟩
end
section
variable{P:Program}{Q:Exit->Act->World->Prop}{n:Nat}{env:Nat->Value}{w:World}
theorem wc_rounds{c:Code}(m:Nat)(h:WC P c (Exit.then (Code.rounds P c Q m) Q) n env w):WC P (Code.loop c) Q n env w:=⟨wp_loop_rounds (m+1) h.out⟩
theorem V7{c:Code}{m:Nat}(h:WC P c (Exit.then (Code.rounds P c Q m) Q) n env w):Exit.then (Code.rounds P c Q (m+1)) Q .normal (act n env) w:=h.out
end
theorem SH.cn{w0 w:World}{M K:BS}{hp:Nat->Chunk}(h:SH w0 M K w hp)(l:List (Nat×Chunk))(a:HoldsC hp l:=by repeat (first|exact U|refine⟨rfl,?_⟩)):SH w0 M K w (hset l):=h.canon l a
section
variable{α β σ ρ:Type}
theorem drop_lt{l:List α}{k:Nat}(h:decide ((k:Int)<(l.length:Int))=true):∃x,l[k]? =some x/\l.drop k=x::l.drop (k+1):=by
 have a:k<l.length:=by have:=of_decide_eq_true h;omega
 exact⟨l[k],List.getElem?_eq_getElem a,List.drop_eq_getElem_cons a⟩
theorem drop_ge{l:List α}{k:Nat}(h:decide ((k:Int)<(l.length:Int))=false):l.drop k=[]:=by
 have:=of_decide_eq_false h;exact List.drop_eq_nil_of_le V
theorem iH{body:α->σ->(σ->ρ)->ρ}{k:σ->ρ}{x:α}{l:List α}{s:σ}:each body k (x::l) s=body x s (each body k l):=rfl
theorem qW{body:α->σ->(σ->ρ)->ρ}{k:σ->ρ}{s:σ}:each body k [] s=k s:=rfl
theorem yf{body:Int->α->σ->(σ->ρ)->ρ}{k:σ->ρ}{x:α}{l:List α}{s:σ}{i:Int}:gU body k i (x::l) s=body i x s (gU body k (i+1) l):=rfl
theorem SN{body:Int->α->σ->(σ->ρ)->ρ}{k:σ->ρ}{s:σ}{i:Int}:gU body k i [] s=k s:=rfl
theorem upto_lt{body:Int->σ->(σ->ρ)->ρ}{k:σ->ρ}{s:σ}{i:Int}{j m:Nat}(h:j<m):upto body k i (m-j) s=body i s (upto body k (i+1) (m-(j+1))):=by
 rw[show m-j=(m-(j+1))+1 by omega];rfl
theorem upto_ge{body:Int->σ->(σ->ρ)->ρ}{k:σ->ρ}{s:σ}{i:Int}{j m:Nat}(h:m<=j):upto body k i (m-j) s=k s:=by
 rw[show m-j=0 by omega];rfl
theorem p8{body:σ->(σ->Option β)->Option β}{m:Nat}{s:σ}{r:β}(h:again body m s=some r):∃a,m=a+1/\body s (again body a)=some r:=by
 cases m with
 |zero=>cases h
 |succ m=>exact⟨m,rfl,h⟩
theorem fq{l:List α}{k:Nat}{i:Int}{x:α}(a:i=(k:Int))(h:l[k]? =some x):l[i.toNat]? =some x:=by subst a;simpa using h
theorem iI{k:Nat}{i:Int}(a:i=(k:Int)):0<=i:=by omega
theorem fK{l:List α}{k:Nat}{i:Int}(c:l.length<=9223372036854775807)(b:i=(k:Int))(a:decide (i<(l.length:Int))=true):kg (i+1):=by
 have:=of_decide_eq_true a;exact⟨by omega,by omega⟩
end
open Go.RowKit
section
variable{P:Program}{ops:Array Oper}{C:World->Prop}{Q:Exit->Act->World->Prop}{n:Nat}{env:Nat->Value}{w w':World}{rest:List Oper}
 {d:Option Nat} {op:Op} {ty:TypeId} {pos:String} {af:Array Edge} {v:Value} {g:Option (Nat×Bool)} {T:TypeId} {ρ:Operand->Value}
def BndN(o:Option Value)(a b:Nat):Prop:=(o=none/\a=b)\/o=some (.int .i64 a)
theorem addr_zero(g:Nat):(⟨g,0,none⟩:Addr).add 0=⟨g,0,none⟩:=rfl
theorem Bb{x:Operand}{h:Option Operand}{e:Operand}{E:TypeId}{m b len cap:Nat}{ad:Option Addr}(n:SliceOf P T E m)(p:ρ x=.slice ad len cap)(q:ad=none\/∃g,ad=some ⟨g,0,none⟩)(f:BndN (h.map ρ) 0 0)(a:ρ e=.int .i64 b)(l:b<=cap):
    (execOp ρ ⟨d,.slice T x h (some e) none,ty,pos,af,g⟩).run P w=.ok (.value (.slice ad b cap)) w:=by
  obtain⟨i,k,j⟩:∃i,P.info? E=some i/\i.size=m:=by
    have:=n.info;cases e:P.info? E with
    |none=>simp[e]at this
    |some i=>simp[e]at this;exact⟨i,Z,this⟩
  have c:(Instr.sliceBounds true len cap (h.map ρ) ((some e).map ρ) none).run P w=.ok (0,b,cap) w:=by
    have o:(b:Int)<=(cap:Int):=by omega
    rcases f with⟨e1,_⟩|e1
    · simp[Instr.sliceBounds,e1,a,Instr.sliceBound,asIntOf,l]
    · simp[Instr.sliceBounds,e1,a,Instr.sliceBound,asIntOf,l]
  simp only[execOp,Instr.sliceAt,Instr.slice,underlying,p];simp only[Option.map_some,a]at c;rcases q with rfl|⟨g,rfl⟩<;>simp[n.desc,c,sizeOf,typeInfo,k,j,a,addr_zero]
theorem oH{x:Operand}{s c n:Option Operand}{E:TypeId}{k gg a b m len cap:Nat}(v:SliceOf P T E k)(A:ρ x=.slice (some ⟨gg,0,none⟩) len cap)(f:BndN (s.map ρ) a 0)(t:BndN (c.map ρ) b len)(o:(n.map ρ=none/\m=cap)\/(n.map ρ=some (.int .i64 m)/\c.map ρ=some (.int .i64 b)))
    (j:a<=b) (h:b<=m) (p:m<=cap):
    (execOp ρ ⟨d,.slice T x s c n,ty,pos,af,g⟩).run P w=.ok (.value (.slice (some (if m=a then⟨gg,0,none⟩else⟨gg,a*k,none⟩)) (b-a) (m-a))) w:=by
  obtain⟨i,q,u⟩:∃i,P.info? E=some i/\i.size=k:=by
    have:=v.info;cases c:P.info? E with
    |none=>simp[c]at this
    |some i=>simp[c]at this;exact⟨i,Z,this⟩
  have l:(Instr.sliceBounds true len cap (s.map ρ) (c.map ρ)<|n.map ρ).run P w=.ok (a,b,m) w:=by
    have B:(0:Int)<=(a:Int):=Int.natCast_nonneg a;have z:(0:Int)<=(b:Int):=Int.natCast_nonneg b;have e:b<=cap:=by omega
    have r:a<=m:=by omega
    rcases o with⟨g1,g2⟩|⟨g1,f1⟩
    · subst g2;rcases f with⟨e1,e2⟩|e1<;>rcases t with⟨f1,f2⟩|f1<;>(try subst e2)<;>(try subst f2)<;>
        simp[Instr.sliceBounds,e1,f1,g1,Instr.sliceBound,asIntOf,j,h,e]
    · rcases f with⟨e1,e2⟩|e1<;>(try subst e2)<;>
        simp[Instr.sliceBounds,e1,f1,g1,Instr.sliceBound,asIntOf,j,h,p,r]
  have y:(⟨gg,0,none⟩:Addr).add (a*k)=⟨gg,a*k,none⟩:=by
    unfold Addr.add;split
    · next hz=>rw[hz]
    · simp
  simp only[execOp,Instr.sliceAt,Instr.slice,underlying,A];simp[v.desc,l,sizeOf,typeInfo,q,u,y];split<;>rfl
structure Raw(w:World)(gg cap sz:Nat)(E:TypeId)(cur:List Value):Prop where
 blk:w.heap[gg]? =some (.cells cur.toArray E (0,0))
 len:cur.length=cap*sz
 le:cap<=maxLen
theorem addr_add(gg o k:Nat):(⟨gg,o,none⟩:Addr).add k=⟨gg,o+k,none⟩:=by
  unfold Addr.add;split
  · next hz=>rw[hz];rfl
  · rfl
theorem QZ{x y:Operand}{E:TypeId}{b q gg cap a m c j:Nat}{e:List Value}{ad:Addr}(G:kr P T E b q)(r:Raw w gg cap b E e)(J:ev n env x=.slice (some ⟨gg,0,none⟩) a cap)(L:ev n env y=.slice (some ad) m c)
    (C:m=0\/ad=⟨gg,j*b,none⟩) (M:j+m<=cap) (t:a+m<=cap) (O:∀u∈(e.drop (j*b)).take (m*b),u.oneCell'=true)
    (h:∀w',bH (fun x=>x=gg) w w'->Raw w' gg cap b E (e.take (a*b)++(e.drop (j*b)).take (m*b)++e.drop (a*b+m*b))->WL P ops Q rest n (gq env d (.slice (some ⟨gg,0,none⟩) (a+m) cap)) w'):
    WL P ops Q (⟨d,.call {callee:=.builtin .append,args:= #[x,y],argTypes:= #[T,T]},ty,pos,af,none⟩::rest) n env w:=by
  obtain⟨i,z,I,S,A,K,N⟩:=G.info;have R:j*b+m*b<=cap*b:=by rw[<-Nat.add_mul];exact Nat.mul_le_mul_right _ M
  have s:a*b+m*b<=cap*b:=by rw[<-Nat.add_mul];exact Nat.mul_le_mul_right _ t
  have l:=r.len;have f:((e.drop<|j*b).take<|m*b).length=m*b:=by rw[List.length_take,List.length_drop];omega
  have p:∀k u,((e.drop<|j*b).take<|m*b)[k]? =some u->w.cell? (ad.add k)=some u:=by
    intro k u v;rcases C with rfl|rfl
    · simp at v
    · rw[addr_add];have B:k<m*b:=by
        rcases Nat.lt_or_ge k (m*b)with h|h
        · exact h
        · rw[List.getElem?_eq_none V]at v;cases v
      rw[List.getElem?_take,if_pos B,List.getElem?_drop]at v;simp[World.cell?,r.blk,v]
  have g:=run_append_room (P:=P) w T ty E i G.desc I gg a cap e.toArray r.blk ad m c _ (by rw[A];exact f) p O t (by rw[A,f];simpa[l]using s);have o:(execOp (ev n env) ⟨d,.call {callee:=.builtin .append,args:= #[x,y],argTypes:= #[T,T]},ty,pos,af,none⟩).run P w=.ok (.value<|.slice (some ⟨gg,0,none⟩) (a+m) cap) (vV w gg<|.cells (e.take (a*b)++(e.drop<|j*b).take (m*b)++e.drop (a*b+m*b)).toArray E (0,0)):=by
    rw[A,f,IA r.blk]at g;simp only[execOp,resolve,invoke,builtin,Sem.run_bind,Sem.run_pure,Result.andThen_ok,List.map_toArray,List.map_cons,List.map_nil,J,L,g]
  refine F o<|h _ (bH.vV _ _ _) ⟨uX<|iF r.blk,?_,r.le⟩;rw[List.length_append,List.length_append,f,List.length_take,List.length_drop,l];omega
def ZeroOne(P:Program)(E:TypeId):Prop:=∃z,(P.info? E).map (·.zero)=some (some z)/\z.cells.all (·.oneCell')=true
theorem YX{z:Array Value}{k:Nat}(h:z.all (·.oneCell')=true):∀u∈(Builtin.zeroCells z k).toList,u.oneCell'=true:=by
  intro u c;simp only[Builtin.zeroCells,Array.toList_map,List.mem_map]at c;obtain⟨i,d,rfl⟩:=c;have b:i<k*z.size:=by simpa using d
  have e:0<z.size:=by
    rcases Nat.eq_zero_or_pos z.size with h0|h0
    · rw[h0,Nat.mul_zero]at b;omega
    · exact h0
  have a:i%z.size<z.size:=Nat.mod_lt _ e;rw[getElem!_pos z (i%z.size) a];exact(Array.all_eq_true.1 h) _ a
theorem Vi{x:Operand}{E:TypeId}{a j gg cap m k c:Nat}{b:List Value}(I:kr P T E a j)(B:ZeroOne P E)(r:Raw w gg cap a E b)(J:ev n env x=.slice (some ⟨gg,m*a,none⟩) k c)(M:0<k)(v:m+k<=cap)
    (h:∀w' f,bH (fun x=>x=gg) w w'->Raw w' gg cap a E f->f.take (m*a)=b.take (m*a)->WL P ops Q rest n (gq env d (.tuple #[])) w'):
    WL P ops Q (⟨d,.call {callee:=.builtin .clear,args:= #[x],argTypes:= #[T]},ty,pos,af,none⟩::rest) n env w:=by
  obtain⟨i,z,C,G,L,K,A⟩:=I.info;obtain⟨t,o,q⟩:=B;have u:t=z:=by simp[C,G]at o;exact o.symm
  subst u;have y:m*a+k*a<=cap*a:=by rw[<-Nat.add_mul];exact Nat.mul_le_mul_right _ v
  have g:=r.len;have l:(Builtin.zeroCells t.cells k).toList.length=k*a:=by rw[Array.length_toList,size_zeroCells,A]
  have e:=run_storeCells_at (P:=P) gg (m*a) E (Builtin.zeroCells t.cells k).toList 0 b.toArray w r.blk (by rw[l];simpa[g]using y) (YX q);rw[IA r.blk]at e;obtain⟨s,rfl⟩:∃s,k=s+1:=⟨k-1,by omega⟩;have p:(execOp (ev n env) ⟨d,.call {callee:=.builtin .clear,args:= #[x],argTypes:= #[T]},ty,pos,af,none⟩).run P w=.ok (.value<|.tuple #[]) (vV w gg<|.cells (b.take (m*a)++(Builtin.zeroCells t.cells<|s+1).toList++b.drop (m*a+(s+1)*a)).toArray E (0,0)):=by
    rw[l]at e;simp only[Nat.add_zero]at e;simp only[execOp,resolve,invoke,builtin,Builtin.clear_,underlying,zeroValue,typeInfo,Sem.run_bind,Sem.run_pure,Result.andThen_ok,List.map_toArray,List.map_cons,List.map_nil,J];simp[I.desc,C,G,e]
  refine F p<|h _ _ (bH.vV _ _ _) ⟨uX<|iF r.blk,?_,r.le⟩ ?_
  · rw[List.length_append,List.length_append,l,List.length_take,List.length_drop,g];omega
  · rw[List.append_assoc,List.take_append_of_le_length (by rw[List.length_take];omega),List.take_take,Nat.min_self]
end
theorem VP{α:Type}{R:kX α}{E:TypeId}{w:World}{A:BS}{v:Value}{l:List α}(h:cO R E w A v l)(j:0<l.length):
    ∃gg cap a,v=.slice (some ⟨gg,0,none⟩) l.length cap/\Raw w gg cap R.sz E a/\l.length<=cap/\∀i (h:i<l.length),R.rd w (fun b=>A b\/b=gg) ((a.drop (i*R.sz)).take R.sz) l[i]:=by
  obtain⟨xs,f,g⟩:=h;rcases f.2 with⟨rfl,hn⟩|⟨gg,cap,a,rfl,e1,e2,e3,e4,e5,e6⟩
  · omega
  refine⟨gg,cap,a.toList,Z,⟨by simpa using e2,by simpa using e5,e4⟩,e3,fun i d=>?_⟩;have c:(i+1)*R.sz<=l.length*R.sz:=Nat.mul_le_mul_right _ d;rw[Nat.add_mul]at c;have e:=g i d;rw[<-e6,List.drop_take,List.take_take,Nat.min_eq_left V]at e;exact e
theorem rd_ones{α:Type}{R:kX α}{w:World}{A:BS}{l:List α}{a:List Value}(h:∀i (h:i<l.length),R.rd w A ((a.drop (i*R.sz)).take R.sz) l[i]){j m:Nat}(g:j+m<=l.length):∀u∈(a.drop (j*R.sz)).take (m*R.sz),u.oneCell'=true:=by
 intro u d;obtain⟨k,f,rfl⟩:=List.getElem_of_mem d;have c:k<m*R.sz:=by rw[List.length_take]at f;omega
 have hp:=R.pos;have n:k / R.sz<m:=Nat.div_lt_of_lt_mul (by rw[Nat.mul_comm];exact c);refine R.one (h (j+k / R.sz) V) _ ?_;rw[List.mem_iff_getElem?];refine⟨k%R.sz,?_⟩;have b:k%R.sz<R.sz:=Nat.mod_lt _ hp;rw[List.getElem?_take,if_pos b,List.getElem?_drop,List.getElem_take,List.getElem_drop];have e:(j+k / R.sz)*R.sz+k%R.sz=j*R.sz+k:=by
  rw[Nat.add_mul,Nat.add_assoc,Nat.mul_comm (k / R.sz),Nat.div_add_mod]
 rw[e,List.getElem?_eq_getElem]
theorem raw_del{α:Type}{R:kX α}{E:TypeId}{w w':World}{A:BS}{l:List α}{gg cap i j:Nat}{c e:List Value}(t:Raw w' gg cap R.sz E e)(B:Raw w gg cap R.sz E c)(G:bH (fun x=>x=gg) w w')(p:i<=j)(C:j<=l.length)(I:l.length<=cap)
    (m:∀k (h:k<l.length),R.rd w (fun b=>A b\/b=gg) ((c.drop (k*R.sz)).take R.sz) l[k])
    (v:e.take ((i+(l.length-j))*R.sz)=c.take (i*R.sz)++(c.drop (j*R.sz)).take ((l.length-j)*R.sz)):
    cO R E w' A (.slice (some ⟨gg,0,none⟩) (i+(l.length-j)) cap) (l.take i++l.drop j):=by
  have d:(l.take i++l.drop j).length=i+(l.length-j):=by rw[List.length_append,List.length_take,List.length_drop];omega
  have M:=B.len;have K:l.length*R.sz<=cap*R.sz:=Nat.mul_le_mul_right _ I;have y:j*R.sz<=l.length*R.sz:=Nat.mul_le_mul_right _ C;have J:i*R.sz<=j*R.sz:=Nat.mul_le_mul_right _ p;have u:(l.length-j)*R.sz=l.length*R.sz-j*R.sz:=Nat.sub_mul _ _ _;have n:(c.take<|i*R.sz).length=i*R.sz:=by rw[List.length_take];omega
  refine⟨c.take (i*R.sz)++(c.drop<|j*R.sz).take ((l.length-j)*R.sz),⟨?_,.inr ⟨gg,cap,e.toArray,?_,Nat.zero_le _,t.blk,?_,t.le,?_,?_⟩⟩,?_⟩
  · rw[d,List.length_append,n,List.length_take,List.length_drop,Nat.add_mul];omega
  · rw[d]
  · rw[d];omega
  · simpa using t.len
  · rw[d];exact v
  · intro k r;rw[d]at r;have g:=fun cs a(h:R.rd w (fun b=>A b\/b=gg) cs a)=>R.go (A':=fun b=>A b\/b=gg) h G (fun x z _=>.inr z) fun _ h _=>h;by_cases o:k<i
    · have f:(k+1)*R.sz<=i*R.sz:=Nat.mul_le_mul_right _ o;rw[Nat.add_mul]at f;have s:=g _ _<|m k V;rw[List.getElem_append_left (by rw[List.length_take];omega),List.getElem_take,List.drop_append_of_le_length V,List.take_append_of_le_length (by rw[List.length_drop];omega),List.drop_take,List.take_take,Nat.min_eq_left V];exact s
    · have s:=g _ _<|m (j+(k-i)) V;have f:(k-i+1)*R.sz<=(l.length-j)*R.sz:=Nat.mul_le_mul_right _ V;rw[Nat.add_mul]at f;have N:i*R.sz<=k*R.sz:=Nat.mul_le_mul_right _ V;have q:(k-i)*R.sz=k*R.sz-i*R.sz:=Nat.sub_mul _ _ _;rw[List.getElem_append_right (by rw[List.length_take];omega)];have L:(l.drop j)[k-(l.take i).length]'(by rw[List.length_take,List.length_drop];omega)=l[j+(k-i)]'V:=by
        rw[List.getElem_drop];congr 1;rw[List.length_take];omega
      rw[L,List.drop_append,List.drop_eq_nil_of_le V,List.nil_append,n,<-q,List.drop_take,List.take_take,Nat.min_eq_left V,List.drop_drop,<-Nat.add_mul];exact s
theorem Raw.keep{w w':World}{gg cap b:Nat}{E:TypeId}{a:List Value}{N:BS}(h:Raw w gg cap b E a)(c:bH N w w')(hn:¬N gg):Raw w' gg cap b E a:=⟨c.blk h.blk hn,h.len,h.le⟩
section
variable{P:Program}{Q:Exit->Act->World->Prop}{n:Nat}{env:Nat->Value}{w w' w0:World}{M K:BS}{hp:Nat->Chunk}
theorem Q0{id:Nat}(k:Nat){l:List Oper}(e:P.follows .mixedOrders=true)(d:Region.lexTailB .any l.toArray k=true)
  (c:∀b,Grow w b->WK P l.toArray b (fun a=>wpList P l.toArray Q (l.drop k) a b) (l.take k) n env):WC P (Code.region id l.toArray true) Q n env w:=
 ⟨wp_region_still_tail k e d (uY (c _ (Grow.drew w)).out)⟩
theorem SH.given{α:Type}{R:kX α}{E:TypeId}{v u:Value}{l c:List α}(h:SH w0 M K w hp)(i:Nat)(d:hp i=.own R E v l)(ho:cO R E w' (fun b=>M b\/rest hp i b) u c)(e:bH (ob v) w w')(hn:∀b,ob u b->b<w.heap.size->ob v b):SH w0 M K w' (bX hp i (.own R E u c)):=by
  refine h.step i e (fun b a _=>by rw[d];exact a) (fun b a f=>by rw[d];exact hn b a f) ?_;refine cO.go ho (bH.refl BE w') (fun _ h=>h.elim) (fun _ h=>h.elim) fun b a _=>?_;rcases a with a|a|a
  · exact .inl<|.inl a
  · exact .inl<|.inr a
  · exact .inr a
theorem SH.Zo{α:Type}{R:kX α}{E:TypeId}{v:Value}{l:List α}(h:SH w0 M K w hp)(i:Nat)(a:hp i=.own R E v l):cO R E w (fun b=>M b\/rest hp i b) v l:=
 cO.go (h.bF i a) (bH.refl BE w) (fun _ h=>h.elim) (fun _ h=>h.elim) (fun b c _=>.inl (c.imp id lg))
theorem SH.KX{α β:Type}{R:kX α}{R':kX β}{E:TypeId}{v u:Value}{l:List α}{d:List β}(h:SH w0 M K w hp)(i j:Nat)(e:hp i=.rd R v l)(c:hp j=.own R' E u d):cK R w (fun b=>M b\/ob u b) v l:=
 (h.bK i e).sub (fun b a _=>a.elim .inl (fun a=>.inr ⟨j,by rw[c];exact a⟩)) (fun b a _=>a.elim .inl (fun a=>.inr ⟨j,by rw[c];exact a⟩))
theorem cK.YP{α β:Type}{R:kX α}{R':kX β}{E:TypeId}{v u:Value}{l:List α}{d:List β}{i:Nat}(h:cK R w (fun b=>SH.A M hp b\/ob u b) v l):cK R w (SH.A M (bX hp i (.own R' E u d))) v l:=by
  have c:∀b,SH.A M (bX hp i<|.own R' E u d) b->SH.A M hp b\/ob u b:=by
    rintro b(a|⟨j,a⟩)
    · exact .inl<|.inl a
    · by_cases e:j=i
      · subst e;rw[dm]at a;exact .inr a
      · rw[fu e]at a;exact .inl (.inr ⟨j,a⟩)
  exact h.sub (fun b a _=>c b a) fun b a _=>c b a
theorem del_len{i j l cap a:Nat}{b:List Value}(n:b.length=cap*a)(d:i<=j)(g:j<=l)(f:l<=cap):
  ((b.take (i*a)++(b.drop (j*a)).take ((l-j)*a)++b.drop (i*a+(l-j)*a)).take ((i+(l-j))*a))=b.take (i*a)++(b.drop (j*a)).take ((l-j)*a):=by
 have k:i*a<=j*a:=Nat.mul_le_mul_right _ d;have m:j*a+(l-j)*a=l*a:=by rw[<-Nat.add_mul];congr 1;omega
 have h:l*a<=cap*a:=Nat.mul_le_mul_right _ f;have e:(b.take<|i*a).length=i*a:=by rw[List.length_take];omega
 have c:((b.drop<|j*a).take ((l-j)*a)).length=(l-j)*a:=by rw[List.length_take,List.length_drop];omega
 rw[Nat.add_mul,List.take_append_of_le_length (by rw[List.length_append,e,c];omega),List.take_of_length_le (by rw[List.length_append,e,c];omega)]
def del1{α:Type}(l:List α)(i j:Int):Option (List α):=if 0<=i/\i<j/\j<=l.length then some (l.take i.toNat++l.drop j.toNat)else none
theorem o_del{α:Type}{l r:List α}{i j:Int}(h:del1 l i j=some r):∃a b:Nat,i=a/\j=b/\a<b/\b<=l.length/\r=l.take a++l.drop b:=by
  unfold del1 at h;by_cases hp:0<=i/\i<j/\j<=l.length
  · rw[if_pos hp]at h;cases h;exact⟨i.toNat,j.toNat,by omega,by omega,by omega,by omega,Z⟩
  · rw[if_neg hp]at h;cases h
end
open Go.RowKit
def selK(K:Act->World->Prop)(Q:Exit->Act->World->Prop):Exit->Act->World->Prop
 | .normal,a,w=>K a w
 |e,a,w=>Q e a w
section
variable{P:Program}{ops:Array Oper}
variable{Q:Exit->Act->World->Prop}{n:Nat}{env:Nat->Value}{w w0:World}{M K:BS}{hp:Nat->Chunk}
structure WH(P:Program)(ops:Array Oper)(ws:World)(Q:Exit->Act->World->Prop)(fuel:Nat)(listed:Array Bool)(n:Nat)(env:Nat->Value)(w:World):Prop where
 out:wpAnyH P .any ops (NoPanic Q) (Grow ws) fuel listed (act n env) w
theorem uf{id:Nat}{l:List Oper}(a:P.follows .mixedOrders=true)(b:SH w0 M K w hp)
  (h:∀w,SH w0 M K w hp->WH P l.toArray w Q l.length (Array.replicate l.length false) n env w):WC P (Code.region id l.toArray true) Q n env w:=
 ⟨wp_region_noPanic (wp_region_held (S:=Grow w.drew) a (h _ (b.grow (Grow.drew w))).out)⟩
theorem Zp{S S':World->Prop}(b:∀w,S' w->S w):∀(fuel:Nat) (listed:Array Bool) (a:Act) (w:World),wpAnyH P .any ops Q S' fuel listed a w->wpAnyH P .any ops Q S fuel listed a w
 |0,_,_,_,h=>h
 |fuel+1,_,_,_,h=>⟨h.1,fun i d=>wpOp_mono (fun a' w' c=>⟨b _ c.1,Zp b fuel _ a' w' c.2⟩) (h.2 i d)⟩
variable{d:Option Nat}{op:Op}{ty:TypeId}{pos:String}{af:Array Edge}{v:Value}{g:Option (Nat×Bool)}{i fuel:Nat}{listed:Array Bool}
theorem aZ:Region.wanted ⟨d,op,ty,pos,af,none⟩ (yielded ops (act n env).tmps)=true:=rfl
theorem wh_first{ws:World}{o:Oper}(b:Grow ws w)(d:ops[i]? =some o)(c:Region.noSelect ops=true)(f:Region.free .any ops listed i=true)(e:(Region.ready .any ops listed).contains i=true)
  (a:YieldsIf P ops (Grow ws) o v (act n env)) (h:WH P ops ws Q fuel (listed.setIfInBounds i true) n (gq env o.dst v) w):WH P ops ws Q (fuel+1) listed n env w:=by
 refine⟨wpAnyH_take d c f e (fun _ _ _ h=>h) a b ?_⟩;rw[Ec];exact h.out
theorem wh_ok{ws:World}(i:Nat)(e:Grow ws w)(j:ops[i]? =some ⟨d,op,ty,pos,af,g⟩)(k:Region.wanted ⟨d,op,ty,pos,af,g⟩ (yielded ops (act n env).tmps)=true)(f:Region.noSelect ops=true)(l:Region.free .any ops listed i=true)(m:(Region.ready .any ops listed).contains i=true)
  (b:∀a,Grow ws a->(execOp (ev n env) ⟨d,op,ty,pos,af,g⟩).run P a=.ok (.value v) a) (h:WH P ops ws Q fuel (listed.setIfInBounds i true) n (gq env d v) w):WH P ops ws Q (fuel+1) listed n env w:=
 wh_first (o:=⟨d,op,ty,pos,af,g⟩) e j f l m (.inl ⟨k,fun a c=>by rw[gJ];exact b a c⟩) h
theorem wh_done{ws:World}(a:Region.ready .any ops listed=[])(h:Q .normal (act n env) w):WH P ops ws Q fuel listed n env w:=⟨wpAnyH_done a (NoPanic.normal h) fuel⟩
def after(P:Program)(ops:Array Oper)(ws:World)(Q:Exit->Act->World->Prop)(fuel:Nat)(listed:Array Bool):Exit->Act->World->Prop:=
 selK (fun a' w'=>Grow ws w'/\wpAnyH P .any ops (NoPanic Q) (Grow ws) fuel listed a' w') (NoPanic Q)
theorem dN{ws:World}(a:Grow ws w)(h:WH P ops ws Q fuel listed n env w):after P ops ws Q fuel listed .normal (act n env) w:=⟨a,h.out⟩
theorem GG{K:Act->World->Prop}{Q1:Exit->Act->World->Prop}(l:ops[i]? =some ⟨d,op,ty,pos,af,g⟩)(k:Region.wanted ⟨d,op,ty,pos,af,g⟩ (yielded ops (act n env).tmps)=true)
    (h:WL P ops (selK K Q1) [⟨d,op,ty,pos,af,none⟩] n env w):wpOp P ops Q1 i K (act n env) w:=by
  unfold wpOp;simp only[l,k,if_true];have b:=h.out;unfold wpList at b;rw[if_pos (show Region.wanted _ _=true from rfl)]at b;rcases b with b|⟨ha,hl⟩
  rotate_left
  · exact .inr ⟨ha,let ⟨a,w,h⟩:=hl;⟨a,w,h⟩⟩
  refine .inl ?_;unfold Oper.wp at b⊢;have e:(execOp (act n env).eval ⟨d,op,ty,pos,af,g⟩)=execOp (act n env).eval ⟨d,op,ty,pos,af,none⟩:=by unfold execOp;rfl
  rw[e];generalize (execOp (act n env).eval ⟨d,op,ty,pos,af,none⟩).run P w=r at b⊢;cases r with
  |ok nx w'=>
    cases nx with
    |value v=>exact b
    |skip=>exact b
    |defer d=>exact b
    |enter f args=>
      refine Calls.mono b fun e m j=>?_;cases e with
      |returned v=>exact j
      |panicked c=>exact j
      |outgrown=>exact j
    |row r args=>exact b
    |_=>exact b
  |halt x w'=>
    cases x<;>exact b
theorem wh_eff{ws:World}(i:Nat)(c:Region.ready .any ops listed=[i])(b:ops[i]? =some ⟨d,op,ty,pos,af,g⟩)(e:Region.wanted ⟨d,op,ty,pos,af,g⟩ (yielded ops (act n env).tmps)=true)
  (h:WL P ops (after P ops ws Q fuel (listed.setIfInBounds i true)) [⟨d,op,ty,pos,af,none⟩] n env w):WH P ops ws Q (fuel+1) listed n env w:=by
 refine⟨wpAnyH_all c zq3 fun k a=>?_⟩;obtain rfl:k=i:=by simpa using a
 exact GG b e h
theorem FR{ws:World}{f:Option Nat}{c:Op}{b:TypeId}{a:String}{e:Array Edge}{o:Option (Nat×Bool)}(i j:Nat)(s:Region.ready .any ops listed=[i,j])(r:ops[i]? =some ⟨d,op,ty,pos,af,g⟩)(t:Region.wanted ⟨d,op,ty,pos,af,g⟩ (yielded ops (act n env).tmps)=true)
    (p:ops[j]? =some ⟨f,c,b,a,e,o⟩) (l:Region.wanted ⟨f,c,b,a,e,o⟩ (yielded ops (act n env).tmps)=true)
    (h:WL P ops (after P ops ws Q fuel (listed.setIfInBounds i true)) [⟨d,op,ty,pos,af,none⟩] n env w) (q:WL P ops (after P ops ws Q fuel (listed.setIfInBounds j true)) [⟨f,c,b,a,e,none⟩] n env w):WH P ops ws Q (fuel+1) listed n env w:=by
  refine⟨wpAnyH_all s zq3 fun k m=>?_⟩;rcases List.mem_cons.1 m with rfl|m
  · exact GG r t h
  · obtain rfl:k=j:=by simpa using m
    exact GG p l q
theorem wh_base{ws:World}(a:Grow ws w)(h:WH P ops w Q fuel listed n env w):WH P ops ws Q fuel listed n env w:=⟨Zp (fun _ h=>a.trans h) _ _ _ _ h.out⟩
variable{w':World}{rest:List Oper}{T:TypeId}{x y:Operand}
theorem yg{α:Type}{R:kX α}{E:TypeId}{l c:Nat}{a:Array (Nat×Operand)}{len:Nat}{vs:List Value}{xs:List α}(h:SH w0 M K w hp)(i:Nat)(v:kr P T E l c)(s:R.sz=l)
  (x:(a.toList.map fun p=>(p.1,ev n env p.2))=vs.zipIdx.map fun p=>(p.2,p.1)) (e:vs.length=len) (t:JI R w (SH.A M hp) vs xs) (f:Nat.ble (len*l) 16777216=true)
  (k:∀w' u,SH w0 M K w' (bX hp i (.own R E u xs))->Grow w w'->(∀b,ob u b->w.heap.size<=b)->WL P ops Q rest n (gq env d u) w'):
  WL P ops Q (⟨d,.buildSlice T len a,ty,pos,af,none⟩::rest) n env w:=by
 obtain⟨u,w',r,o,q,m⟩:=run_bs (d:=d) (ty:=ty) (pos:=pos) (af:=af) (g:=none) v s x e t h.lt<|Nat.le_of_ble_eq_true f;exact F r<|k w' u (h.xE i o q fun b j=>Nat.le_of_eq<|m b j) o fun b j=>Nat.le_of_eq<|m b j
theorem bH.fresh{a b c:World}{N:BS}(h:Grow a b)(k:bH N b c)(hN:∀x,N x->a.heap.size<=x):Grow a c:=h.step k (fun x d e=>by have:=hN x d;omega)
end
open Go.RowKit Go.Deep
def xQ{α:Type}(P:Program)(T:TypeId)(R:kX α):Prop:=
 ∀(a:Type) (enc:TypeId×Value->a) (w:World) (b:Nat->Bool) (c:Bool) (fuel:Nat) (cs:List Value) (x:DataW a×List MemPlace),DataW.trod enc P w 0 b c fuel T cs=some x->∃d,R.rd w BE cs d
theorem opens_int{P:Program}{T:TypeId}(d:P.underlying T=some (.int .i64)):xQ P T di:=by
 intro a enc w b c fuel cs x h;obtain⟨n,rfl,_,e⟩:=DataW.trod_int d h;exact⟨n,Z⟩
theorem opens_bool{P:Program}{T:TypeId}(e:P.underlying T=some .bool):xQ P T rBool:=by
 intro a enc w c d fuel cs x h;obtain⟨b,rfl,_⟩:=DataW.trod_bool e h;exact⟨b,Z⟩
theorem yh{α:Type}{P:Program}{T E:TypeId}{R:kX α}(X:P.underlying T=some (.slice E))(Q:P.cellsOf E=R.sz)(h:xQ P E R):xQ P T (uE R):=by
  intro c enc w r A fuel cs x hx;rcases open_slice X hx with⟨rfl,rfl⟩|⟨a,len,cap,m,n,D,Pl,rfl,_,hl,hm,hmm,rfl,hel⟩
  · exact⟨[],_,Z,ed.nil⟩
  · have a0:len<=m:=by rw[hmm];split<;>omega
    have y:∀i,i<len->∃d:α,∃b o cells g q,a=⟨b,o,none⟩/\w.heap[b]? =some (.cells cells g q)/\R.rd w BE ((cells.toList.drop<|o+i*R.sz).take R.sz) d:=by
      intro i p;obtain⟨l,S,h2⟩:=hel i V;obtain⟨d,hd⟩:=h c enc w r A n l _ h2;refine⟨d,?_⟩;rw[Q]at S;obtain⟨_,O,s⟩:=World.cells?_some S;have hp:=R.pos;have z:a.spot=none:=by
        obtain⟨I,g1,_⟩:=hel 0 V;rw[Q]at g1;obtain⟨_,N,t⟩:=World.cells?_some g1;have M:=t 0 hp;rw[Nat.zero_mul,add_add,Nat.zero_add]at M;have:∃v,I[0]? =some v:=⟨I[0]'V,List.getElem?_eq_getElem V⟩;obtain⟨v,L⟩:=this;rw[L]at M;have:=World.cell?_spot M;simpa[Addr.add]using this
      obtain⟨b,o,sp⟩:=a;simp only at z;subst z;have C:∀k,(⟨b,o,none⟩:Addr).add k=⟨b,o+k,none⟩:=by
        intro k;unfold Addr.add;split<;>simp_all
      have B:∀j,j<R.sz->w.cell? ⟨b,o+i*R.sz+j,none⟩=l[j]? :=by
        intro j G;have:=s j G;rw[add_add,C]at this;rw[<-this,Nat.add_assoc]
      have J:=B 0 hp;have L:l[0]? =some (l[0]'V):=List.getElem?_eq_getElem V;rw[L]at J;unfold World.cell? at J;cases u:w.heap[b]? with
      |none=>simp[u]at J
      |some ob=>
        cases ob with
        |cells cells g q=>
          refine⟨b,o,cells,g,q,Z,u,?_⟩;have e:(cells.toList.drop<|o+i*R.sz).take R.sz=l:=by
            apply List.ext_getElem?;intro j;rw[List.getElem?_take,List.getElem?_drop];by_cases G:j<R.sz
            · rw[if_pos G,<-B j G];simp[World.cell?,u]
            · rw[if_neg G,List.getElem?_eq_none V]
          rw[e];exact hd
        |_=>simp[u]at J
    obtain⟨f,hf⟩:∃f:(i:Nat)->i<len->α,∀i p,∃b o cells g q,a=⟨b,o,none⟩/\w.heap[b]? =some (.cells cells g q)/\R.rd w BE ((cells.toList.drop<|o+i*R.sz).take R.sz) (f i p):=
      ⟨fun i p=>Classical.choose (y i p),fun i p=>Classical.choose_spec (y i p)⟩
    refine⟨List.ofFn fun i:Fin len=>f i.val i.isLt,_,Z,some a,cap,by simp,by simpa using hl,hm,(fun h=>by cases h),?_⟩;intro i p;have K:i<len:=by simpa using p
    obtain⟨b,o,cells,g,q,rfl,u,hr⟩:=hf i K;refine⟨b,o,cells,g,q,Z,fun h=>h,u,?_⟩;simpa using hr
theorem yj{a:Type}{enc:TypeId×Value->a}{P:Program}{w:World}{b:Nat->Bool}{c:Bool}{T:TypeId}{d:Array Field}{fuel:Nat}{cs:List Value}{x:DataW a×List MemPlace}(k:P.underlying T=some (.struct d))(h:DataW.trod enc P w 0 b c fuel T cs=some x):
    cs.length=P.cellsOf T/\∃n:Nat,∀(i:Nat) (f:Field),d[i]? =some f->∃y:DataW a×List MemPlace,DataW.trod enc P w 0 b c n f.type ((cs.drop f.offset).take (P.cellsOf f.type))=some y:=by
  obtain⟨xs,n,_,_,l,e,m⟩:=DataW.trod_struct k h;refine⟨l,n,fun i f g=>?_⟩;have:=m i f g;have j:i<xs.length:=by
    rw[e];rcases Nat.lt_or_ge i d.size with h1|h1
    · exact h1
    · rw[Array.getElem?_eq_none h1]at g;cases g
  rw[List.getElem?_eq_getElem j]at this;exact⟨_,this⟩
theorem eH{α:Type}{a:Type}{enc:TypeId×Value->a}{P:Program}{w:World}{b:Nat->Bool}{c:Bool}{e:Array Field}{n:Nat}{cs:List Value}{R:kX α}{i:Nat}{f:Field}
  (h:∀(i:Nat) (f:Field),e[i]? =some f->∃y:DataW a×List MemPlace,DataW.trod enc P w 0 b c n (Field.type f) ((cs.drop f.offset).take (P.cellsOf f.type))=some y) (k:e[i]? =some f) (j:P.cellsOf f.type=R.sz) (l:xQ P f.type R):
  ∃d,R.rd w BE ((cs.drop f.offset).take R.sz) d:=by
 obtain⟨y,g⟩:=h i f k;rw[j]at g;exact l a enc w b c n _ _ g
theorem cells_one{l:List Value}{o:Nat}{v:Value}(h:(l.drop o).take 1=[v]):l[o]? =some v:=by
 have:=congrArg (fun l=>l[0]?) h;simpa[List.getElem?_take,List.getElem?_drop]using this
theorem qX{α:Type}{l:List α}{n:Nat}(h:l.length=n+1):∃a t,l=a::t/\t.length=n:=by
 cases l with
 |nil=>simp at h
 |cons a t=>exact⟨a,t,rfl,by simpa using h⟩
theorem nobody{w:World}:∀b,BE b->b<w.heap.size:=fun _ h=>h.elim
open Go.RowKit Go.MapKept
def aget(z:Value)(jW:List (Int×Value))(k:Int):Value:=match jW with|[]=>z|p::r=>if k=p.1 then p.2 else aget z r k
def V8(jW:List (Int×Value))(k:Int)(v:Value):List (Int×Value):=match jW with|[]=>[(k,v)]|p::r=>if k=p.1 then(p.1,v)::r else p::V8 r k v
def ahas(jW:List (Int×Value))(k:Int):Bool:=match jW with|[]=>false|p::r=>if k=p.1 then true else ahas r k
def Pn(jW:List (Int×Value))(k:Int)(i:Nat):Option (Nat×Value):=match jW with|[]=>none|p::r=>if k=p.1 then some (i,p.2)else Pn r k (i+1)
theorem FT{jW:List (Int×Value)}{k:Int}:∀{a:List MapEntry} {i:Nat},a.map (fun e=>(e.key,e.val))=jW.map (fun p=>(Value.int .i64 p.1,p.2))->
    Instr.findNow (.int .i64) (.int .i64 k) a i=some (Pn jW k i):=by
  induction jW with
  |nil=>intro a i h;cases a with|nil=>rfl|cons e r=>simp at h
  |cons p r ih=>
    intro a i h;cases a with
    |nil=>simp at h
    |cons e s=>
      simp only[List.map_cons,List.cons.injEq,Prod.mk.injEq]at h;obtain⟨⟨c,f⟩,d⟩:=h;unfold Instr.findNow Pn;by_cases b:k=p.1
      · simp[Instr.sameNow,c,f,b]
      · have:(k==p.1)=false:=by simpa using b
        simp[Instr.sameNow,c,this,b,ih d]
theorem V9{z:Value}{k:Int}:∀{jW:List (Int×Value)} {i:Nat},aget z jW k=match Pn jW k i with|some (_,v)=>v|none=>z
  |[],i=>rfl
  |p::r,i=>by
    unfold aget Pn;by_cases a:k=p.1
    · simp[a]
    · simp only[a,if_false];exact V9
theorem SQ{k:Int}{v:Value}:∀{jW:List (Int×Value)} {i:Nat},Pn jW k i=none->V8 jW k v=jW++[(k,v)]
  |[],i,_=>rfl
  |p::r,i,h=>by
    unfold Pn at h;unfold V8;by_cases a:k=p.1
    · simp[a]at h
    · simp only[a,if_false]at h⊢;rw[SQ h];rfl
theorem SS{k:Int}{v u:Value}:∀{jW:List (Int×Value)} {i j:Nat},Pn jW k i=some (j,u)->i<=j/\∃p,jW[j-i]? =some p/\p.1=k/\V8 jW k v=jW.set (j-i) (k,v)
  |[],i,j,h=>by cases h
  |p::r,i,j,h=>by
    unfold Pn at h;unfold V8;by_cases a:k=p.1
    · simp only[a,if_true,Option.some.injEq,Prod.mk.injEq]at h;obtain⟨rfl,_⟩:=h;refine⟨Nat.le_refl _,p,by simp,a.symm,?_⟩;simp[a]
    · simp only[a,if_false]at h⊢;obtain⟨e,q,d,b,c⟩:=SS (v:=v) h;refine⟨by omega,q,?_,b,?_⟩
      · rw[show j-i=(j-(i+1))+1 by omega];simpa using d
      · rw[show j-i=(j-(i+1))+1 by omega,c];simp
section
variable{P:Program}{ops:Array Oper}{Q:Exit->Act->World->Prop}{n:Nat}{env:Nat->Value}{w w' w0:World}{M K:BS}{hp:Nat->Chunk}{rest:List Oper}
 {d:Option Nat} {op:Op} {ty:TypeId} {pos:String} {af:Array Edge} {v:Value} {g:Option (Nat×Bool)} {T:TypeId} {ρ:Operand->Value}
structure MapOf(P:Program)(T:TypeId)(z:Value):Prop where
  desc:∃K E,P.underlying T=some (.map K E)/\P.underlying K=some (.int .i64)/\(P.info? E).map (·.zero)=some (some z)
theorem r_makeMap:(execOp ρ ⟨d,.makeMap T none,ty,pos,af,g⟩).run P w=.ok (.value (.map (some w.heap.size))) (w.alloc (.map #[] 0)):=by
 simp[execOp,Instr.makeMap,World.alloc,-World.alloc_eq]
theorem ckInt{e:Bool}{K:TypeId}{k:Int}(a:P.underlying K=some (.int .i64)):(Instr.checkKey e 10000 K (.int .i64 k)).run P w=.ok () w:=
 run_checkKey a (by trivial) e 9999
theorem KV.push{b:Array MapEntry}{c:Nat}(h:KV b c)(k v:Value):KV (b.push {key:=k,val:=v,born:=c}) (c+1):=by
  refine⟨fun e a=>?_,?_⟩
  · simp only[Array.toList_push,List.mem_append,List.mem_singleton]at a;rcases a with a|rfl
    · exact Nat.lt_succ_of_lt<|h.1 e a
    · exact Nat.lt_succ_self c
  · rw[Array.toList_push,List.map_append,List.nodup_append];refine⟨h.2,by simp,fun x f y d=>?_⟩;simp only[List.map_cons,List.map_nil,List.mem_singleton]at d;obtain⟨e,a,rfl⟩:=List.mem_map.1 f;have:=h.1 e a;omega
theorem KV.modify{a:Array MapEntry}{c:Nat}(h:KV a c)(j:Nat)(k v:Value):KV (a.modify j fun e=>{e with key:=k,val:=v}) c:=by
  have e:(a.modify j fun e=>{e with key:=k,val:=v}).toList.map (·.born)=a.toList.map (·.born):=by
    apply List.ext_getElem?;intro i;simp only[List.getElem?_map,Array.getElem?_toList,Array.getElem?_modify];by_cases d:j=i
    · subst d;cases a[j]? <;>simp
    · simp[d]
  refine⟨fun x g=>?_,by rw[e];exact h.2⟩;have:x.born∈(a.modify j fun e=>{e with key:=k,val:=v}).toList.map (·.born):=List.mem_map.2 ⟨x,g,Z⟩;rw[e]at this;obtain⟨y,f,b⟩:=List.mem_map.1 this;rw[<-b];exact h.1 y f
theorem r_lookup{z:Value}{x y:Operand}{b:Nat}{k:Int}{jW:List (Int×Value)}(A:MapOf P T z)(o:ρ x=.map (some b))(s:ρ y=.int .i64 k)(h:Iz w b jW):
  (execOp ρ ⟨d,.lookup T x y false,ty,pos,af,g⟩).run P w=.ok (.value (aget z jW k)) w:=by
 obtain⟨K,E,u,j,f⟩:=A.desc;obtain⟨q,a,h,r,t⟩:=h;obtain⟨i,c,n⟩:∃i,P.info? E=some i/\i.zero=some z:=by
  cases c:P.info? E with
  |none=>simp[c]at f
  |some i=>simp[c]at f;exact⟨i,Z,f⟩
 have v:=FT (k:=k) (i:=0) r;have m:(getObj b).run P w=.ok (.map q a) w:=by simp[getObj,Sem.run,h]
 rw[V9 (z:=z) (k:=k) (jW:=jW) (i:=0)];simp only[execOp,Instr.lookup,underlying,o,s];have l:=fun e=>ckInt (P:=P) (w:=w) (e:=e) (K:=K) (k:=k) j;simp only[Sem.run_bind,run_program,Result.andThen_ok,u,Sem.run_pure,m,l,Instr.findKey,underlying,j,v];cases ha:Pn jW k 0 with
 |none=>simp[zeroValue,typeInfo,c,n]
 |some p=>simp
theorem wl_mapUpdate{z:Value}{x y u:Operand}{b:Nat}{k:Int}{jW:List (Int×Value)}(hT:MapOf P T z)(R:ev n env x=.map (some b))(X:ev n env y=.int .i64 k)(O:ev n env u=v)(c:Iz w b jW)
    (h:∀w',bH (fun x=>x=b) w w'->Iz w' b (V8 jW k v)->WL P ops Q rest n (gq env d undef) w'):
    WL P ops Q (⟨d,.mapUpdate T x y u,ty,pos,af,none⟩::rest) n env w:=by
  obtain⟨K,E,h1,G,h3⟩:=hT.desc;obtain⟨f,a,c,s,t⟩:=c;have B:=FT (k:=k) (i:=0) s;have M:(getObj b).run P w=.ok (.map f a) w:=by simp[getObj,Sem.run,c]
  have g:=iF c;have L:=fun e=>ckInt (P:=P) (w:=w) (e:=e) (K:=K) (k:=k) G;have r:f.toList.length=jW.length:=by have:=congrArg List.length s;simpa using this
  cases ha:Pn jW k 0 with
  |none=>
    refine Al (w':=vV w b<|.map (f.push {key:=.int .i64 k,val:=v,born:=a})<|a+1) ?_<|h _ (bH.vV _ _ _) ⟨_,_,uX g,?_,t.push _ _⟩
    · rw[ha]at B;simp only[execOp,Instr.mapUpdate,underlying,R,X,O];simp only[Sem.run_bind,run_program,Result.andThen_ok,h1,Sem.run_pure,M,L,Instr.findKey,underlying,G,B,run_setObj_map _ c];rfl
    · rw[SQ ha];simp[s]
  |some p=>
    obtain⟨j,u0⟩:=p;obtain⟨_,q,A,J,hset⟩:=SS (v:=v) ha;simp only[Nat.sub_zero]at A hset;have I:j<f.size:=by
      have m:j<jW.length:=by
        rcases Nat.lt_or_ge j jW.length with m|m
        · exact m
        · rw[List.getElem?_eq_none m]at A;cases A
      simpa[<-r]using m
    have o:f[j].key=.int .i64 k:=by
      have S:=congrArg (fun l=>l[j]?) s;simp[A,I]at S;rw[S.1,J]
    refine Al (w':=vV w b<|.map (f.modify j fun e=>{e with key:=.int .i64 k,val:=v}) a) ?_<|h _ (bH.vV _ _ _) ⟨_,_,uX g,?_,t.modify _ _ _⟩
    · rw[ha]at B;have C:(Instr.keyThatStays (.int .i64 k)<|.int .i64 k).run P w=.ok (.int .i64 k) w:=by simp[Instr.keyThatStays,Instr.sameBits]
      simp only[execOp,Instr.mapUpdate,underlying,R,X,O];simp only[Sem.run_bind,run_program,Result.andThen_ok,h1,Sem.run_pure,M,L,Instr.findKey,underlying,G,B,Array.getElem?_eq_getElem I,Option.map_some,Option.getD_some,o,C,run_setObj_map _ c];rfl
    · rw[hset,List.map_set,<-s];apply List.ext_getElem?;intro i;simp only[List.getElem?_map,Array.getElem?_toList,Array.getElem?_modify,List.getElem?_set,List.length_map,Array.length_toList];by_cases N:j=i
      · subst N;simp[I]
      · simp[N]
theorem wl_insert{z:Value}{x y u:Operand}{b:Nat}{k:Int}{jW:List (Int×Value)}(hT:MapOf P T z)(R:ev n env x=.map (some b))(X:ev n env y=.int .i64 k)(O:ev n env u=v)(c:Iz w b jW)
    (h:∀w',bH (fun x=>x=b) w w'->Iz w' b (V8 jW k v)->WL P ops Q rest n (gq env d undef) w'):
    WL P ops Q (⟨d,.insert T x y u,ty,pos,af,none⟩::rest) n env w:=by
  obtain⟨K,E,h1,G,h3⟩:=hT.desc;obtain⟨f,a,c,s,t⟩:=c;have B:=FT (k:=k) (i:=0) s;have M:(getObj b).run P w=.ok (.map f a) w:=by simp[getObj,Sem.run,c]
  have g:=iF c;have L:=fun e=>ckInt (P:=P) (w:=w) (e:=e) (K:=K) (k:=k) G;have r:f.toList.length=jW.length:=by have:=congrArg List.length s;simpa using this
  cases ha:Pn jW k 0 with
  |none=>
    refine Al (w':=vV w b<|.map (f.push {key:=.int .i64 k,val:=v,born:=a})<|a+1) ?_<|h _ (bH.vV _ _ _) ⟨_,_,uX g,?_,t.push _ _⟩
    · rw[ha]at B;simp only[execOp,Instr.mapUpdate,underlying,R,X,O];simp only[Sem.run_bind,run_program,Result.andThen_ok,h1,Sem.run_pure,M,L,Instr.findKey,underlying,G,B,run_setObj_map _ c];rfl
    · rw[SQ ha];simp[s]
  |some p=>
    obtain⟨j,u0⟩:=p;obtain⟨_,q,A,J,hset⟩:=SS (v:=v) ha;simp only[Nat.sub_zero]at A hset;have I:j<f.size:=by
      have m:j<jW.length:=by
        rcases Nat.lt_or_ge j jW.length with m|m
        · exact m
        · rw[List.getElem?_eq_none m]at A;cases A
      simpa[<-r]using m
    have o:f[j].key=.int .i64 k:=by
      have S:=congrArg (fun l=>l[j]?) s;simp[A,I]at S;rw[S.1,J]
    refine Al (w':=vV w b<|.map (f.modify j fun e=>{e with key:=.int .i64 k,val:=v}) a) ?_<|h _ (bH.vV _ _ _) ⟨_,_,uX g,?_,t.modify _ _ _⟩
    · rw[ha]at B;have C:(Instr.keyThatStays (.int .i64 k)<|.int .i64 k).run P w=.ok (.int .i64 k) w:=by simp[Instr.keyThatStays,Instr.sameBits]
      simp only[execOp,Instr.mapUpdate,underlying,R,X,O];simp only[Sem.run_bind,run_program,Result.andThen_ok,h1,Sem.run_pure,M,L,Instr.findKey,underlying,G,B,Array.getElem?_eq_getElem I,Option.map_some,Option.getD_some,o,C,run_setObj_map _ c];rfl
    · rw[hset,List.map_set,<-s];apply List.ext_getElem?;intro i;simp only[List.getElem?_map,Array.getElem?_toList,Array.getElem?_modify,List.getElem?_set,List.length_map,Array.length_toList];by_cases N:j=i
      · subst N;simp[I]
      · simp[N]
theorem aidx_has{k:Int}:∀{jW:List (Int×Value)} {i:Nat},ahas jW k=(Pn jW k i).isSome
  |[],i=>rfl
  |p::r,i=>by
    unfold ahas Pn;by_cases a:k=p.1
    · simp[a]
    · simp only[a,if_false];exact aidx_has
theorem r_lookup2{z:Value}{x y:Operand}{b:Nat}{k:Int}{jW:List (Int×Value)}(A:MapOf P T z)(o:ρ x=.map (some b))(s:ρ y=.int .i64 k)(h:Iz w b jW):
  (execOp ρ ⟨d,.lookup T x y true,ty,pos,af,g⟩).run P w=.ok (.value (.tuple #[aget z jW k,.bool (ahas jW k)])) w:=by
 obtain⟨K,E,u,j,f⟩:=A.desc;obtain⟨q,a,h,r,t⟩:=h;obtain⟨i,c,n⟩:∃i,P.info? E=some i/\i.zero=some z:=by
  cases c:P.info? E with
  |none=>simp[c]at f
  |some i=>simp[c]at f;exact⟨i,Z,f⟩
 have v:=FT (k:=k) (i:=0) r;have m:(getObj b).run P w=.ok (.map q a) w:=by simp[getObj,Sem.run,h]
 rw[V9 (z:=z) (k:=k) (jW:=jW) (i:=0),aidx_has (i:=0)];simp only[execOp,Instr.lookup,underlying,o,s];have l:=fun e=>ckInt (P:=P) (w:=w) (e:=e) (K:=K) (k:=k) j;simp only[Sem.run_bind,run_program,Result.andThen_ok,u,Sem.run_pure,m,l,Instr.findKey,underlying,j,v];cases ha:Pn jW k 0 with
 |none=>simp[zeroValue,typeInfo,c,n]
 |some p=>simp
def lk{α:Type}(k:Int):List (Int×α)->Option α
 |[]=>none
 |p::r=>if k=p.1 then some p.2 else lk k r
theorem VQ{α:Type}{f:α->Value}{z:α}{k:Int}:∀(l:List (Int×α)),aget (f z) (l.map fun p=>(p.1,f p.2)) k=f ((lk k l).getD z)
  |[]=>rfl
  |p::r=>by
    show(if k=p.1 then f p.2 else aget _ _ k)=f ((if k=p.1 then some p.2 else lk k r).getD z);by_cases h:k=p.1
    · simp[h]
    · simp only[h,if_false];exact VQ r
theorem ahas_lk{α:Type}{f:α->Value}{k:Int}:∀(l:List (Int×α)),ahas (l.map fun p=>(p.1,f p.2)) k=(lk k l).isSome
  |[]=>rfl
  |p::r=>by
    show(if k=p.1 then true else ahas _ k)=(if k=p.1 then some p.2 else lk k r).isSome;by_cases h:k=p.1
    · simp[h]
    · simp only[h,if_false];exact ahas_lk r
theorem r_lk2{α:Type}{f:α->Value}{zz:α}{z:Value}{x y:Operand}{b:Nat}{k:Int}{jW:List (Int×Value)}(l:List (Int×α))(h:SH w0 M K w hp)(i:Nat)(a:hp i=.mp b jW)(n:MapOf P T z)(e:ρ x=.map (some b))(m:ρ y=.int .i64 k)(c:z=f zz)(j:jW=l.map fun p=>(p.1,f p.2)):
  (execOp ρ ⟨d,.lookup T x y true,ty,pos,af,g⟩).run P w=.ok (.value (.tuple #[f ((lk k l).getD zz),.bool (lk k l).isSome])) w:=by
 have:=r_lookup2 (d:=d) (ty:=ty) (pos:=pos) (af:=af) (g:=g) n e m<|h.mpAt i a;rw[c,j,VQ,ahas_lk]at this;exact this
theorem r_lk1{α:Type}{f:α->Value}{zz:α}{z:Value}{x y:Operand}{b:Nat}{k:Int}{jW:List (Int×Value)}(l:List (Int×α))(h:SH w0 M K w hp)(i:Nat)(a:hp i=.mp b jW)(n:MapOf P T z)(e:ρ x=.map (some b))(m:ρ y=.int .i64 k)(c:z=f zz)(j:jW=l.map fun p=>(p.1,f p.2)):
  (execOp ρ ⟨d,.lookup T x y false,ty,pos,af,g⟩).run P w=.ok (.value (f ((lk k l).getD zz))) w:=by
 have:=r_lookup (d:=d) (ty:=ty) (pos:=pos) (af:=af) (g:=g) n e m<|h.mpAt i a;rw[c,j,VQ]at this;exact this
theorem NS(h:SH w0 M K w hp)(i:Nat)(k:∀w' b,SH w0 M K w' (bX hp i (.mp b []))->WL P ops Q rest n (gq env d (.map (some b))) w'):WL P ops Q (⟨d,.makeMap T none,ty,pos,af,none⟩::rest) n env w:=
 F r_makeMap (k _ _ (h.learn i (Grow.alloc _ _) (fun b a=>Nat.le_of_eq a.symm) ⟨#[],0,NR _ _,rfl,by simp[KV]⟩))
theorem SH.mpSet{b:Nat}{jW xR:List (Int×Value)}(h:SH w0 M K w hp)(i:Nat)(c:hp i=.mp b jW)(e:bH (fun x=>x=b) w w')(d:Iz w' b xR):SH w0 M K w' (bX hp i (.mp b xR)):=
 h.step i e (fun x a _=>by rw[c];exact a) (fun x a _=>by rw[c];exact a) d
theorem uZ{z:Value}{x y u:Operand}{b:Nat}{k:Int}{jW xR:List (Int×Value)}(h:SH w0 M K w hp)(i:Nat)(a:hp i=.mp b jW)(o:MapOf P T z)(f:ev n env x=.map (some b))(j:ev n env y=.int .i64 k)(c:ev n env u=v)(g:V8 jW k v=xR)
  (l:∀w',SH w0 M K w' (bX hp i (.mp b xR))->WL P ops Q rest n (gq env d undef) w'):WL P ops Q (⟨d,.insert T x y u,ty,pos,af,none⟩::rest) n env w:=
 wl_insert o f j c (h.mpAt i a) fun w' m e=>l w' (h.mpSet i a m (g▸e))
theorem MB{z:Value}{x y u:Operand}{b:Nat}{k:Int}{jW xR:List (Int×Value)}(h:SH w0 M K w hp)(i:Nat)(a:hp i=.mp b jW)(o:MapOf P T z)(f:ev n env x=.map (some b))(j:ev n env y=.int .i64 k)(c:ev n env u=v)(g:V8 jW k v=xR)
  (l:∀w',SH w0 M K w' (bX hp i (.mp b xR))->WL P ops Q rest n (gq env d undef) w'):WL P ops Q (⟨d,.mapUpdate T x y u,ty,pos,af,none⟩::rest) n env w:=
 wl_mapUpdate o f j c (h.mpAt i a) fun w' m e=>l w' (h.mpSet i a m (g▸e))
end
theorem SH.Zq{w:World}{M K:BS}{hp:Nat->Chunk}{w0:World}{b:Nat}{cs:List Value}(h:SH w0 M K w hp)(i:Nat)(ho:∃E,w.heap[b]? =some (.cells cs.toArray E (0,0)))(hn:∀b,¬iG hp b):SH w0 M K w (bX hp i (.pt b 0 cs)):=by
 obtain⟨E,ho⟩:=ho;exact h.know i (fun _ h=>h) ⟨hn b,_,_,_,ho,by simp⟩
open Go.RowKit
def hasB(s:Str)(c:UInt8):Bool:=decide (0<=Go.Lib.indexByte s c)
section
variable{P:Program}{ops:Array Oper}{Q:Exit->Act->World->Prop}{n:Nat}{env:Nat->Value}{w:World}{rest:List Oper}
 {d:Option Nat} {ty:TypeId} {pos:String} {af:Array Edge} {v:Value} {x:Operand}
theorem NT{f:FuncId}(c:List Value){xs:Array Operand}{y:Array TypeId}{args:List Value}{j dj:Nat}{b a:Bool}(i:Bool)(o:(ops[j]?).bind (·.dst)=some dj)(m:ev n env (.tmp dj)=gv i (.bool b))(u:QX P f)(z:(i&&(b==a))=true->ev n env x=.func (.func f) #[] c.toArray)
    (r:(i&&(b==a))=true->xs.toList.map (ev n env)++c=args) (p:Calls P f args.toArray w (fun e w'=>Grow w w'/\e=.returned v))
    (k:∀w',Grow w w'->WL P ops Q rest n (gq env d (gv (i&&(b==a)) v)) w'):
    WL P ops Q (⟨d,.call {callee:=.value x,args:=xs,argTypes:=y},ty,pos,af,some (j,a)⟩::rest) n env w:=by
  by_cases g:(i&&(b==a))=true
  · have A:=gl g;have q:=gr g;rw[eF A]at m;have t:b=a:=by simpa using q
    subst t;refine Vh o m<|bV u (z g) (by simpa using r g) p ?_;rintro e w'⟨s,rfl⟩;refine⟨_,Z,?_⟩;have:=k w' s;rw[eF g]at this;exact this
  · have l:(i&&(b==a))=false:=by simpa using g
    have h:=k w<|bH.refl _ _;rw[l]at h;cases i with
    |true=>exact cz o m (by simpa using l) h
    |false=>exact lV o m h
theorem Wd{f:FuncId}(a:List Value){xs:Array Operand}{q:Array TypeId}{args:List Value}{j dj:Nat}{b c:Bool}(l:(ops[j]?).bind (·.dst)=some dj)(m:ev n env (.tmp dj)=.bool b)(p:QX P f)(i:(b==c)=true->ev n env x=.func (.func f) #[] a.toArray)
    (o:(b==c)=true->xs.toList.map (ev n env)++a=args) (g:Calls P f args.toArray w (fun e w'=>Grow w w'/\e=.returned v))
    (k:∀w',Grow w w'->WL P ops Q rest n (gq env d (gv (b==c) v)) w'):
    WL P ops Q (⟨d,.call {callee:=.value x,args:=xs,argTypes:=q},ty,pos,af,some (j,c)⟩::rest) n env w:=
  NT a true l m p (fun h=>i (by simpa using h)) (fun h=>o (by simpa using h)) g (by simpa using k)
end
open Go.RowKit
section
variable{P:Program}{ops:Array Oper}{Q:Exit->Act->World->Prop}{n:Nat}{env:Nat->Value}{w w' w0:World}{M K:BS}{hp:Nat->Chunk}{rest:List Oper}
 {d:Option Nat} {op:Op} {ty:TypeId} {pos:String} {af:Array Edge} {v:Value} {g:Option (Nat×Bool)} {T:TypeId} {ρ:Operand->Value}
theorem r_cap{x:Operand}{T E:TypeId}{b:Nat}{a:Option Addr}{l c:Nat}(e:SliceOf P T E b)(f:ρ x=.slice a l c):
  (execOp ρ ⟨d,.call {callee:=.builtin .cap,args:= #[x],argTypes:= #[T]},ty,pos,af,g⟩).run P w=.ok (.value (.int .i64 c)) w:=by
 simp[execOp,resolve,invoke,builtin,Builtin.cap_,f,underlying,e.desc,goInt]
theorem Mi(w:World)(t s ty e:TypeId)(i:TypeInfo)(z:Value)(x:P.underlying t=some (.slice e))(p:P.underlying s=some (.int .i64))(u:P.info? e=some i)(y:i.zero=some z)(G:0<i.size)
  (b:Addr) (a c:Nat) (d:List Value) (o:d.length=a*i.size) (holds:∀j v,d[j]? =some v->w.cell? (b.add j)=some v)
  (n:Nat) (I:0<n) (E:c<a+n) (A:((a+n:Nat):Int)<=9223372036854775807) (r:Builtin.nextslicecap (a+n) c*i.bytes<=281474976710656) (C:n*i.bytes<=281474976710656):
  (Builtin.append_ #[t,s] ty #[.slice (some b) a c,.int .i64 n]).run P w=
   .ok (.slice (some ⟨w.heap.size,0,none⟩) (a+n) (grownCap w (a+n) c e))
    (w.drew.alloc (.cells (d.toArray++Builtin.zeroCells z.cells n++Builtin.zeroCells z.cells (grownCap w (a+n) c e-(a+n))) e)):=by
 have hn:¬(a+n<=c):=by omega
 have g:n≠0:=by omega
 have k:¬(9223372036854775807<((a:Int)+(n:Int))):=by omega
 have f:¬(281474976710656<Builtin.nextslicecap (a+n) c*i.bytes):=by omega
 have B:IntKind.i64.wrap (n:Int)=n:=by rw[IntKind.wrap_i64];omega
 have l:¬(281474976710656<(n:Int)*(i.bytes:Int)):=by
  rw[<-Int.natCast_mul];omega
 have h:¬((n:Int)<0):=by omega
 have m:¬(n*i.size=0):=Nat.mul_ne_zero g V;have q:=run_firstCells_some (P:=P) w.drew i.size a b a c d o (by simpa using holds);simp[Builtin.append_,run_underlying x,run_underlying p,sizeOf,typeInfo,zeroValue,u,y,asInt,asIntOf,B,hn,g,h,m,k,f,l,Question.forced,q,newRow,grownCap]
theorem wl_growRaw{x y:Operand}{E s:TypeId}{e c gg cap a k:Nat}{b:List Value}(N:kr P T E e c)(R:P.underlying s=some (.int .i64))(M:Raw w gg cap e E b)(S:ev n env x=.slice (some ⟨gg,0,none⟩) a cap)(X:ev n env y=.int .i64 (k:Nat))(hs:0<e)(I:a<=cap)(hk:0<k)(hg:cap<a+k)
    (hb:(a+k)*c<=140737488355328) (J:a+k<=maxLen)
    (h:∀w' g2 f g,Grow w w'->w.heap.size<=g2->a+k<=f->Raw w' g2 f e E g->g.take (a*e)=b.take (a*e)->WL P ops Q rest n (gq env d (.slice (some ⟨g2,0,none⟩) (a+k) f)) w'):
    WL P ops Q (⟨d,.call {callee:=.builtin .append,args:= #[x,y],argTypes:= #[T,s]},ty,pos,af,none⟩::rest) n env w:=by
  obtain⟨i,z,O,hz,t,m,G⟩:=N.info;have L:a*e<=cap*e:=Nat.mul_le_mul_right _ I;have K:=M.len;have p:(b.take<|a*e).length=a*e:=by rw[List.length_take];omega
  have holds:∀j u,(b.take<|a*e)[j]? =some u->w.cell? ((⟨gg,0,none⟩:Addr).add j)=some u:=by
    intro j u r;rw[addr_add,Nat.zero_add];rw[List.getElem?_take]at r;split at r
    · simp[World.cell?,M.blk,r]
    · cases r
  have A:((a+k:Nat):Int)<=9223372036854775807:=by simp only[maxLen]at J;omega
  have C:Builtin.nextslicecap (a+k) cap<=2*(a+k):=by
    exact nextslicecap_le V
  have q:Builtin.nextslicecap (a+k) cap*i.bytes<=281474976710656:=by
    have:=Nat.mul_le_mul_right i.bytes C;rw[Nat.mul_assoc,m]at this;rw[m];omega
  have B:k*i.bytes<=281474976710656:=by
    rw[m];have:k*c<=(a+k)*c:=Nat.mul_le_mul_right _ V;omega
  have l:=Mi (P:=P) w T s ty E i z N.desc R O hz V ⟨gg,0,none⟩ a cap (b.take (a*e)) (by rw[t];exact p) holds k hk hg A q B;have o:(execOp (ev n env) ⟨d,.call {callee:=.builtin .append,args:= #[x,y],argTypes:= #[T,s]},ty,pos,af,none⟩).run P w=.ok (.value<|.slice (some ⟨w.heap.size,0,none⟩) (a+k)<|grownCap w (a+k) cap E) (w.drew.alloc<|.cells ((b.take<|a*e).toArray++Builtin.zeroCells z.cells k++Builtin.zeroCells z.cells (grownCap w (a+k) cap E-(a+k))) E):=by
    simp only[execOp,resolve,invoke,builtin,Sem.run_bind,Sem.run_pure,Result.andThen_ok,List.map_toArray,List.map_cons,List.map_nil,S,X,l]
  have hge:=grownCap_ge w (a+k) cap E;have v:grownCap w (a+k) cap E<=maxLen:=grownCap_le_maxLen w (a+k) cap E J;refine F o<|h _ _ _ ((b.take<|a*e)++(Builtin.zeroCells z.cells k).toList++(Builtin.zeroCells z.cells<|grownCap w (a+k) cap E-(a+k)).toList) ?_ (Nat.le_refl _) hge ⟨?_,?_,v⟩ ?_
  · exact(Grow.drew w).trans<|Grow.alloc _ _
  · have:=heap_alloc_new w.drew<|.cells ((b.take<|a*e).toArray++Builtin.zeroCells z.cells k++Builtin.zeroCells z.cells (grownCap w (a+k) cap E-(a+k))) E;rw[show((b.take (a*e))++(Builtin.zeroCells z.cells k).toList++(Builtin.zeroCells z.cells (grownCap w (a+k) cap E-(a+k))).toList).toArray=((b.take (a*e)).toArray++Builtin.zeroCells z.cells k++Builtin.zeroCells z.cells (grownCap w (a+k) cap E-(a+k))) by apply Array.ext';simp];exact this
  · rw[List.length_append,List.length_append,p,Array.length_toList,Array.length_toList,size_zeroCells,size_zeroCells,G,<-Nat.add_mul,<-Nat.add_mul];congr 1;omega
  · rw[List.append_assoc,List.take_append_of_le_length V,List.take_of_length_le V]
theorem run_copyN(w:World)(dT s ty e:TypeId)(i:TypeInfo)(g o c f:Nat)(a:Addr)(b h:Nat)(d:Array Value)(t:TypeId)(cs:List Value)
  (q:P.underlying dT=some (.slice e)) (n:P.info? e=some i)
  (p:w.heap[g]? =some (.cells d t (0,0))) (hn:cs.length=Nat.min b c*i.size)
  (k:∀j v,cs[j]? =some v->w.cell? (a.add j)=some v) (l:o+cs.length<=d.size) (r:∀v∈cs,v.oneCell'=true):
  (Builtin.copy_ #[dT,s] ty #[.slice (some ⟨g,o,none⟩) c f,.slice (some a) b h]).run P w=
   .ok (goInt (Nat.min b c)) (w.setRow g (d.toList.take o++cs++d.toList.drop (o+cs.length)).toArray):=by
 have u:=run_loadCells_list (P:=P) w a cs k;have m:=run_storeCells_at P g o t cs 0 d w p (by simpa using l) r;simp[Builtin.copy_,run_underlying q,Builtin.lenOf,Builtin.firstCells,sizeOf,typeInfo,n,<-hn,u,m]
theorem KY{x y:Operand}{E t:TypeId}{b k gg cap o dl dc m c:Nat}{a news:List Value}{ad:Addr}(A:kr P T E b k)(q:Raw w gg cap b E a)(C:ev n env x=.slice (some ⟨gg,o*b,none⟩) dl dc)(I:ev n env y=.slice (some ad) m c)
  (v:news.length=Nat.min m dl*b) (g:∀j u,news[j]? =some u->w.cell? (ad.add j)=some u) (K:∀u∈news,u.oneCell'=true) (p:o+Nat.min m dl<=cap)
  (h:∀w',bH (fun x=>x=gg) w w'->Raw w' gg cap b E (a.take (o*b)++news++a.drop (o*b+news.length))->WL P ops Q rest n (gq env d (.int .i64 (Nat.min m dl:Nat))) w'):
  WL P ops Q (⟨d,.call {callee:=.builtin .copy,args:= #[x,y],argTypes:= #[T,t]},ty,pos,af,none⟩::rest) n env w:=by
 obtain⟨i,z,B,L,r,G,J⟩:=A.info;have f:=q.len;have s:o*b+news.length<=cap*b:=by rw[v,<-Nat.add_mul];exact Nat.mul_le_mul_right _ p
 have e:=run_copyN (P:=P) w T t ty E i gg (o*b) dl dc ad m c a.toArray E news A.desc B q.blk (by rw[r];exact v) g (by simpa[f]using s) K;rw[IA q.blk]at e;have l:(execOp (ev n env) ⟨d,.call {callee:=.builtin .copy,args:= #[x,y],argTypes:= #[T,t]},ty,pos,af,none⟩).run P w=.ok (.value<|.int .i64 (Nat.min m dl:Nat)) (vV w gg<|.cells (a.take (o*b)++news++a.drop (o*b+news.length)).toArray E (0,0)):=by
  simp only[execOp,resolve,invoke,builtin,Sem.run_bind,Sem.run_pure,Result.andThen_ok,List.map_toArray,List.map_cons,List.map_nil,C,I,e];rfl
 refine F l<|h _ (bH.vV _ _ _) ⟨uX<|iF q.blk,?_,q.le⟩;rw[List.length_append,List.length_append,List.length_take,List.length_drop,f];omega
structure OverFn(P:Program)(f:FuncId)(T B:TypeId):Prop where
 out:∀(args:Array Value) (w:World),(callFunc f args).run P w=((Extern.SlicesOverlaps.overlaps #[T,T] #[B] args).run P w).andThen fun v w'=>.ok (.value v) w'
theorem wl_overlaps{x:Operand}{xs:Array Operand}{y:Array TypeId}{f:FuncId}{E B:TypeId}{j e g1 g2 c2 o1 o2 m1 m2 k1 k2:Nat}{c b:List Value}{r:TypeId}(C:OverFn P f T B)(s:kr P T E j e)(o:w.heap[g1]? =some (.cells c.toArray r (0,0)))(p:Raw w g2 c2 j E b)(l:g1≠g2)(q:0<c2*j)
  (u:ev n env x=.func (.func f) #[] #[]) (m:xs.toList.map (ev n env)=[.slice (some ⟨g1,o1,none⟩) m1 k1,.slice (some ⟨g2,o2,none⟩) m2 k2])
  (h:WL P ops Q rest n (gq env d (.bool false)) w):
  WL P ops Q (⟨d,.call {callee:=.value x,args:=xs,argTypes:=y},ty,pos,af,none⟩::rest) n env w:=by
 obtain⟨i,z,t,G,k,v,A⟩:=s.info;have ho:=Lib.run_overlaps_apart (P:=P) w T B E s.desc j (fun w=>by simp[sizeOf,typeInfo,t,k]) ⟨g1,o1,none⟩ ⟨g2,o2,none⟩ m1 k1 m2 k2 l r E c.length b.length (by simp[World.shape?,o]) (by simp[World.shape?,p.blk]) (by rw[p.len];omega) (by simp[World.frozen?,o]) (by simp[World.frozen?,o]);have g:xs.map (ev n env)= #[.slice (some ⟨g1,o1,none⟩) m1 k1,.slice (some ⟨g2,o2,none⟩) m2 k2]:=by
  apply Array.ext';simpa using m
 have a:=C.out #[.slice (some ⟨g1,o1,none⟩) m1 k1,.slice (some ⟨g2,o2,none⟩) m2 k2] w;rw[ho]at a;refine F ?_ h;simp only[execOp,resolve,u,Deferred.ofValue,invoke];simp[g,a]
end
open Go.RowKit
section
variable{β:Type}
theorem ins_l1{C X:List β}{p s:Nat}(a:X.length=s)(hp:p<=C.length):(C.take p++X++C.drop (p+s)).take (p+s)=C.take p++X:=by
 have h:(C.take p++X).length=p+s:=by simp[a];omega
 rw[<-h,List.take_left]
theorem ins_l2{B a R:List β}{p q:Nat}(c:p<=B.length)(b:a.length=q):(B.take p++a++R).take (p+q)=B.take p++a:=by
 have h:(B.take p++a).length=p+q:=by simp[b];omega
 rw[<-h,List.take_left]
theorem ins_l3{C X a R:List β}{p s q:Nat}(g:X.length=s)(hp:p+s<=C.length)(b:a.length=q):
  ((C.take (p+s)++a++R).take p++X++(C.take (p+s)++a++R).drop (p+s)).take (p+s+q)=C.take p++X++a:=by
 have c:(C.take<|p+s).length=p+s:=by simp;omega
 have d:(C.take (p+s)++a++R).take p=C.take p:=by
  rw[List.append_assoc,List.take_append_of_le_length V,List.take_take,Nat.min_eq_left V]
 have f:(C.take (p+s)++a++R).drop (p+s)=a++R:=by
  rw[List.append_assoc];exact List.drop_left' c
 rw[d,f,<-List.append_assoc];have e:(C.take p++X++a).length=p+s+q:=by simp[g,b];omega
 rw[<-e,List.take_left]
end
theorem raw_ins{α:Type}{R:kX α}{E:TypeId}{w w':World}{A N:BS}{l:List α}{x:α}{gg g2 d i:Nat}{c f g:List Value}(K:Raw w' g2 d R.sz E f)(O:bH (fun y=>y=gg) w w')(s:g2<w.heap.size->g2=gg)(P:i<=l.length)(hc:l.length+1<=d)(T:l.length*R.sz<=c.length)
    (v:∀k (h:k<l.length),R.rd w (fun b=>A b\/b=gg) ((c.drop (k*R.sz)).take R.sz) l[k]) (L:R.rd w N g x) (hN:∀b,(A b\/b=gg)->b<w.heap.size->N b) (a0:gg<w.heap.size)
    (S:f.take (i*R.sz+R.sz+(l.length-i)*R.sz)=c.take (i*R.sz)++g++(c.drop (i*R.sz)).take ((l.length-i)*R.sz)):
    cO R E w' A (.slice (some ⟨g2,0,none⟩) (l.length+1) d) (l.take i++[x]++l.drop i):=by
  have e:(l.take i++[x]++l.drop i).length=l.length+1:=by simp;omega
  have o:=R.len L;have Q:i*R.sz<=l.length*R.sz:=Nat.mul_le_mul_right _ P;have n:(l.length-i)*R.sz=l.length*R.sz-i*R.sz:=Nat.sub_mul _ _ _;have q:(c.take<|i*R.sz).length=i*R.sz:=by rw[List.length_take];omega
  have M:(l.length+1)*R.sz=i*R.sz+R.sz+(l.length-i)*R.sz:=by rw[Nat.add_mul,n];omega
  have u:∀cs a,R.rd w (fun b=>A b\/b=gg) cs a->R.rd w' (fun b=>A b\/ob (.slice (some ⟨g2,0,none⟩) (l.length+1) d) b) cs a:=fun cs a h=>
    R.go h O (fun b m _=>.inr m) (fun b m r=>m.elim .inl (fun m=>.inr (by have:b=g2:=m;subst this;exact s r)))
  have J:R.rd w' (fun b=>A b\/ob (.slice (some ⟨g2,0,none⟩) (l.length+1) d) b) g x:=
    R.go L O (fun b m r=>hN b (.inr m) r) (fun b m r=>hN b (m.elim .inl (fun m=>.inr (by have:b=g2:=m;subst this;exact s r))) r)
  refine⟨c.take (i*R.sz)++g++(c.drop<|i*R.sz).take ((l.length-i)*R.sz),⟨?_,.inr ⟨g2,d,f.toArray,?_,Nat.zero_le _,K.blk,?_,K.le,?_,?_⟩⟩,?_⟩
  · rw[e,M,List.length_append,List.length_append,q,o,List.length_take,List.length_drop,n];omega
  · rw[e]
  · rw[e];omega
  · simpa using K.len
  · rw[e,M];exact S
  · intro k z;rw[e]at z;by_cases G:k<i
    · have p:(k+1)*R.sz<=i*R.sz:=Nat.mul_le_mul_right _ G;rw[Nat.add_mul]at p;have C:=u _ _<|v k V;have t:(l.take i++[x]++l.drop i)[k]'(by rw[e];omega)=l[k]'V:=by
        rw[List.getElem_append_left (by simp;omega),List.getElem_append_left (by simp;omega),List.getElem_take]
      rw[t,List.append_assoc,List.drop_append_of_le_length V,List.take_append_of_le_length (by rw[List.length_drop];omega),List.drop_take,List.take_take,Nat.min_eq_left V];exact C
    · by_cases B:k=i
      · subst B;have t:(l.take k++[x]++l.drop k)[k]'(by rw[e];omega)=x:=by
          rw[List.getElem_append_left (by simp;omega),List.getElem_append_right (by simp;omega)];simp
        rw[t,List.append_assoc];have I:(c.take (k*R.sz)++(g++(c.drop<|k*R.sz).take ((l.length-k)*R.sz))).drop (k*R.sz)=g++(c.drop<|k*R.sz).take ((l.length-k)*R.sz):=by
          exact List.drop_left' q
        rw[I,<-o,List.take_left];exact J
      · obtain⟨j,rfl⟩:∃j,k=i+1+j:=⟨k-i-1,by omega⟩;have C:=u _ _<|v (i+j) V;have t:(l.take i++[x]++l.drop i)[i+1+j]'(by rw[e];omega)=l[i+j]'V:=by
          rw[List.getElem_append_right (by simp;omega),List.getElem_drop];congr 1;simp;omega
        have X:(c.take (i*R.sz)++g).length=i*R.sz+R.sz:=by rw[List.length_append,q,o]
        have I:(c.take (i*R.sz)++g++(c.drop<|i*R.sz).take ((l.length-i)*R.sz)).drop ((i+1+j)*R.sz)=((c.drop<|i*R.sz).take ((l.length-i)*R.sz)).drop (j*R.sz):=by
          rw[show(i+1+j)*R.sz=(c.take (i*R.sz)++g).length+j*R.sz by rw[X,Nat.add_mul,Nat.add_mul,Nat.one_mul]];rw[List.drop_append];have:(c.take (i*R.sz)++g).drop ((c.take (i*R.sz)++g).length+j*R.sz)=[]:=List.drop_eq_nil_of_le V;rw[this,List.nil_append];congr 1;omega
        have p:(j+1)*R.sz<=(l.length-i)*R.sz:=Nat.mul_le_mul_right _ V;rw[Nat.add_mul]at p;rw[t,I,List.drop_take,List.take_take,Nat.min_eq_left V,List.drop_drop,<-Nat.add_mul];exact C
def ins1{α:Type}(l:List α)(i:Int)(m:List α):Option (List α):=if 0<=i/\i<=l.length then some (l.take i.toNat++m++l.drop i.toNat)else none
theorem o_ins{α:Type}{l r m:List α}{i:Int}(h:ins1 l i m=some r):∃a:Nat,i=a/\a<=l.length/\r=l.take a++m++l.drop a:=by
  unfold ins1 at h;by_cases hp:0<=i/\i<=l.length
  · rw[if_pos hp]at h;cases h;exact⟨i.toNat,by omega,by omega,Z⟩
  · rw[if_neg hp]at h;cases h
theorem NU{w:World}{gg cap d:Nat}{E:TypeId}{b:List Value}(c:Raw w gg cap d E b)(o k:Nat):∀j u,((b.drop o).take k)[j]? =some u->w.cell? ((⟨gg,o,none⟩:Addr).add j)=some u:=by
  intro j u a;rw[addr_add];rw[List.getElem?_take]at a;split at a
  · rw[List.getElem?_drop]at a;simp[World.cell?,c.blk,a]
  · cases a
theorem cO.srcO{α:Type}{R:kX α}{E:TypeId}{w:World}{A:BS}{v:Value}{l:List α}(h:cO R E w A v l):ed R w BE (fun b=>A b\/ob v b) v l:=by
  obtain⟨xs,d,c⟩:=h;rcases d.2 with⟨rfl,hn⟩|⟨g,cap,cur,rfl,e1,e2,e3,e4,e5,e6⟩
  · have:l=[]:=List.eq_nil_of_length_eq_zero hn;subst this;exact ed.nil
  · refine⟨some ⟨g,0,none⟩,cap,Z,e3,e4,(fun h=>by cases h),fun i a=>⟨g,0,cur,E,(0,0),Z,fun h=>h,e2,?_⟩⟩;have:=c i a;rw[<-e6,List.drop_take,List.take_take,Nat.min_eq_left ?_]at this
    · rw[Nat.zero_add];exact this
    · have:(i+1)*R.sz<=l.length*R.sz:=Nat.mul_le_mul_right _ a;rw[Nat.add_mul]at this;omega
section
variable{P:Program}{ops:Array Oper}{Q:Exit->Act->World->Prop}{n:Nat}{env:Nat->Value}{w:World}{rest:List Oper}
 {d:Option Nat} {ty:TypeId} {pos:String} {af:Array Edge} {v:Value} {T:TypeId} {x y:Operand}
theorem wl_appO{α:Type}{R:kX α}{E:TypeId}{e a:Nat}{A:BS}{u:Value}{l m:List α}(B:kr P T E e a)(t:R.sz=e)(j:cO R E w A v l)(h:ed R w BE A u m)(C:ev n env x=v)(o:ev n env y=u)
  (p:∀b,ob v b->A b) (z:(l.length+m.length)*a<=140737488355328) (i:l.length+m.length<=9223372036854775807)
  (k:∀w' c,cO R E w' A c (l++m)->bH (ob v) w w'->(∀b,ob c b->b<w.heap.size->ob v b)->WL P ops Q rest n (gq env d c) w'):
  WL P ops Q (⟨d,.call {callee:=.builtin .append,args:= #[x,y],argTypes:= #[T,T]},ty,pos,af,none⟩::rest) n env w:=by
 obtain⟨c,w',q,s,f,r⟩:=run_app (d:=d) (ty:=ty) (pos:=pos) (af:=af) (g:=none) B t C j o h p z i;exact F q<|k w' c s f r
end
theorem ins_av{α β:Type}{R:kX α}{R':kX β}{E g:TypeId}{w0 w:World}{M K:BS}{hp:Nat->Chunk}{i j:Nat}{v u:Value}{l:List α}{m:List β}(h:SH w0 M K w hp)(c:i≠j)(d:hp i=.own R E v l)(f:hp j=.own R' g u m):∀b,((M b\/rest hp i b)\/ob v b)->b<w.heap.size->(M b\/rest hp j b)\/ob u b:=by
  rintro b((a|⟨k,n,a⟩)|a)_
  · exact .inl<|.inl a
  · by_cases e:k=j
    · subst e;rw[f]at a;exact .inr a
    · exact .inl<|.inr ⟨k,e,a⟩
  · exact .inl (.inr ⟨i,c,by rw[d];exact a⟩)
open Go.RowKit
section
variable{P:Program}{ops:Array Oper}
variable{Q:Exit->Act->World->Prop}{n:Nat}{env:Nat->Value}{w w0:World}{M K:BS}{hp:Nat->Chunk}
structure VR(P:Program)(ops:Array Oper)(L:BS)(ws:World)(Q:Exit->Act->World->Prop)(fuel:Nat)(listed:Array Bool)(n:Nat)(env:Nat->Value)(w:World):Prop where
 out:wpAnyH P .any ops (NoPanic Q) (bH L ws) fuel listed (act n env) w
theorem jy{L:BS}{id:Nat}{l:List Oper}(a:P.follows .mixedOrders=true)(b:SH w0 M K w hp)
  (h:∀w,SH w0 M K w hp->VR P l.toArray L w Q l.length (Array.replicate l.length false) n env w):WC P (Code.region id l.toArray true) Q n env w:=
 ⟨wp_region_noPanic (wp_region_held (S:=bH L w.drew) a (h _ (b.grow (Grow.drew w))).out)⟩
variable{d:Option Nat}{op:Op}{ty:TypeId}{pos:String}{af:Array Edge}{v:Value}{g:Option (Nat×Bool)}{i fuel:Nat}{listed:Array Bool}
theorem whk_first{L:BS}{ws:World}{o:Oper}(b:bH L ws w)(d:ops[i]? =some o)(c:Region.noSelect ops=true)(f:Region.free .any ops listed i=true)(e:(Region.ready .any ops listed).contains i=true)
  (a:YieldsIf P ops (bH L ws) o v (act n env)) (h:VR P ops L ws Q fuel (listed.setIfInBounds i true) n (gq env o.dst v) w):VR P ops L ws Q (fuel+1) listed n env w:=by
 refine⟨wpAnyH_take d c f e (fun _ _ _ h=>h) a b ?_⟩;rw[Ec];exact h.out
theorem whk_ok{L:BS}{ws:World}(i:Nat)(e:bH L ws w)(j:ops[i]? =some ⟨d,op,ty,pos,af,g⟩)(k:Region.wanted ⟨d,op,ty,pos,af,g⟩ (yielded ops (act n env).tmps)=true)(f:Region.noSelect ops=true)(l:Region.free .any ops listed i=true)(m:(Region.ready .any ops listed).contains i=true)
  (b:∀a,bH L ws a->(execOp (ev n env) ⟨d,op,ty,pos,af,g⟩).run P a=.ok (.value v) a) (h:VR P ops L ws Q fuel (listed.setIfInBounds i true) n (gq env d v) w):VR P ops L ws Q (fuel+1) listed n env w:=
 whk_first (o:=⟨d,op,ty,pos,af,g⟩) e j f l m (.inl ⟨k,fun a c=>by rw[gJ];exact b a c⟩) h
theorem whk_done{L:BS}{ws:World}(a:Region.ready .any ops listed=[])(h:Q .normal (act n env) w):VR P ops L ws Q fuel listed n env w:=⟨wpAnyH_done a (NoPanic.normal h) fuel⟩
def SV(P:Program)(ops:Array Oper)(L:BS)(ws:World)(Q:Exit->Act->World->Prop)(fuel:Nat)(listed:Array Bool):Exit->Act->World->Prop:=
 selK (fun a' w'=>bH L ws w'/\wpAnyH P .any ops (NoPanic Q) (bH L ws) fuel listed a' w') (NoPanic Q)
theorem au{L:BS}{ws:World}(a:bH L ws w)(h:VR P ops L ws Q fuel listed n env w):SV P ops L ws Q fuel listed .normal (act n env) w:=⟨a,h.out⟩
theorem whk_eff{L:BS}{ws:World}(i:Nat)(e:Region.ready .any ops listed=[i])(a:ops[i]? =some ⟨d,op,ty,pos,af,g⟩)(b:Region.wanted ⟨d,op,ty,pos,af,g⟩ (yielded ops (act n env).tmps)=true)
  (h:WL P ops (SV P ops L ws Q fuel (listed.setIfInBounds i true)) [⟨d,op,ty,pos,af,none⟩] n env w):VR P ops L ws Q (fuel+1) listed n env w:=by
 refine⟨wpAnyH_all e zq3 fun k c=>?_⟩;obtain rfl:k=i:=by simpa using c
 exact GG a b h
theorem ja{L:BS}{ws:World}{f:Option Nat}{b:Op}{e:TypeId}{a:String}{c:Array Edge}{o:Option (Nat×Bool)}(i j:Nat)(t:Region.ready .any ops listed=[i,j])(p:ops[i]? =some ⟨d,op,ty,pos,af,g⟩)(r:Region.wanted ⟨d,op,ty,pos,af,g⟩ (yielded ops (act n env).tmps)=true)
    (s:ops[j]? =some ⟨f,b,e,a,c,o⟩) (l:Region.wanted ⟨f,b,e,a,c,o⟩ (yielded ops (act n env).tmps)=true)
    (h:WL P ops (SV P ops L ws Q fuel (listed.setIfInBounds i true)) [⟨d,op,ty,pos,af,none⟩] n env w) (q:WL P ops (SV P ops L ws Q fuel (listed.setIfInBounds j true)) [⟨f,b,e,a,c,none⟩] n env w):VR P ops L ws Q (fuel+1) listed n env w:=by
  refine⟨wpAnyH_all t zq3 fun k m=>?_⟩;rcases List.mem_cons.1 m with rfl|m
  · exact GG p r h
  · obtain rfl:k=j:=by simpa using m
    exact GG s l q
end
theorem bH.Fh{a b c:World}{L N:BS}(h:bH L a b)(k:bH N b c)(hN:∀x,N x->a.heap.size<=x):bH L a c:=h.step k (fun x d e=>by have:=hN x d;omega)
theorem bH.same{a b c:World}{L:BS}(h:bH L a b)(k:bH L b c):bH L a c:=h.step k (fun _ d _=>d)
section
variable{P:Program}{ops:Array Oper}{Q:Exit->Act->World->Prop}{n:Nat}{env:Nat->Value}{w w' w0:World}{M K:BS}{hp:Nat->Chunk}{rest:List Oper}
 {d:Option Nat} {op:Op} {ty:TypeId} {pos:String} {af:Array Edge} {v:Value} {g:Option (Nat×Bool)} {T:TypeId} {ρ:Operand->Value} {x y:Operand}
theorem w_stOG{α:Type}{R:kX α}{E:TypeId}{I:Nat}{l:List α}{k:Int}{a a':α}{b off:Nat}{z u:Value}(h:SH w0 M K w hp)(i:Nat)(r:hp i=.own R E u l)(G:ob u b)(X:R.sz=I)(s:l[k.toNat]? =some a)(hT:One P T z)(c:ev n env x=.pointer (some ⟨b,k.toNat*I+off,none⟩))
    (hy:ev n env y=v) (h1:v.oneCell'=true) (p:Nat.blt off I=true) (hset:∀cs,R.rd w (SH.A M hp) cs a->R.rd w (SH.A M hp) (cs.set off v) a')
    (kk:∀w',SH w0 M K w' (bX hp i (.own R E u (l.set k.toNat a')))->bH (ob u) w w'->WL P ops Q rest n (gq env d undef) w'):
    WL P ops Q (⟨d,.store T x y,ty,pos,af,none⟩::rest) n env w:=by
  subst X;rw[Nat.blt_eq]at p;have f:k.toNat<l.length:=by
    rcases Nat.lt_or_ge k.toNat l.length with h|h
    · exact h
    · rw[List.getElem?_eq_none h]at s;cases s
  have B:l[k.toNat]=a:=by rw[List.getElem?_eq_getElem f]at s;exact Option.some.inj s
  generalize k.toNat=k at*;have e:∀b,ob u b->SH.A M hp b:=fun b G=>.inr ⟨i,by rw[r];exact G⟩;obtain⟨xs,O,q3⟩:=h.bF i r;rcases O.2 with⟨rfl,hn⟩|⟨g',cap,cur,rfl,e1,e2,e3,e4,e5,e6⟩
  · omega
  have C:b=g':=G;subst C;have t:(k+1)*R.sz<=l.length*R.sz:=Nat.mul_le_mul_right _ f;have a0:l.length*R.sz<=cap*R.sz:=Nat.mul_le_mul_right _ e3;rw[Nat.add_mul]at t;have J:k*R.sz+off<cur.size:=by omega
  have g:=bH.vV w b<|.cells (cur.setIfInBounds (k*R.sz+off) v) E (0,0);refine Al (QV hT c e2 J hy h1) (kk _ (h.step i g (fun x c _=>by rw[r];exact c) (fun x c _=>by rw[r];exact c) ⟨xs.set (k*R.sz+off) v,⟨?_,.inr ⟨b,cap,cur.setIfInBounds (k*R.sz+off) v,?_,e1,?_,?_,e4,?_,?_⟩⟩,?_⟩) (g.weaken (fun x c _=>c)))
  · rw[List.length_set,List.length_set];exact O.1
  · rw[List.length_set]
  · rw[uX (iF e2)]
  · rw[List.length_set];exact e3
  · simpa using e5
  · rw[List.length_set,Array.toList_setIfInBounds,List.take_set,e6]
  · intro m L;have N:m<l.length:=by rwa[List.length_set]at L
    have o:=fun cs a(h:R.rd w (SH.A M hp) cs a)=>R.go (A':=fun x=>(M x\/(SH.av hp i (.own R E (.slice (some ⟨b,0,none⟩) l.length cap) (l.set k a'))) x)\/ob (.slice (some ⟨b,0,none⟩) l.length cap) x) h g (fun x c _=>e x c) (fun x c _=>by
      rcases c with(c|c|c)|c
      · exact .inl c
      · exact .inr<|lg c
      · exact e x c
      · exact e x c)
    have S:=fun j(hj:j<l.length)=>R.go (A':=SH.A M hp) (q3 j hj) (bH.refl BE w) (fun _ h=>h.elim) fun x c _=>.inl c;by_cases q:m=k
    · subst q;rw[List.getElem_set_self,OY rfl];exact o _ _<|hset _<|B▸S m f
    · rw[List.getElem_set_ne (Ne.symm q),Mx]
      · exact o _ _<|S m N
      · rcases Nat.lt_or_ge k m with h5|h5
        · left;have:(k+1)*R.sz<=m*R.sz:=Nat.mul_le_mul_right _ h5;rw[Nat.add_mul]at this;omega
        · right;have:(m+1)*R.sz<=k*R.sz:=Nat.mul_le_mul_right _ V;rw[Nat.add_mul]at this;omega
end
open Go.RowKit
section
variable{w0 w:World}{M K:BS}{hp:Nat->Chunk}{α:Type}{R:kX α}
theorem SH.gL(h:SH w0 M K w hp)(i:Nat):SH w0 M K w (bX hp i .no):=h.step i (bH.refl BE w) (fun _ h=>h.elim) (fun _ h=>h.elim) U
variable{P:Program}{T T2 ty:TypeId}{ρ:Operand->Value}{d:Option Nat}{pos:String}{af:Array Edge}{g:Option (Nat×Bool)}{x y:Operand}{v:Value}{A:BS}{o:Option α}
def PtrTo(P:Program)(T:TypeId):Prop:=∃E,P.underlying T=some (.pointer E)
theorem PtrTo.p(a:PtrTo P T):P.underlying T=some (.pointer (P.pointee T)):=by
 obtain⟨E,a⟩:=a;simp[Program.pointee,a]
end
open Go.RowKit
def Chunk.Q3:Chunk->Prop
 | .sr .. =>False
 | .pt .. =>False
 | .two a b=>a.Q3/\b.Q3
 |_=>True
theorem Chunk.re{c:Chunk}{w:World}{M O i j:BS}(e:c.Q3)(h:c.holds w M O)(d:∀b,i b\/j b->b<w.heap.size->M b\/O b):c.holds w i j:=by
 induction c with
 |no=>trivial
 |rd R v l=>exact ed.sub h d d
 |sr R v l=>exact e.elim
 |pt b o cs=>exact e.elim
 |blk b cs=>exact h
 |own R E v l=>exact cO.go h (bH.refl BE w) (fun _ h=>h.elim) (fun _ h=>h.elim) (fun b f g=>.inl (d b f g))
 |rp R v x=>exact R.go h (bH.refl BE w) (fun _ h=>h.elim) d
 |two a b iha ihb=>exact⟨iha e.1 h.1,ihb e.2 h.2.1,h.2.2⟩
 |eT S=>exact S.go h (bH.refl BE w) (fun _ h=>h.elim) (fun _ h=>h.elim) (fun b f g=>.inl (d b f g))
 |mp b jW=>exact h
section
variable{w0 w w':World}{M K:BS}{hp:Nat->Chunk}
theorem SH.pair(h:SH w0 M K w hp)(i j:Nat)(k:i≠j):SH w0 M K w (bX (bX hp j .no) i (.two (hp i) (hp j))):=by
  have c:∀x b,(bX (bX hp j .no) i (.two (hp i)<|hp j) x).own' b->(x=i/\((hp i).own' b\/(hp j).own' b))\/(x≠i/\x≠j/\(hp x).own' b):=by
    intro x b a;by_cases e:x=i
    · subst e;rw[dm]at a;exact .inl ⟨Z,a⟩
    · rw[fu e]at a;by_cases f:x=j
      · subst f;rw[dm]at a;exact a.elim
      · rw[fu f]at a;exact .inr ⟨e,f,a⟩
  have d:∀b,iG (bX (bX hp j .no) i<|.two (hp i)<|hp j) b->iG hp b:=by
    rintro b⟨x,l⟩;rcases c x b l with⟨_,h1|h1⟩|⟨_,_,h1⟩
    · exact⟨i,h1⟩
    · exact⟨j,h1⟩
    · exact⟨x,h1⟩
  refine⟨h.keep,h.ltM,fun x b a=>?_,fun x=>?_,fun x y g b l m=>?_,fun x b a=>?_⟩
  · rcases c x b a with⟨_,h1|h1⟩|⟨_,_,h1⟩
    · exact h.apM i b h1
    · exact h.apM j b h1
    · exact h.apM x b h1
  · by_cases e:x=i
    · subst e;rw[dm];exact⟨Chunk.sub (h.ok x) fun b a _=>d b a,Chunk.sub (h.ok j) fun b a _=>d b a,fun b a=>h.apart x j k b a⟩
    · rw[fu e];by_cases f:x=j
      · subst f;rw[dm];trivial
      · rw[fu f];exact Chunk.sub (h.ok x) (fun b a _=>d b a)
  · rcases c x b l with⟨e1,h1⟩|⟨e1,e1',h1⟩<;>rcases c y b m with⟨f,h2⟩|⟨f,e2',h2⟩
    · exact g<|e1.trans f.symm
    · rcases h1 with h1|h1
      · exact h.apart i y (fun e=>f e.symm) b h1 h2
      · exact h.apart j y (fun e=>e2' e.symm) b h1 h2
    · rcases h2 with h2|h2
      · exact h.apart x i e1 b h1 h2
      · exact h.apart x j e1' b h1 h2
    · exact h.apart x y g b h1 h2
  · rcases c x b a with⟨_,h1|h1⟩|⟨_,_,h1⟩
    · exact h.old i b h1
    · exact h.old j b h1
    · exact h.old x b h1
theorem SH.unpair{a c:Chunk}(h:SH w0 M K w hp)(i j:Nat)(r:i≠j)(p:hp i=.two a c)(t:hp j=.no):SH w0 M K w (bX (bX hp i a) j c):=by
  have g:∀x b,(bX (bX hp i a) j c x).own' b->(x=i/\a.own' b)\/(x=j/\c.own' b)\/(x≠i/\x≠j/\(hp x).own' b):=by
    intro x b d;by_cases e:x=j
    · subst e;rw[dm]at d;exact .inr (.inl ⟨Z,d⟩)
    · rw[fu e]at d;by_cases f:x=i
      · subst f;rw[dm]at d;exact .inl ⟨Z,d⟩
      · rw[fu f]at d;exact .inr (.inr ⟨f,e,d⟩)
  have o:∀b,a.own' b->(hp i).own' b:=fun b d=>by rw[p];exact .inl d
  have n:∀b,c.own' b->(hp i).own' b:=fun b d=>by rw[p];exact .inr d
  have l:∀b,iG (bX (bX hp i a) j c) b->iG hp b:=by
    rintro b⟨x,q⟩;rcases g x b q with⟨_,h1⟩|⟨_,h1⟩|⟨_,_,h1⟩
    · exact⟨i,o b h1⟩
    · exact⟨i,n b h1⟩
    · exact⟨x,h1⟩
  have k:=h.ok i;rw[p]at k;refine⟨h.keep,h.ltM,fun x b d=>?_,fun x=>?_,fun x y m b q s=>?_,fun x b d=>?_⟩
  · rcases g x b d with⟨_,h1⟩|⟨_,h1⟩|⟨_,_,h1⟩
    · exact h.apM i b<|o b h1
    · exact h.apM i b<|n b h1
    · exact h.apM x b h1
  · by_cases e:x=j
    · subst e;rw[dm];exact Chunk.sub k.2.1 (fun b d _=>l b d)
    · rw[fu e];by_cases f:x=i
      · subst f;rw[dm];exact Chunk.sub k.1 (fun b d _=>l b d)
      · rw[fu f];exact Chunk.sub (h.ok x) (fun b d _=>l b d)
  · rcases g x b q with⟨e1,h1⟩|⟨e1,h1⟩|⟨e1,e1',h1⟩<;>rcases g y b s with⟨f,h2⟩|⟨f,h2⟩|⟨f,e2',h2⟩
    · exact m<|e1.trans f.symm
    · exact k.2.2 b h1 h2
    · exact h.apart i y (fun e=>f e.symm) b (o b h1) h2
    · exact k.2.2 b h2 h1
    · exact m<|e1.trans f.symm
    · exact h.apart i y (fun e=>f e.symm) b (n b h1) h2
    · exact h.apart x i e1 b h1<|o b h2
    · exact h.apart x i e1 b h1<|n b h2
    · exact h.apart x y m b h1 h2
  · rcases g x b d with⟨_,h1⟩|⟨_,h1⟩|⟨_,_,h1⟩
    · exact h.old i b<|o b h1
    · exact h.old i b<|n b h1
    · exact h.old x b h1
theorem SH.lendC(h:SH w0 M K w hp)(i:Nat)(d:(hp i).Q3):(hp i).holds w (fun b=>M b\/rest hp i b) (hp i).own'/\(∀b,(hp i).own' b->¬(M b\/rest hp i b))/\(∀b,(M b\/rest hp i b)->b<w.heap.size):=by
  refine⟨Chunk.re d (h.ok i) fun b a _=>?_,fun b a c=>?_,fun b a=>?_⟩
  · rcases a with(a|a)|a
    · exact .inl a
    · exact .inr<|lg a
    · exact .inr ⟨i,a⟩
  · rcases c with c|⟨j,hj,c⟩
    · exact h.apM i b a c
    · exact h.apart j i hj b c a
  · rcases a with a|⟨j,_,a⟩
    · exact Nat.lt_of_lt_of_le (h.ltM b a) h.keep.size
    · exact Chunk.lt (h.ok j) b a
theorem SH.givenC{C:Chunk}(h:SH w0 M K w hp)(i:Nat)(e:C.Q3)(c:C.holds w' (fun b=>M b\/rest hp i b) C.own')(d:bH (hp i).own' w w')(hn:∀b,C.own' b->b<w.heap.size->(hp i).own' b):SH w0 M K w' (bX hp i C):=
  h.step i d (fun _ a _=>a) hn (Chunk.re e c (fun b a _=>by
    rcases a with a|a|a
    · exact .inl<|.inl a
    · exact .inl<|.inr a
    · exact .inr a))
theorem SH.yl{C:Chunk}(m:∀b,M b->b<w.heap.size)(l:C.holds w M C.own')(g:∀b,C.own' b->¬M b):SH w M C.own' w (bX hno 1 C):=by
  have a:∀b,iG (bX hno 1 C) b->C.own' b:=by
    rintro b⟨j,f⟩;by_cases e:j=1
    · subst e;rw[dm]at f;exact f
    · rw[fu e]at f;exact f.elim
  refine⟨bH.refl _ _,m,fun i b c=>g b<|a b ⟨i,c⟩,fun i=>?_,fun i j k b c d=>?_,fun i b c _=>a b ⟨i,c⟩⟩
  · by_cases e:i=1
    · subst e;rw[dm];exact Chunk.sub l (fun b c _=>a b c)
    · rw[fu e];trivial
  · by_cases e:i=1
    · have n:j≠1:=fun h=>k<|e.trans h.symm;rw[fu n]at d;exact d.elim
    · rw[fu e]at c;exact c.elim
theorem SH.outC{C:Chunk}(h:SH w0 M K w hp)(i:Nat)(c:hp i=C)(d:C.Q3):C.holds w M C.own'/\bH K w0 w/\(∀b,C.own' b->b<w0.heap.size->K b):=by
 subst c;exact⟨Chunk.re d (h.ok i) fun b a _=>a.imp id fun a=>⟨i,a⟩,h.keep,h.old i⟩
end
structure Val where
 kind:Int
 n:Int
deriving DecidableEq
def bG:kX Val where
 sz:=2
 rd w A cs x:=cs=[.int .i64 x.kind,.int .i64 x.n]
 len:=by rintro w A cs x rfl;rfl
 one:=by rintro w A cs x rfl u hu;simp only[List.mem_cons,List.not_mem_nil,or_false]at hu;rcases hu with rfl|rfl<;>first|rfl
 pos:=by decide
 go:=fun h _ _ _=>h
structure Tok where
 kind:Int
 n:Int
deriving DecidableEq
def qE:kX Tok where
 sz:=2
 rd w A cs x:=cs=[.int .i64 x.kind,.int .i64 x.n]
 len:=by rintro w A cs x rfl;rfl
 one:=by rintro w A cs x rfl u hu;simp only[List.mem_cons,List.not_mem_nil,or_false]at hu;rcases hu with rfl|rfl<;>first|rfl
 pos:=by decide
 go:=fun h _ _ _=>h
structure fV where
 from_:Int
 iX:Int
 co:Int
 aM:Int
 taken:Bool
 image:List Int
deriving DecidableEq
def eB:kX fV where
 sz:=6
 rd w A cs x:=∃pq,cs=[.int .i64 x.from_,.int .i64 x.iX,.int .i64 x.co,.int .i64 x.aM,.bool x.taken,pq]/\cK di w A pq x.image
 len:=by rintro w A cs x ⟨pq,rfl,h0⟩;rfl
 one:=by rintro w A cs x ⟨pq,rfl,h0⟩ u hu;simp only[List.mem_cons,List.not_mem_nil,or_false]at hu;rcases hu with rfl|rfl|rfl|rfl|rfl|rfl<;>first|rfl|exact h0.one
 pos:=by decide
 go:=by rintro w A cs x w2 A2 K ⟨pq,rfl,h0⟩ hk hK hA;exact⟨_,Z,h0.go hk hK hA⟩
theorem ym{w:World}{A:BS}{cs:List Value}{x:fV}(h:eB.rd w A cs x):∃a,cs=[.int .i64 x.from_,.int .i64 x.iX,.int .i64 x.co,.int .i64 x.aM,.bool x.taken,a]/\cK di w A a x.image:=h
structure Co where
 lI:Int
 aM:Int
 image:List Int
 offered:Int
deriving DecidableEq
def FU:kX Co where
 sz:=4
 rd w A cs x:=∃pq,cs=[.int .i64 x.lI,.int .i64 x.aM,pq,.int .i64 x.offered]/\cK di w A pq x.image
 len:=by rintro w A cs x ⟨pq,rfl,h0⟩;rfl
 one:=by rintro w A cs x ⟨pq,rfl,h0⟩ u hu;simp only[List.mem_cons,List.not_mem_nil,or_false]at hu;rcases hu with rfl|rfl|rfl|rfl<;>first|rfl|exact h0.one
 pos:=by decide
 go:=by rintro w A cs x w2 A2 K ⟨pq,rfl,h0⟩ hk hK hA;exact⟨_,Z,h0.go hk hK hA⟩
theorem lL{w:World}{A:BS}{cs:List Value}{x:Co}(h:FU.rd w A cs x):∃a,cs=[.int .i64 x.lI,.int .i64 x.aM,a,.int .i64 x.offered]/\cK di w A a x.image:=h
structure Rec where
 kind:Int
 co:Int
 aM:Int
 place:Int
 says:List Int
 image:List Int
deriving DecidableEq
def VE:kX Rec where
 sz:=6
 rd w A cs x:=∃Vj,∃pq,cs=[.int .i64 x.kind,.int .i64 x.co,.int .i64 x.aM,.int .i64 x.place,Vj,pq]/\cK di w A Vj x.says/\cK di w A pq x.image
 len:=by rintro w A cs x ⟨Vj,pq,rfl,h0,h1⟩;rfl
 one:=by rintro w A cs x ⟨Vj,pq,rfl,h0,h1⟩ u hu;simp only[List.mem_cons,List.not_mem_nil,or_false]at hu;rcases hu with rfl|rfl|rfl|rfl|rfl|rfl<;>first|rfl|exact h0.one|exact h1.one
 pos:=by decide
 go:=by rintro w A cs x w2 A2 K ⟨Vj,pq,rfl,h0,h1⟩ hk hK hA;exact⟨_,_,Z,h0.go hk hK hA,h1.go hk hK hA⟩
theorem SX{w:World}{A:BS}{cs:List Value}{x:Rec}(h:VE.rd w A cs x):∃b,∃a,cs=[.int .i64 x.kind,.int .i64 x.co,.int .i64 x.aM,.int .i64 x.place,b,a]/\cK di w A b x.says/\cK di w A a x.image:=h
theorem ed.mapR{α:Type}{R R':kX α}{w:World}{B A:BS}{v:Value}{l:List α}(k:R.sz=R'.sz)(h:∀cs x,x∈l->R.rd w A cs x->R'.rd w A cs x)(p:ed R w B A v l):ed R' w B A v l:=by
 obtain⟨a,cap,rfl,q,j,d,f⟩:=p;refine⟨a,cap,Z,q,j,d,fun i c=>?_⟩;obtain⟨b,o,cells,E,e,g,m,n,r⟩:=f i c;refine⟨b,o,cells,E,e,g,m,n,?_⟩;rw[<-k];exact h _ _ (List.getElem_mem c) r
structure df where
 kind:Int
 n:Int
 e:List Tok
 f:List Tok
 a:List df
 b:List df
def vg:Nat->{R:kX df // R.sz=6}
 |0=>⟨{sz:=6,rd:=fun _ _ _ _=>False,len:=fun h=>h.elim,one:=fun h=>h.elim,pos:=by decide,go:=fun h=>h.elim},rfl⟩
 |d+1=>⟨{
  sz:=6
  rd:=fun w A cs x=>∃c j g i,cs=[.int .i64 x.kind,.int .i64 x.n,c,j,g,i]/\cK qE w A c x.e/\cK qE w A j x.f/\cK (vg d).1 w A g x.a/\cK (vg d).1 w A i x.b
  len:=by rintro w A cs x ⟨c,j,g,i,rfl,_⟩;rfl
  one:=by rintro w A cs x ⟨c,j,g,i,rfl,r,q,o,p⟩ u s;simp only[List.mem_cons,List.not_mem_nil,or_false]at s;rcases s with rfl|rfl|rfl|rfl|rfl|rfl<;>first|rfl|exact r.one|exact q.one|exact o.one|exact p.one
  pos:=by decide
  go:=by rintro w A cs x t v K ⟨c,j,g,i,rfl,r,q,o,p⟩ m k l;exact⟨_,_,_,_,Z,r.go m k l,q.go m k l,o.go m k l,p.go m k l⟩},Z⟩
theorem MC:∀(d:Nat) {w:World} {A:BS} {cs:List Value} {x:df},(vg d).1.rd w A cs x->(vg (d+1)).1.rd w A cs x
 |0,_,_,_,_,h=>h.elim
 |d+1,_,_,_,_,h=>by
  obtain⟨b,j,c,i,rfl,e,g,a,f⟩:=h;exact⟨b,j,c,i,Z,e,g,a.mapR ((vg d).2.trans (vg<|d+1).2.symm) fun _ _ _ h=>MC d h,f.mapR ((vg d).2.trans (vg<|d+1).2.symm) fun _ _ _ h=>MC d h⟩
theorem Zr{d a:Nat}(b:d<=a){w:World}{A:BS}{cs:List Value}{x:df}(h:(vg d).1.rd w A cs x):(vg a).1.rd w A cs x:=by
 induction b with
 |refl=>exact h
 |step _ ih=>exact MC _ ih
def iO:kX df where
 sz:=6
 rd w A cs x:=∃d,(vg d).1.rd w A cs x
 len:=by rintro w A cs x ⟨d,h⟩;exact((vg d).1.len h).trans (vg d).2
 one:=by rintro w A cs x ⟨d,h⟩;exact(vg d).1.one h
 pos:=by decide
 go:=by rintro w A cs x w2 A2 K ⟨d,h⟩ hk hK hA;exact⟨d,(vg d).1.go h hk hK hA⟩
theorem max_of{P:Nat->Nat->Prop}(f:∀d a i,d<=a->P d i->P a i):∀n,(∀i,i<n->∃d,P d i)->∃d,∀i,i<n->P d i
  |0,_=>⟨0,fun i b=>absurd b (Nat.not_lt_zero _)⟩
  |n+1,h=>by
    obtain⟨d,g⟩:=max_of f n fun i b=>h i V;obtain⟨a,c⟩:=h n V;refine⟨max d a,fun i b=>?_⟩;by_cases e:i=n
    · subst e;exact f _ _ _ (Nat.le_max_right _ _) c
    · exact f _ _ _ (Nat.le_max_left _ _)<|g i V
theorem We{w:World}{A:BS}{v:Value}{l:List df}(h:cK iO w A v l):∃d,∀e,d<=e->cK (vg e).1 w A v l:=by
 obtain⟨a,cap,rfl,r,t,q,s⟩:=h;have u:=max_of (P:=fun d i=>∀h:i<l.length,∃b o cells E c,a=some ⟨b,o,none⟩/\¬A b/\w.heap[b]? =some (.cells cells E c)/\(vg d).1.rd w A ((cells.toList.drop<|o+i*6).take 6) l[i])
  (fun d e i p hp h=>let ⟨b,o,cells,E,c,f,j,k,g⟩:=hp h;⟨b,o,cells,E,c,f,j,k,Zr p g⟩) l.length
  (fun i m=>by obtain⟨b,o,cells,E,c,f,j,k,d,g⟩:=s i m;exact⟨d,fun _=>⟨b,o,cells,E,c,f,j,k,g⟩⟩)
 obtain⟨d,p⟩:=u;refine⟨d,fun e n=>⟨a,cap,Z,r,t,q,fun i m=>?_⟩⟩;obtain⟨b,o,cells,E,c,f,j,k,g⟩:=p i m m;exact⟨b,o,cells,E,c,f,j,k,by rw[(vg e).2];exact Zr n g⟩
theorem KZ{w:World}{A:BS}{cs:List Value}{x:df}(h:iO.rd w A cs x):∃c j g i,cs=[.int .i64 x.kind,.int .i64 x.n,c,j,g,i]/\cK qE w A c x.e/\cK qE w A j x.f/\cK iO w A g x.a/\cK iO w A i x.b:=by
 obtain⟨d,h⟩:=h;cases d with
 |zero=>exact h.elim
 |succ d=>
  obtain⟨c,j,g,i,rfl,l,o,k,m⟩:=h;exact⟨c,j,g,i,Z,l,o,k.mapR (vg d).2 fun _ _ _ h=>⟨d,h⟩,m.mapR (vg d).2 fun _ _ _ h=>⟨d,h⟩⟩
theorem rStmt_mk{w:World}{A:BS}{cs:List Value}{x:df}(h:∃c j g i,cs=[.int .i64 x.kind,.int .i64 x.n,c,j,g,i]/\cK qE w A c x.e/\cK qE w A j x.f/\cK iO w A g x.a/\cK iO w A i x.b):iO.rd w A cs x:=by
 obtain⟨c,j,g,i,rfl,p,r,l,q⟩:=h;obtain⟨d,m⟩:=We l;obtain⟨o,k⟩:=We q;exact⟨max d o+1,c,j,g,i,Z,p,r,m _<|Nat.le_max_left _ _,k _<|Nat.le_max_right _ _⟩
structure iY where
 params:Int
 locals:Int
 body:List df
def mq:kX iY where
 sz:=3
 rd w A cs x:=∃Vk,cs=[.int .i64 x.params,.int .i64 x.locals,Vk]/\cK iO w A Vk x.body
 len:=by rintro w A cs x ⟨Vk,rfl,h0⟩;rfl
 one:=by rintro w A cs x ⟨Vk,rfl,h0⟩ u hu;simp only[List.mem_cons,List.not_mem_nil,or_false]at hu;rcases hu with rfl|rfl|rfl<;>first|rfl|exact h0.one
 pos:=by decide
 go:=by rintro w A cs x w2 A2 K ⟨Vk,rfl,h0⟩ hk hK hA;exact⟨_,Z,h0.go hk hK hA⟩
theorem Bc{w:World}{A:BS}{cs:List Value}{x:iY}(h:mq.rd w A cs x):∃a,cs=[.int .i64 x.params,.int .i64 x.locals,a]/\cK iO w A a x.body:=h
section
variable{α β σ ρ:Type}
theorem kC{l:List α}{i:Nat}:idx l (i:Int)=l[i]? :=by simp[idx]
theorem wy{l:List α}{i:Nat}(h:i<l.length):idx l (i:Int)=some l[i]:=by rw[kC,List.getElem?_eq_getElem h]
theorem kM{p:Prop} [Decidable p]{x:Option β}(h:p):iA p x=x:=if_pos h
theorem p9{b:Nat}{a:List α}(h:a.length*b<=140737488355328)(c:a.length<=9223372036854775807):clone b a=some a:=by
 unfold clone;exact kM<|Room.mk (by simpa using h) (by simpa using c)
theorem Wh{l:List α}{a b:Nat}(h:a<=b)(c:b<=l.length):sub? l (a:Int) (b:Int)=some ((l.take b).drop a):=by
 unfold sub? cut;rw[if_pos ⟨by omega,by omega,by omega⟩];simp
theorem del_s{l:List α}{a b:Nat}(h:a<b)(c:b<=l.length):del1 l (a:Int) (b:Int)=some (l.take a++l.drop b):=by
 unfold del1;rw[if_pos ⟨by omega,by omega,by omega⟩];simp
theorem one_at{l:List α}{n:Nat}(h:n<l.length):(l.take (n+1)).drop n=[l[n]]:=by
 rw[List.drop_take,List.drop_eq_getElem_cons h,show n+1-n=1 by omega];rfl
def all2(p:α->β->Bool):List α->List β->Bool
 |[],[]=>true
 |x::xs,y::ys=>p x y&&all2 p xs ys
 |_,_=>false
theorem IB [DecidableEq α]{p:α->α->Bool}(hp:∀x y,p x y=decide (x=y)):∀(a b:List α),all2 p a b=decide (a=b)
 |[],[]=>by simp[all2]
 |[],_::_=>by simp[all2]
 |_::_,[]=>by simp[all2]
 |x::xs,y::ys=>by simp[all2,hp,IB hp xs ys]
theorem SY{body:Int->Unit->(Unit->Option Bool)->Option Bool}{c:Unit->Option Bool}(p:α->β->Bool)(a:List α)(b:List β)(k:a.length=b.length)(g:c ()=some true)
  (j:∀(i:Nat) x y nx,a[i]? =some x->b[i]? =some y->body (i:Int) () nx=bif p x y then nx ()else some false):upto body c 0 a.length ()=some (all2 p a b):=by
 have d:∀(m i:Nat),i+m=a.length->upto body c (i:Int) m ()=some (all2 p (a.drop i)<|b.drop i):=by
  intro m;induction m with
  |zero=>
   intro i h;rw[List.drop_eq_nil_of_le V,List.drop_eq_nil_of_le V];exact g
  |succ m ih=>
   intro i h;have e:i<a.length:=by omega
   have f:i<b.length:=by omega
   rw[List.drop_eq_getElem_cons e,List.drop_eq_getElem_cons f];show body (i:Int) () (upto body c ((i:Int)+1) m)=_;rw[j i a[i] b[i] _ (List.getElem?_eq_getElem e) (List.getElem?_eq_getElem f)];cases hp:p a[i] b[i]with
   |true=>simp only[cond_true,all2,hp,Bool.true_and];exact ih (i+1) V
   |false=>simp[all2,hp]
 simpa using d a.length 0 V
theorem K3{body:Int->α->Unit->(Unit->Option Bool)->Option Bool}{c:Unit->Option Bool}(p:α->β->Bool)(a:List α)(b:List β)(j:a.length=b.length)(f:c ()=some true)
  (g:∀(i:Nat) x y nx,b[i]? =some y->body (i:Int) x () nx=bif p x y then nx ()else some false):gU body c 0 a ()=some (all2 p a b):=by
 have d:∀(l:List α) (i:Nat),i+l.length=b.length->gU body c (i:Int) l ()=some (all2 p l<|b.drop i):=by
  intro l;induction l with
  |nil=>
   intro i h;rw[List.drop_eq_nil_of_le (by simp at h;omega)];exact f
  |cons x l ih=>
   intro i h;simp only[List.length_cons]at h;have e:i<b.length:=by omega
   rw[List.drop_eq_getElem_cons e];show body (i:Int) x () (gU body c ((i:Int)+1) l)=_;rw[g i x b[i] _ (List.getElem?_eq_getElem e)];cases hp:p x b[i]with
   |true=>simp only[cond_true,all2,hp,Bool.true_and];exact ih (i+1) V
   |false=>simp[all2,hp]
 simpa using d a 0 V
theorem upto_eachI{body:Int->σ->(σ->ρ)->ρ}{g:Int->α->σ->(σ->ρ)->ρ}{k:σ->ρ}(l:List α)(c:∀(i:Nat) x s nx,l[i]? =some x->body (i:Int) s nx=g (i:Int) x s nx)(s:σ):upto body k 0 l.length s=gU g k 0 l s:=by
 have a:∀(m i:Nat),i+m=l.length->∀s,upto body k (i:Int) m s=gU g k (i:Int) (l.drop i) s:=by
  intro m;induction m with
  |zero=>intro i h s;rw[List.drop_eq_nil_of_le V];rfl
  |succ m ih=>
   intro i h s;have b:i<l.length:=by omega
   rw[List.drop_eq_getElem_cons b];show body (i:Int) s (upto body k ((i:Int)+1) m)=g (i:Int) l[i] s (gU g k ((i:Int)+1)<|l.drop<|i+1);rw[c i l[i] s _ (List.getElem?_eq_getElem b)];congr 1;funext s';exact ih (i+1) V s'
 simpa using a l.length 0 V s
theorem S9{body:Int->Unit->(Unit->ρ)->ρ}{b:Unit->ρ}(p:α->Bool)(a:Int->ρ)(l:List α)(e:∀(i:Nat) x nx,l[i]? =some x->body (i:Int) () nx=bif p x then a i else nx ()):
  upto body b 0 l.length ()=match l.findIdx? p with|some n=>a (n:Int)|none=>b ():=by
 have c:∀(m i:Nat),i+m=l.length->upto body b (i:Int) m ()=match (l.drop i).findIdx? p with|some n=>a ((i+n:Nat):Int)|none=>b ():=by
  intro m;induction m with
  |zero=>intro i h;rw[List.drop_eq_nil_of_le V];rfl
  |succ m ih=>
   intro i h;have d:i<l.length:=by omega
   rw[List.drop_eq_getElem_cons d,List.findIdx?_cons];show body (i:Int) () (upto body b ((i:Int)+1) m)=_;rw[e i l[i] _ (List.getElem?_eq_getElem d)];cases hp:p l[i]with
   |true=>rfl
   |false=>
    simp only[cond_false,Bool.false_eq_true,if_false];have:=ih (i+1) V;rw[show((i+1:Nat):Int)=(i:Int)+1 from rfl]at this;rw[this];cases (l.drop (i+1)).findIdx? p with
    |none=>rfl
    |some n=>simp only[Option.map_some];congr 1;omega
 have:=c l.length 0 V;simp only[List.drop_zero,Nat.zero_add]at this;exact this
theorem del_s1{l:List α}{a:Nat}(h:a<l.length):del1 l (a:Int) ((a:Int)+1)=some (l.take a++l.drop (a+1)):=by
 have:=del_s (l:=l) (a:=a) (b:=a+1) V V;exact this
theorem dT{p:Prop} [Decidable p](h:p):decide p=true:=decide_eq_true h
theorem dF{p:Prop} [Decidable p](h:¬p):decide p=false:=decide_eq_false h
theorem gI{x:Int}{y:Option β}(a: -9223372036854775808<=x:=by omega)(b:x<=9223372036854775807:=by omega):iA (kg x) y=y:=kM (kg.mk a b)
end
open Go.RowKit
def fH:kX UInt8 where
 sz:=1
 rd _ _ cs x:=cs=[.int .u8 (x.toNat:Int)]
 len:=by rintro w A cs x rfl;rfl
 one:=by rintro w A cs x rfl u hu;simp at hu;subst hu;rfl
 pos:=by decide
 go:=fun h _ _ _=>h
def IsErr(v:Value)(b:Bool):Prop:=(b=false/\v=.nilIface)\/(b=true/\∃t p,v=.iface t p)
structure IfaceT(P:Program)(T:TypeId):Prop where
 desc:P.underlying T=some (.interface (P.methodsAt T))
def O0{α:Type}(a:Nat)(k:Int):Option (List α):=iA (0<=k/\k*a<=140737488355328) (some [])
section
variable{P:Program}{ops:Array Oper}{Q:Exit->Act->World->Prop}{n:Nat}{env:Nat->Value}{w w' w0:World}{M K:BS}{hp:Nat->Chunk}{rest:List Oper}
 {d:Option Nat} {op:Op} {ty:TypeId} {pos:String} {af:Array Edge} {v:Value} {g:Option (Nat×Bool)} {T:TypeId} {ρ:Operand->Value} {x y:Operand}
theorem Ta{a b:Str}{T2:TypeId}(e:ρ x=bB a)(c:ρ y=bB b):(execOp ρ ⟨d,.binOp .eql T x y T2,ty,pos,af,g⟩).run P w=.ok (.value (.bool (decide (a=b)))) w:=by
 simp[execOp,binOp,e,c,bB,Op.stringOp,eqGuard];rw[Bool.eq_iff_iff];simp
theorem Po{a b:Str}{T2:TypeId}(e:ρ x=bB a)(c:ρ y=bB b):(execOp ρ ⟨d,.binOp .neq T x y T2,ty,pos,af,g⟩).run P w=.ok (.value (.bool (decide (a≠b)))) w:=by
 simp[execOp,binOp,e,c,bB,Op.stringOp,eqGuard];rw[Bool.eq_iff_iff];simp
theorem tF{a b:Str}{T2:TypeId}(i:ρ x=bB a)(e:ρ y=bB b)(h:a.length+b.length<=9223372036854775807):(execOp ρ ⟨d,.binOp .add T x y T2,ty,pos,af,g⟩).run P w=.ok (.value (bB (a++b))) w:=by
 have c:=run_string_add_sum (P:=P) (w:=w) ⟨a.toArray⟩ ⟨b.toArray⟩ (by simpa[ByteArray.size]using h);have f:(⟨a.toArray⟩++⟨b.toArray⟩:ByteArray)=⟨(a++b).toArray⟩:=by
  apply ByteArray.ext;simp
 rw[f]at c;simp[execOp,binOp,i,e,bB,eqGuard,c]
theorem r_neqnilI{b:Bool}{T2:TypeId}(c:IfaceT P T)(e:ρ x=v)(f:IsErr v b)(a:ρ (.const .nilIface)=.nilIface):(execOp ρ ⟨d,.binOp .neq T x (.const .nilIface) T2,ty,pos,af,g⟩).run P w=.ok (.value (.bool b)) w:=by
  rcases f with⟨rfl,rfl⟩|⟨rfl,t,p,rfl⟩
  · simp[execOp,binOp,e,a,eqGuard,run_equal_nil_nil w T c.desc]
  · simp[execOp,binOp,e,a,eqGuard,run_equal_held_nil w T t p c.desc]
theorem r_eqlnilI{b:Bool}{T2:TypeId}(c:IfaceT P T)(e:ρ x=v)(f:IsErr v b)(a:ρ (.const .nilIface)=.nilIface):(execOp ρ ⟨d,.binOp .eql T x (.const .nilIface) T2,ty,pos,af,g⟩).run P w=.ok (.value (.bool !b)) w:=by
  rcases f with⟨rfl,rfl⟩|⟨rfl,t,p,rfl⟩
  · simp[execOp,binOp,e,a,eqGuard,run_equal_nil_nil w T c.desc]
  · simp[execOp,binOp,e,a,eqGuard,run_equal_held_nil w T t p c.desc]
theorem w_makeSl{α:Type}{R:kX α}{E:TypeId}{c:Nat}{k:Int}{z:Value}{a:α}(h:SH w0 M K w hp)(i:Nat)(C:kr P T E 1 c)(s:One P E z)(t:R.sz=1)(l:0<c)(I:ev n env x=.int .i64 k)(O:ev n env y=.int .i64 k)
    (hk:0<=k/\k*c<=140737488355328) (ha:∀w A,R.rd w A [z] a)
    (S:∀w' u,SH w0 M K w' (bX hp i (.own R E u (List.replicate k.toNat a)))->WL P ops Q rest n (gq env d u) w'):
    WL P ops Q (⟨d,.makeSlice T x y,ty,pos,af,none⟩::rest) n env w:=by
  obtain⟨h0,X⟩:=hk;obtain⟨m,rfl⟩:=Int.eq_ofNat_of_zero_le h0;obtain⟨j,z',r,J,g,o,L⟩:=C.info;have e:=s.info;rw[r]at e;simp only[Option.map_some,Option.some.injEq,Prod.mk.injEq]at e;have N:m<=m*c:=Nat.le_mul_of_pos_right _ l;have a0:m*c<=140737488355328:=by
    have:((m*c:Nat):Int)<=140737488355328:=by rw[Int.natCast_mul];exact X
    omega
  obtain⟨w',hr,ho,G⟩:=run_make_full (P:=P) w 0 T E j z 1 C.desc r e.1 g .i64 .i64 m (by rw[o,Nat.mul_comm];omega) (by unfold maxLen;omega) (Nat.zero_le _);have p:Grow w w':=(Am (v:=.slice none 0 0) G).weaken fun _ h _=>h.elim;have f:(execOp (ev n env) ⟨d,.makeSlice T x y,ty,pos,af,none⟩).run P w=.ok (.value<|.slice (some ⟨w.heap.size,0,none⟩) m m) w':=by
    simp only[execOp,Sem.run_bind,Sem.run_pure,Result.andThen_ok,I,O,hr]
  refine F f<|S w' _<|h.xE i p ⟨(madeCells z.cells<|m*1).toList,?_,?_⟩ ?_
  · rw[t,List.length_replicate];exact ho
  · intro q B;simp only[List.length_replicate]at B;have a1:q<m:=B;rw[t,s.cell,toList_madeCells_one];have:(List.drop (q*1)<|List.replicate (m*1) z).take 1=[z]:=by
      rw[List.drop_replicate,List.take_replicate,show min 1 (m*1-q*1)=1 by omega];rfl
    rw[this];simp only[List.getElem_replicate];exact ha _ _
  · intro b l;have:b=w.heap.size:=l;omega
theorem run_appS{E u:TypeId}{A:BS}{l s:Str}(z:kr P T E 1 1)(N:One P E (.int .u8 0))(B:P.underlying u=some .string)(R:ρ x=v)(hv:cO fH E w A v l)(hy:ρ y=bB s)
    (p:(l.length+s.length)*1<=140737488355328) (hm:l.length+s.length<=9223372036854775807):
    ∃k w',(execOp ρ ⟨d,.call {callee:=.builtin .append,args:= #[x,y],argTypes:= #[T,u]},ty,pos,af,g⟩).run P w=.ok (.value k) w'/\cO fH E w' A k (l++s)/\bH (ob v) w w'/\(∀b,ob k b->b<w.heap.size->ob v b):=by
  obtain⟨xs,ho,hr⟩:=hv;obtain⟨i,z',n,S,f,h,X⟩:=z.info;have a:=N.info;rw[n]at a;simp only[Option.map_some,Option.some.injEq,Prod.mk.injEq]at a;have e:(ByteArray.mk s.toArray).size=s.length:=by simp[ByteArray.size]
  obtain⟨k,w',m,Q,M,O⟩:=Lib.run_append_own_string (P:=P) w 0 T u ty E i z.desc B n a.1 f h v l.length xs ho ⟨s.toArray⟩ (by rw[e];unfold maxLen;omega) (by rw[e];omega) (Nat.zero_le _);have hk:=Am M;have o:xs.length=l.length:=by simpa[fH]using ho.1
  have r:(execOp ρ ⟨d,.call {callee:=.builtin .append,args:= #[x,y],argTypes:= #[T,u]},ty,pos,af,g⟩).run P w=.ok (.value k) w':=by
    simp only[execOp,resolve,invoke,builtin,Sem.run_bind,Sem.run_pure,Result.andThen_ok,List.map_toArray,List.map_cons,List.map_nil,R,hy];rw[show(Builtin.append_ #[T,u] ty #[v,bB s]).run P w=_ from m];rfl
  have J:Lib.strCells ⟨s.toArray⟩=s.map fun b=>Value.int .u8 (b.toNat:Int):=by simp[Lib.strCells]
  refine⟨k,w',r,⟨xs++Lib.strCells ⟨s.toArray⟩,?_,?_⟩,hk,?_⟩
  · rw[List.length_append,<-e];exact Q
  · intro q hq;show List.take 1 (List.drop (q*1) _)=_;rw[Nat.mul_one,J];by_cases t:q<l.length
    · have:=hr q t;have K:List.take 1 (List.drop (q*1) xs)=[.int .u8 (l[q].toNat:Int)]:=this;rw[Nat.mul_one]at K;rw[List.drop_append_of_le_length V,List.take_append_of_le_length (by rw[List.length_drop];omega),K,List.getElem_append_left t]
    · rw[List.length_append]at hq;rw[List.getElem_append_right V,List.drop_append,List.drop_eq_nil_of_le V,List.nil_append,o,List.drop_eq_getElem_cons (by simp;omega)];simp
  · intro b p hl;rcases ho.2 with⟨rfl,hn⟩|⟨gg,cap,cur,rfl,_,hgg,hc,hcm,hcs',htake⟩
    · by_cases C:s.length=0
      · have G:s=[]:=List.eq_nil_of_length_eq_zero C;subst G;have:k=.slice none 0 0:=O.2 ⟨Z,e⟩;subst this;exact p
      · have c:=run_append_nil_string (P:=P) w T u ty E i (.int .u8 0) z.desc B n a.1 ⟨s.toArray⟩ V V (by rw[h];omega);rw[c]at m;cases m;simp[ob]at p;omega
    · by_cases I:l.length+s.length<=cap
      · have L:cur.size=cap:=by simpa[fH]using hcs'
        have c:=Lib.run_append_room_string (P:=P) w T u ty E i z.desc B n f gg l.length cap cur hgg ⟨s.toArray⟩ V V;rw[c]at m;cases m;exact p
      · have holds:∀j u,xs[j]? =some u->w.cell? ((⟨gg,0,none⟩:Addr).add j)=some u:=ho.cells (g:=gg) Z;have c:=Lib.run_append_grow_string (P:=P) w T u ty E i (.int .u8 0) z.desc B n a.1 ⟨gg,0,none⟩ l.length cap xs (by rw[f];simpa using o) holds ⟨s.toArray⟩ V V (by rw[h];exact growslice_fits V V);rw[c]at m;cases m;simp[ob]at p;omega
theorem r_b2s{E e:TypeId}{B A:BS}{l:Str}(i:P.underlying T=some (.slice E))(m:P.underlying E=some (.int .u8))(k:P.underlying e=some .string)(y:ρ x=v)(C:ed fH w B A v l):
    (execOp ρ ⟨d,.convert T e x,ty,pos,af,g⟩).run P w=.ok (.value (bB l)) w:=by
  obtain⟨a,cap,rfl,O,K,I,p⟩:=C;have h:(convert T e<|.slice a l.length cap).run P w=.ok (bB l) w:=by
    cases l with
    |nil=>
      cases a with
      |none=>
        rw[run_convert_bytes_string w T e E none _ _ i m k];simp[Conv.bytesToString,bB];rfl
      |some a=>
        exact run_convert_bytes_back w T e E a cap [] i m k fun j n=>absurd n<|Nat.not_lt_zero _
    |cons c r=>
      obtain⟨b,o,cells,N,J,rfl,_,_,_⟩:=p 0 zq3;refine run_convert_bytes_back w T e E ⟨b,o,none⟩ cap (c::r) i m k fun j n=>?_;obtain⟨b',M,f,L,G,t,_,u,z⟩:=p j n;cases t;have q:List.take 1 (List.drop (o+j*1) f.toList)=[.int .u8 ((c::r)[j].toNat:Int)]:=z;rw[Nat.mul_one]at q;have s:f.toList[o+j]? =some (.int .u8 ((c::r)[j].toNat:Int)):=by
        have:=congrArg (·[0]?) q;simpa[List.getElem?_take,List.getElem?_drop]using this
      rw[addr_add];simpa[World.cell?,u]using s
  simp only[execOp,Sem.run_bind,Sem.run_pure,y,h,Result.andThen_ok]
theorem str_ex(s:Str)(a b:Nat):(ByteArray.mk s.toArray).extract a b=⟨((s.take b).drop a).toArray⟩:=by
 apply ByteArray.ext;simp[ByteArray.data_extract,List.drop_take]
theorem vk(s:Str):(ByteArray.mk s.toArray).size=s.length:=by simp[ByteArray.size]
def subs?(s:Str)(a b:Int):Option Str:=iA (0<=a/\a<=b/\b<=s.length) (some (cut s a b))
theorem r_sls{s:Str}{l k:Option Operand}{a b:Int}(f:P.underlying T=some .string)(r:ρ x=bB s)(j:OV (l.map ρ) a 0)(m:OV (k.map ρ) b s.length)(n:0<=a)(h:a<=b)(t:b<=s.length):
    (execOp ρ ⟨d,.slice T x l k none,ty,pos,af,g⟩).run P w=.ok (.value (bB (cut s a b))) w:=by
  obtain⟨a,rfl⟩:=Int.eq_ofNat_of_zero_le n;obtain⟨b,rfl⟩:=Int.eq_ofNat_of_zero_le<|Int.le_trans n h;have o:a<=b:=by omega
  have q:b<=s.length:=by omega
  have p:cut s (a:Int) (b:Int)=(s.take b).drop a:=by simp[cut]
  have i:(Instr.slice T (bB s) (l.map ρ) (k.map ρ) none).run P w=.ok (bB ((s.take b).drop a)) w:=by
    unfold bB;rcases j with⟨e1,e2⟩|e1<;>rcases m with⟨e3,e4⟩|e3
    · have c:a=0:=by omega
      have e:b=s.length:=by omega
      subst c e;rw[e1,e3,run_slice_string_all w T _ f,str_ex,vk]
    · have c:a=0:=by omega
      subst c;rw[e1,e3,run_slice_string_to_if w T _ _ _ f,if_pos ⟨by omega,by rw[vk];omega⟩,str_ex];simp
    · have e:b=s.length:=by omega
      subst e;rw[e1,e3,run_slice_string_from_if w T _ _ _ f,if_pos ⟨by omega,by rw[vk];omega⟩,str_ex,vk];simp
    · rw[e1,e3,run_slice_string w T _ _ _ _ _ f V V (by rw[vk];omega),str_ex];simp
  rw[p];simp only[execOp,Sem.run_bind,Sem.run_pure,r,Option.map_none,run_sliceAt_string w T _ _ _ _ f,i,Result.andThen_ok]
theorem r_slsE{s r:Str}{i h:Option Operand}{a b:Int}(j:r=cut s a b)(m:P.underlying T=some .string)(n:ρ x=bB s)(e:OV (i.map ρ) a 0)(f:OV (h.map ρ) b s.length)(k:0<=a)(c:a<=b)(l:b<=s.length):
  (execOp ρ ⟨d,.slice T x i h none,ty,pos,af,g⟩).run P w=.ok (.value (bB r)) w:=by
 subst j;exact r_sls m n e f k c l
theorem o_subs{s r:Str}{a b:Int}(h:subs? s a b=some r):0<=a/\a<=b/\b<=s.length/\r=cut s a b:=by
 obtain⟨c,d⟩:=bC h;exact⟨c.1,c.2.1,c.2.2,(Option.some.inj d).symm⟩
theorem Wi{α:Type}{R:kX α}{E c:TypeId}{j a:Nat}{A:BS}{k:Nat}(m:kr P T E j a)(s:R.sz=j)(q:P.underlying c=some (.int .i64))(u:ev n env x=.slice none 0 0)(C:ev n env y=.int .i64 (k:Nat))(G:0<k)(t:0<a)
    (v:k*a<=140737488355328)
    (h:∀w' gg cap,Grow w w'->w.heap.size<=gg->gg<w'.heap.size->k<=cap->cO R E w' A (.slice (some ⟨gg,0,none⟩) 0 cap) ([]:List α)->WL P ops Q rest n (gq env d (.slice (some ⟨gg,0,none⟩) k cap)) w'):
    WL P ops Q (⟨d,.call {callee:=.builtin .append,args:= #[x,y],argTypes:= #[T,c]},ty,pos,af,none⟩::rest) n env w:=by
  obtain⟨i,z,p,r,o,g,f⟩:=m.info;have l:=R.pos;have B:k<=k*a:=Nat.le_mul_of_pos_right _ t;have I:=Lib.run_append_nil_zeros (P:=P) w T c ty E i z .i64 .i64 m.desc q p r k G V V (by rw[g];omega);have b:(execOp (ev n env) ⟨d,.call {callee:=.builtin .append,args:= #[x,y],argTypes:= #[T,c]},ty,pos,af,none⟩).run P w=.ok (.value<|.slice (some ⟨w.heap.size,0,none⟩) k<|grownCap w k 0 E) (w.drew.alloc<|.cells (Builtin.zeroCells z.cells k++Builtin.zeroCells z.cells (grownCap w k 0 E-k)) E):=by
    simp only[execOp,resolve,invoke,builtin,Sem.run_bind,Sem.run_pure,Result.andThen_ok,List.map_toArray,List.map_cons,List.map_nil,u,C,I]
  have hge:=grownCap_ge w k 0 E;have e:grownCap w k 0 E<=maxLen:=grownCap_le_maxLen w k 0 E (by unfold maxLen;omega);refine F b<|h _ _ _ ((Grow.drew w).trans<|Grow.alloc _ _) (Nat.le_refl _) ?_ hge ⟨[],⟨by simp,.inr ⟨w.heap.size,_,_,Z,Nat.zero_le _,heap_alloc_new w.drew _,Nat.zero_le _,e,?_,by simp⟩⟩,fun i h=>absurd h<|Nat.not_lt_zero _⟩
  · show w.heap.size<(w.drew.alloc _).heap.size;rw[alloc_size];exact Nat.lt_succ_self _
  · rw[Array.size_append,size_zeroCells,size_zeroCells,f,s,<-Nat.add_mul];congr 1;omega
end
open Go.RowKit
structure qR(P:Program)(g:Nat)(w:World):Prop where
 pow:Lib.TabIs P w "internal/strconv.uint64pow10" .u64 Lib.pow10Tab
 syn:∃t p,w.var? P "strconv.ErrSyntax" =some #[.iface t p]
 ran:∃t p,w.var? P "strconv.ErrRange" =some #[.iface t p]
 max:∃m,w.cell? ⟨g,0,none⟩=some (.int .i64 m)
 many:P.globals.size<=w.heap.size
 gmax:g<P.globals.size
 asc:∀q,P.globalNamed "strings.asciiSpace" =some q->Lib.TabIs P w "strings.asciiSpace" .u8 Lib.asciiSpaceTab
theorem Wj{P:Program}{s:String}{i:Nat}(h:P.globalNamed s=some i):i<P.globals.size:=by
  unfold Program.globalNamed at h;split at h
  · rename_i g a;cases h;have:i∈(List.range P.globals.size).filter fun g=>(P.globals[g]?).any (·.name==s):=by rw[a];simp
    exact List.mem_range.1 (List.mem_filter.1 this).1
  · cases h
theorem bH.var{P:Program}{K:BS}{w w':World}{s:String}{cs:Array Value}(d:bH K w w')(a:∀b,K b->P.globals.size<=b)(h:w.var? P s=some cs):w'.var? P s=some cs:=by
 unfold World.var? at h⊢;cases hg:P.globalNamed s with
 |none=>simp[hg]at h
 |some g=>
  have e:=Wj hg;simp only[hg,Option.bind_some]at h⊢;cases hb:w.heap[g]? with
  |none=>simp[hb]at h
  |some o=>rw[d.blk hb (fun c=>absurd (a _ c) V)];rw[hb]at h;exact h
theorem qR.Q4{P:Program}{g:Nat}{K:BS}{w w':World}(h:qR P g w)(a:bH K w w')(c:∀b,K b->P.globals.size<=b):qR P g w':=by
 obtain⟨n,⟨l,i,r⟩,⟨t,p,f⟩,⟨m,d⟩,s,j,k⟩:=h;refine⟨a.var c n,⟨l,i,a.var c r⟩,⟨t,p,a.var c f⟩,⟨m,?_⟩,Nat.le_trans s a.size,j,fun q e=>a.var c<|k q e⟩;unfold World.cell? at d⊢;cases hb:w.heap[g]? with
 |none=>simp[hb]at d
 |some o=>rw[a.blk hb (fun e=>absurd (c _ e) V)];rw[hb]at d;exact d
theorem qR.go{P:Program}{g:Nat}{w w':World}(h:qR P g w)(a:Grow w w'):qR P g w':=h.Q4 a (fun _ h=>h.elim)
theorem SH.zT{P:Program}{g:Nat}{w0 w:World}{M K:BS}{hp:Nat->Chunk}{C:Chunk}(h:SH w0 M K w hp)(e:qR P g w0)(a:∀b,K b->P.globals.size<=b)(i:Nat)(d:hp i=C):∀b,C.own' b->P.globals.size<=b:=by
  subst d;intro b c;rcases Nat.lt_or_ge b w0.heap.size with hl|hl
  · exact a b<|h.old i b c hl
  · exact Nat.le_trans e.many hl
theorem Grow.drewN(w:World)(k:Nat):Grow w (w.drewN k):=⟨rfl,rfl,rfl,Nat.le_refl _,fun _ _ _=>rfl⟩
theorem Grow.O0{w:World}{os:Array Obj}:Grow w (Sort.grow w os):=⟨rfl,rfl,rfl,by simp[Sort.grow],fun b _ a=>by simp[Sort.grow,Array.getElem?_append_left a]⟩
def ME(n:Int):Option Str:=iA (kg n) (some (Lib.itoa n))
def IC(s:Str):Option (Int×Bool):=iA (s.length<=281474976710656) (some (match Lib.atoiAll s with| .ok v=>(v,false)| .range=>(Lib.atoiSat s,true)|_=>(0,true)))
def parseS(s:Str):Option (Int×Bool):=iA (s.length<=281474976710656) (some (match Lib.parseIntB 64 s with| .ok v=>(v,false)| .range=>(Lib.intSat 64 s,true)|_=>(0,true)))
def Wl(l:List Str)(a:Str):Option Str:=iA (l.length<=140737488355328/\(Lib.join l a).length<=140737488355328) (some (Lib.join l a))
def Pp(s a:Str):Option (List Str):=iA (s.length<4294967281/\1<=a.length) (some (Lib.split s a))
def cutS(s a:Str):Option (Str×Str×Bool):=iA (s.length<4294967281) (some (Lib.cut s a))
section
variable{P:Program}{g:Nat}{w0:World}{f:FuncId}{M:BS}
theorem itoa_w(c:∀n,-9223372036854775808<=n->n<=9223372036854775807->∀w,Lib.TabIs P w "internal/strconv.uint64pow10" .u64 Lib.pow10Tab->Calls P f #[.int .i64 n] w fun e w'=>e=.returned (.string ⟨(Lib.itoa n).toArray⟩)/\∃k os,w'=Sort.grow (w.drewN k) os)
  (d:qR P g w0) {a:Int} {r:Str} (b:ME a=some r):Calls P f #[.int .i64 a] w0 (fun e w'=>Grow w0 w'/\e=.returned (bB r)):=by
 obtain⟨h,b⟩:=bC b;cases b;refine(c a h.1 h.2 w0 d.pow).mono ?_;rintro e w'⟨rfl,k,os,rfl⟩;exact⟨(Grow.drewN w0 k).trans Grow.O0,Z⟩
theorem bw_grow(w:World)(t:TypeId)(s:ByteArray):Grow w (Lib.bytesWorld w t s):=⟨rfl,rfl,rfl,by rw[Lib.bytesWorld_size];omega,fun b _ a=>Lib.bytesWorld_at_old w t _ b a⟩
theorem atoi_w{o a b:TypeId}{nm:ByteArray}(q:∀s:ByteArray,s.size<=9223372036854775806->∀v,Lib.atoiAll s.data.toList=.ok v->∀w,Calls P f #[.string s] w fun e w'=>e=.returned (.tuple #[.int .i64 v,.nilIface])/\(w'=w\/∃t,w'=Lib.bytesWorld w o t))
    (x:∀s:ByteArray,s.size<=281474976710656->∀e,Lib.atoiAll s.data.toList=e->(∀v,e≠ .ok v)->e≠ .range->∀d p w,w.var? P "strconv.ErrSyntax" =some #[.iface d p]->Calls P f #[.string s] w fun e w'=>∃N,e=.returned (.tuple #[.int .i64 0,.iface a (.pointer (some ⟨N,0,none⟩))])/\w.heap.size<=N/\w'.heap[N]? =some (.cells #[.string nm,.string s,.iface d p] b (0,0))/\Below w.heap.size w w')
    (m:∀s:ByteArray,s.size<=281474976710656->Lib.atoiAll s.data.toList=.range->∀d p w,w.var? P "strconv.ErrRange" =some #[.iface d p]->Calls P f #[.string s] w fun e w'=>∃N,e=.returned (.tuple #[.int .i64 (Lib.atoiSat s.data.toList),.iface a (.pointer (some ⟨N,0,none⟩))])/\w.heap.size<=N/\w'.heap[N]? =some (.cells #[.string nm,.string s,.iface d p] b (0,0))/\Below w.heap.size w w')
    (k:qR P g w0) {s:Str} {r:Int×Bool} (c:IC s=some r):Calls P f #[bB s] w0 (fun e w'=>Grow w0 w'/\∃u,e=.returned (.tuple #[.int .i64 r.1,u])/\IsErr u r.2):=by
  obtain⟨h,c⟩:=bC c;have l:=vk s;cases hq:Lib.atoiAll s with
  |ok v=>
    rw[hq]at c;cases c;refine(q ⟨s.toArray⟩ V v (by simpa using hq) w0).mono ?_;rintro e w'⟨rfl,n⟩;refine⟨?_,_,Z,.inl ⟨Z,Z⟩⟩;rcases n with rfl|⟨t,rfl⟩
    · exact bH.refl _ _
    · exact bw_grow _ _ _
  |range=>
    rw[hq]at c;cases c;obtain⟨t,p,i⟩:=k.ran;refine(m ⟨s.toArray⟩ V (by simpa using hq) t p w0 i).mono ?_;rintro e w'⟨N,rfl,_,_,j⟩;refine⟨Grow.of_below j,.iface a<|.pointer<|some ⟨N,0,none⟩,by simp,.inr ⟨Z,_,_,Z⟩⟩
  |_=>
    rw[hq]at c;cases c;obtain⟨t,p,i⟩:=k.syn;refine(x ⟨s.toArray⟩ V _ (by simpa using hq) (fun v=>by simp) zq3 t p w0 i).mono ?_;rintro e w'⟨N,rfl,_,_,j⟩;exact⟨Grow.of_below j,_,Z,.inr ⟨Z,_,_,Z⟩⟩
theorem rdStr_at{A B:BS}{a:Option Addr}{n c:Nat}{l:List Str}(p:ed tZ w0 B A (.slice a n c) l)(t:0<l.length):∃e o,a=some ⟨e,o,none⟩/\e<w0.heap.size/\∀j x,l[j]? =some x->w0.cell? ⟨e,o+j,none⟩=some (bB x):=by
  obtain⟨a',cap,h,C,G,w,k⟩:=p;cases h;obtain⟨b,o,cells,E,z,rfl,_,r,_⟩:=k 0 t;refine⟨b,o,Z,iF r,fun j x q=>?_⟩;obtain⟨g,f⟩:=List.getElem?_eq_some_iff.1 q;obtain⟨b',I,d,y,u,h,_,s,v⟩:=k j g;cases h;have i:List.take 1 (List.drop (o+j*1) d.toList)=[bB l[j]]:=v;rw[Nat.mul_one]at i;have m:d.toList[o+j]? =some (bB l[j]):=by
    have:=congrArg (·[0]?) i;simpa[List.getElem?_take,List.getElem?_drop]using this
  rw[<-f];simpa[World.cell?,s]using m
theorem join_w(z:∀(a:Option Addr) (c:Nat) (b:ByteArray) (w:World),Calls P f #[.slice a 0 c,.string b] w fun e w'=>e=.returned (.string ⟨#[]⟩)/\w'=w)
    (t:∀(d o c:Nat) (xs:List ByteArray) (b:ByteArray) (w:World),(∀(j:Nat) x,xs[j]? =some x->w.cell? ⟨d,o+j,none⟩=some (.string x))->d<w.heap.size->xs.length<=140737488355328->xs.length<=c->(Lib.join (xs.map (·.data.toList)) b.data.toList).length<=140737488355328->
      Calls P f #[.slice (some ⟨d,o,none⟩) xs.length c,.string b] w fun e w'=>e=.returned (.string ⟨(Lib.join (xs.map (·.data.toList)) b.data.toList).toArray⟩)/\Below w.heap.size w w')
    {v:Value} {A B:BS} {l:List Str} {b r:Str} (m:ed tZ w0 B A v l) (k:Wl l b=some r):Calls P f #[v,bB b] w0 (fun e w'=>Grow w0 w'/\e=.returned (bB r)):=by
  obtain⟨h,k⟩:=bC k;cases k;have i:=m;obtain⟨a,cap,rfl,k1,k2,E,C⟩:=m;cases l with
  |nil=>
    refine(z a cap _ w0).mono ?_;rintro e w'⟨rfl,rfl⟩;exact⟨bH.refl _ _,Z⟩
  |cons x l=>
    obtain⟨d,o,rfl,u,p⟩:=rdStr_at i zq3;have n:((x::l).map fun s=>(⟨s.toArray⟩:ByteArray)).map (·.data.toList)=x::l:=by simp[Function.comp_def]
    have:=t d o cap ((x::l).map fun s=>⟨s.toArray⟩) ⟨b.toArray⟩ w0 (fun j y g=>by
      rw[List.getElem?_map]at g;cases hq:(x::l)[j]? with
      |none=>rw[hq]at g;cases g
      |some s=>rw[hq]at g;cases g;exact p j s hq) u (by simpa using h.1) (by simpa using k1) (by rw[n];simpa using h.2)
    rw[n,List.length_map]at this;refine this.mono ?_;rintro e w'⟨rfl,q⟩;exact⟨Grow.of_below q,by simp[bB]⟩
theorem strs_rd{E:TypeId}{l:List ByteArray}{A:BS}{cells:Array Value}{cap:Nat}(w:World)(i:∀b,A b->b<w.heap.size)(d:l.length<=cap)(m:cap<=maxLen)(a:∀j (h:j<l.length),cells[j]? =some (.string l[j])):cK tZ (w.alloc (.cells cells E)) A (.slice (some ⟨w.heap.size,0,none⟩) l.length cap) (l.map (·.data.toList)):=by
  refine⟨some ⟨w.heap.size,0,none⟩,cap,by simp,by simpa using d,m,(fun h=>by cases h),fun j g=>⟨w.heap.size,0,cells,E,(0,0),Z,?_,NR w _,?_⟩⟩
  · intro k;exact Nat.lt_irrefl _ (i _ k)
  · have f:j<l.length:=by simpa using g
    show List.take 1 (List.drop (0+j*1) cells.toList)=_;have e:=a j f;have c:j<cells.toList.length:=by
      rw[Array.length_toList];rcases Nat.lt_or_ge j cells.size with q|q
      · exact q
      · rw[Array.getElem?_eq_none q]at e;cases e
    rw[Nat.zero_add,Nat.mul_one,List.drop_eq_getElem_cons c];have:cells.toList[j]=.string l[j]:=by
      have:=e;rw[<-Array.getElem?_toList,List.getElem?_eq_getElem c]at this;exact Option.some.inj this
    rw[this];simp[bB]
theorem split_w{E:TypeId}(k:∀(s a:ByteArray) (m:Int) (w:World),s.size<4294967281->w.cell? ⟨g,0,none⟩=some (.int .i64 m)->1<=a.size->
  Calls P f #[.string s,.string a] w fun e w'=>e=.returned (.slice (some ⟨w.heap.size,0,none⟩) (Lib.countB s a+1) (Lib.countB s a+1))/\w'=w.alloc (.cells ((Lib.splitB a 0 (Lib.countB s a) s).map Value.string).toArray E))
  (t:∀b,M b->b<w0.heap.size) (v:qR P g w0) {s a:Str} {r:List Str} (c:Pp s a=some r):Calls P f #[bB s,bB a] w0 (fun e w'=>Grow w0 w'/\∃u,e=.returned u/\cK tZ w' M u r):=by
 obtain⟨h,c⟩:=bC c;cases c;obtain⟨m,n⟩:=v.max;refine(k ⟨s.toArray⟩ ⟨a.toArray⟩ m w0 (by rw[vk];exact h.1) n (by rw[vk];exact h.2)).mono ?_;rintro e w'⟨rfl,rfl⟩;refine⟨Grow.alloc _ _,_,Z,?_⟩;have d:=Lib.splitB_all ⟨a.toArray⟩ (by rw[vk];exact h.2) 0 _ ⟨s.toArray⟩ Z;have p:=Lib.splitB_data ⟨a.toArray⟩ 0 (Lib.countB ⟨s.toArray⟩ ⟨a.toArray⟩) ⟨s.toArray⟩;have i:Lib.countB ⟨s.toArray⟩ ⟨a.toArray⟩=Lib.count s a:=by simp[Lib.countB]
 have o:=Lib.countB_le ⟨a.toArray⟩ (by rw[vk];exact h.2) _ ⟨s.toArray⟩ (Nat.le_refl _);rw[vk]at o;have:=strs_rd (E:=E) (l:=Lib.splitB ⟨a.toArray⟩ 0 (Lib.countB ⟨s.toArray⟩ ⟨a.toArray⟩) ⟨s.toArray⟩) (cap:=Lib.countB ⟨s.toArray⟩ ⟨a.toArray⟩+1) (cells:=((Lib.splitB ⟨a.toArray⟩ 0 (Lib.countB ⟨s.toArray⟩ ⟨a.toArray⟩) ⟨s.toArray⟩).map Value.string).toArray) w0 t (by rw[d];exact Nat.le_refl _) (by unfold maxLen;omega) (fun j q=>by simp[q]);rw[d,p]at this;simpa[Lib.split,i]using this
theorem cut_w(d:∀(s a:ByteArray) (m:Int) (w:World),s.size<4294967281->w.cell? ⟨g,0,none⟩=some (.int .i64 m)->Calls P f #[.string s,.string a] w fun e w'=>e=.returned (.tuple #[.string ⟨(Lib.cut s.data.toList a.data.toList).1.toArray⟩,.string ⟨(Lib.cut s.data.toList a.data.toList).2.1.toArray⟩,.bool (Lib.cut s.data.toList a.data.toList).2.2])/\∃n,w'=w.drewN n)
  (i:qR P g w0) {s a:Str} {r:Str×Str×Bool} (b:cutS s a=some r):Calls P f #[bB s,bB a] w0 (fun e w'=>Grow w0 w'/\e=.returned (.tuple #[bB r.1,bB r.2.1,.bool r.2.2])):=by
 obtain⟨h,b⟩:=bC b;cases b;obtain⟨m,c⟩:=i.max;refine(d ⟨s.toArray⟩ ⟨a.toArray⟩ m w0 (by rw[vk];exact h) c).mono ?_;rintro e w'⟨rfl,n,rfl⟩;exact⟨Grow.drewN _ _,by simp[bB]⟩
end
open Go.RowKit
section
variable{P:Program}{ops:Array Oper}{Q:Exit->Act->World->Prop}{n:Nat}{env:Nat->Value}{w w' w0:World}{M K:BS}{hp:Nat->Chunk}{rest:List Oper}
 {d:Option Nat} {op:Op} {ty:TypeId} {pos:String} {af:Array Edge} {v:Value} {g:Option (Nat×Bool)} {T:TypeId} {ρ:Operand->Value} {x y:Operand} {i fuel:Nat} {listed:Array Bool}
theorem SH.l9{c:Chunk}(h:SH w0 M K w hp)(i:Nat)(e:hp i=c)(d:bH c.own' w w'):SH w0 M K w' (bX hp i .no):=
 h.step i d (fun b a _=>by rw[e];exact a) (fun b a=>a.elim) U
theorem SH.GH{c e:Chunk}(h:SH w0 M K w hp)(i j:Nat)(a:i≠j)(g:hp i=c)(d:hp j=e)(f:bH (fun b=>c.own' b\/e.own' b) w w'):SH w0 M K w' (bX (bX (bX hp j .no) i (.two (hp i) (hp j))) i .no):=by
 refine(h.pair i j a).l9 i (c:=.two (hp i)<|hp j) (dm _ _ _) ?_;rw[g,d];exact f
theorem jI{zs:List Value}(h:SH w0 M K w hp)(i:Nat)(a:wo P T zs)(k:∀w' b,SH w0 M K w' (bX hp i (.blk b zs))->Grow w w'->w.heap.size<=b->WL P ops Q rest n (gq env d (.pointer (some ⟨b,0,none⟩))) w'):WL P ops Q (⟨d,.alloc T,ty,pos,af,none⟩::rest) n env w:=
 F (r_allocN a) (k _ _ (h.newB i zs T) (Grow.alloc _ _) (Nat.le_refl _))
theorem eY{z:Value}{b o:Nat}{cs:List Value}(h:SH w0 M K w hp)(i:Nat)(a:List Value)(c:hp i=.blk b cs)(q:One P T z)(l:ev n env x=.pointer (some ⟨b,o,none⟩))(p:ev n env y=v)(ho:cs.set o v=a)(e:Nat.blt o cs.length=true)(m:v.oneCell'=true)
  (k:∀w',SH w0 M K w' (bX hp i (.blk b a))->bH (fun x=>x=b) w w'->WL P ops Q rest n (gq env d undef) w'):
  WL P ops Q (⟨d,.store T x y,ty,pos,af,none⟩::rest) n env w:=by
 obtain⟨E,j⟩:=h.zK i c;have:=h.putB i c a E;subst ho;have f:=QV (d:=d) (ty:=ty) (pos:=pos) (af:=af) (g:=none) q l j (by rw[Nat.blt_eq]at e;simpa using e) p m;refine Al f<|k _ ?_<|bH.vV _ _ _;simpa using this
theorem ku{zs vs:List Value}{b o:Nat}{cs:List Value}(h:SH w0 M K w hp)(i:Nat)(a:List Value)(e:hp i=.blk b cs)(p:wo P T zs)(j:ev n env x=.pointer (some ⟨b,o,none⟩))(m:ev n env y=.agg vs.toArray)(g:vs.length=zs.length)(ho:KS cs o vs=a)(f:Nat.ble (o+vs.length) cs.length=true)(l:∀v∈vs,v.oneCell'=true)
  (k:∀w',SH w0 M K w' (bX hp i (.blk b a))->bH (fun x=>x=b) w w'->WL P ops Q rest n (gq env d undef) w'):
  WL P ops Q (⟨d,.store T x y,ty,pos,af,none⟩::rest) n env w:=by
 obtain⟨E,c⟩:=h.zK i e;subst ho;exact Al (QW p j c m g (Nat.le_of_ble_eq_true f) l)<|k _ (h.putB i e _ E)<|bH.vV _ _ _
theorem mU{α:Type}{R:kX α}{E:TypeId}{p c:Nat}{u:Value}{l m:List α}(h:SH w0 M K w hp)(i:Nat)(f:hp i=.own R E v l)(r:ed R w BE (SH.A M hp) u m)(G:kr P T E p c)(C:R.sz=p)(I:ev n env x=v)(t:ev n env y=u)
    (a:(l.length+m.length)*c<=140737488355328) (s:l.length+m.length<=9223372036854775807)
    (k:∀w' e,SH w0 M K w' (bX hp i (.own R E e (l++m)))->bH (ob v) w w'->(∀b,ob e b->b<w.heap.size->ob v b)->WL P ops Q rest n (gq env d e) w'):
    WL P ops Q (⟨d,.call {callee:=.builtin .append,args:= #[x,y],argTypes:= #[T,T]},ty,pos,af,none⟩::rest) n env w:=by
  obtain⟨e,w',z,B,j,o⟩:=run_app (d:=d) (ty:=ty) (pos:=pos) (af:=af) (g:=none) G C I (h.bF i f) t r (fun b a=>.inr ⟨i,by rw[f];exact a⟩) a s;refine F z (k w' e (h.step i j (fun b a _=>by rw[f];exact a) (fun b a q=>by rw[f];exact o b a q) ?_) j o);refine cO.go B (bH.refl BE w') (fun _ h=>h.elim) (fun _ h=>h.elim) fun b a _=>?_;rcases a with a|a|a
  · exact .inl<|.inl a
  · exact .inl<|.inr<|lg a
  · exact .inr a
theorem VS{E u:TypeId}{l s:Str}(h:SH w0 M K w hp)(i:Nat)(e:hp i=.own fH E v l)(A:kr P T E 1 1)(o:One P E (.int .u8 0))(j:P.underlying u=some .string)(r:ev n env x=v)(t:ev n env y=bB s)
  (q:(l.length+s.length)*1<=140737488355328) (m:l.length+s.length<=9223372036854775807)
  (k:∀w' a,SH w0 M K w' (bX hp i (.own fH E a (l++s)))->bH (ob v) w w'->(∀b,ob a b->b<w.heap.size->ob v b)->WL P ops Q rest n (gq env d a) w'):
  WL P ops Q (⟨d,.call {callee:=.builtin .append,args:= #[x,y],argTypes:= #[T,u]},ty,pos,af,none⟩::rest) n env w:=by
 obtain⟨a,w',z,p,c,f⟩:=run_appS (d:=d) (ty:=ty) (pos:=pos) (af:=af) (g:=none) A o j r (h.Zo i e) t q m;exact F z<|k w' a (h.given i e p c f) c f
theorem fM{f:Func}{R:Ending->World->Prop}{u a:Tmp}{T:TypeId}{v2:Value}{zs vs:List Value}{b:Nat}(m:f.results= #[.cell a T,.tmp u])(l:ev n env (.tmp a)=.pointer (some ⟨b,0,none⟩))(j:ev n env (.tmp u)=v2)
  (p:SH w0 M K w hp) (i:Nat) (g:hp i=.blk b vs) (o:wo P T zs) (k:vs.length=zs.length) (h:R (.returned (.tuple #[.agg vs.toArray,v2])) w):bodyPost P f R .ret (act n env) w:=by
 refine⟨Z,_,?_,h⟩;have c:=congrFun (gJ n env)<|.tmp u;have d:=congrFun (gJ n env)<|.tmp a;rw[j]at c;rw[l]at d;simp only[Act.eval]at c d;rw[Array.getD_eq_getD_getElem?]at c d;have e:=BJ (P:=P) p g o k Z;unfold results;rw[m];simp[c,d,asAddr,e]
theorem Q5{g:Func}{R:Ending->World->Prop}{t u a:Tmp}{T:TypeId}{v2 v3:Value}{zs vs:List Value}{b:Nat}(o:g.results= #[.cell a T,.tmp t,.tmp u])(l:ev n env (.tmp a)=.pointer (some ⟨b,0,none⟩))(k:ev n env (.tmp t)=v2)(m:ev n env (.tmp u)=v3)
  (r:SH w0 M K w hp) (i:Nat) (j:hp i=.blk b vs) (q:wo P T zs) (p:vs.length=zs.length) (h:R (.returned (.tuple #[.agg vs.toArray,v2,v3])) w):bodyPost P g R .ret (act n env) w:=by
 refine⟨Z,_,?_,h⟩;have d:=congrFun (gJ n env)<|.tmp t;have e:=congrFun (gJ n env)<|.tmp u;have c:=congrFun (gJ n env)<|.tmp a;rw[k]at d;rw[m]at e;rw[l]at c;simp only[Act.eval]at d e c;rw[Array.getD_eq_getD_getElem?]at d e c;have f:=BJ (P:=P) r j q p Z;unfold results;rw[o];simp[d,e,c,asAddr,f]
theorem fin3{e:Func}{R:Ending->World->Prop}{t u a:Tmp}{v1 v2 v3:Value}(j:e.results= #[.tmp t,.tmp u,.tmp a])(g:ev n env (.tmp t)=v1)(i:ev n env (.tmp u)=v2)(f:ev n env (.tmp a)=v3)(h:R (.returned (.tuple #[v1,v2,v3])) w):bodyPost P e R .ret (act n env) w:=by
 refine⟨Z,_,?_,h⟩;have b:=congrFun (gJ n env)<|.tmp t;have c:=congrFun (gJ n env)<|.tmp u;have d:=congrFun (gJ n env)<|.tmp a;rw[g]at b;rw[i]at c;rw[f]at d;simp only[Act.eval]at b c d;rw[Array.getD_eq_getD_getElem?]at b c d;unfold results;rw[j];simp[b,c,d]
theorem At.grow{b o:Nat}{cs:List Value}(h:At w b o cs)(e:Grow w w'):At w' b o cs:=by
 obtain⟨cells,E,a,c,d⟩:=h;exact⟨cells,E,a,e.blk c,d⟩
theorem xw{ws w:World}{v u:Value}(d:ws.heap.size<=w.heap.size)(c:∀b,ob v b->ws.heap.size<=b)(hn:∀b,ob u b->b<w.heap.size->ob v b):∀b,ob u b->ws.heap.size<=b:=
 fun b e=>Nat.le_of_not_lt fun a=>Nat.not_lt_of_le (c b (hn b e (Nat.lt_of_lt_of_le a d))) a
def EffOk(P:Program)(ops:Array Oper)(Q1:Nat->Exit->Act->World->Prop)(n:Nat)(env:Nat->Value)(w:World)(i:Nat):Prop:=
 ∃d op ty pos af g,ops[i]? =some ⟨d,op,ty,pos,af,g⟩/\Region.wanted ⟨d,op,ty,pos,af,g⟩ (yielded ops (act n env).tmps)=true/\WL P ops (Q1 i) [⟨d,op,ty,pos,af,none⟩] n env w
theorem Tc{Q1:Nat->Exit->Act->World->Prop}(i:Nat)(b:ops[i]? =some ⟨d,op,ty,pos,af,g⟩)(a:Region.wanted ⟨d,op,ty,pos,af,g⟩ (yielded ops (act n env).tmps)=true)(h:WL P ops (Q1 i) [⟨d,op,ty,pos,af,none⟩] n env w):EffOk P ops Q1 n env w i:=⟨_,_,_,_,_,_,b,a,h⟩
def EffAll(P:Program)(ops:Array Oper)(Q1:Nat->Exit->Act->World->Prop)(n:Nat)(env:Nat->Value)(w:World):List Nat->Prop
 |[]=>True
 |i::r=>EffOk P ops Q1 n env w i/\EffAll P ops Q1 n env w r
theorem Wm{Q1:Nat->Exit->Act->World->Prop}:∀{l:List Nat},EffAll P ops Q1 n env w l->∀k∈l,EffOk P ops Q1 n env w k
  |i::r,⟨h1,h2⟩,k,hk=>by
    rcases List.mem_cons.1 hk with rfl|hk
    · exact h1
    · exact Wm h2 k hk
theorem whk_effs{L:BS}{ws:World}(l:List Nat)(f:Region.ready .any ops listed=l)(j:l≠[])
  (h:EffAll P ops (fun i=>SV P ops L ws Q fuel (listed.setIfInBounds i true)) n env w l):VR P ops L ws Q (fuel+1) listed n env w:=by
 refine⟨wpAnyH_all f j fun k e=>?_⟩;obtain⟨d,op,ty,pos,af,g,b,c,a⟩:=Wm h k e;exact GG b c a
end
open Go.RowKit Go.ChangeShapes
theorem opens_byte{P:Program}{T:TypeId}(g:P.underlying T=some (.int .u8)):xQ P T fH:=by
 intro a enc w b d fuel cs x h;obtain⟨n,rfl,_,c⟩:=DataW.trod_int g h;simp only[Lit.wf,Bool.and_eq_true,decide_eq_true_eq]at c;have f:0<=n:=c.1;have i:n<=255:=c.2;refine⟨UInt8.ofNat n.toNat,?_⟩;show [Value.int .u8 n]=[.int .u8 ((UInt8.ofNat n.toNat).toNat:Int)];have:(UInt8.ofNat n.toNat).toNat=n.toNat:=by
  have e:n.toNat%256=n.toNat:=Nat.mod_eq_of_lt V;simpa[UInt8.toNat_ofNat']using e
 rw[this,Int.toNat_of_nonneg f]
theorem returns_laid{c:Type}{enc:TypeId×Value->c}{a:Assume}{C:Checked}{os:Os}{f:FuncId}{n:Func}{s:ChangeSpec}{l:List PathCond}{d fresh k again:Bool}{X:World->Array Value->Prop}
  (P:∀(w w':World) (args:Array Value),w.heap=w'.heap->X w args->X w' args)
  (own:ownKnob C.prog.godebug=none) (p:os.Started) (q:C.prog.inits.idxOf? f=none) (I:C.prog.funcs[f]? =some n)
  (o:∃(w:World) (g:Tape) (i:Input),w.os=os/\(w.forCall g i).Shaped C.prog/\i.vars=[]/\Input.okWide C.prog (w.forCall g i) .any w.heap.size f i/\
   ((s.pre enc C.prog n l d (w.forCall g i).memory i.args/\X (w.forCall g i).memory i.args)/\sizedMet enc C.prog n (OpenSpec.ofChange s) d (w.forCall g i).memory i.args)/\a.holds C.prog (lone (Frame.enter C.prog f i.args .normal) [] (w.forCall g i)))
  (m:∀(b:World) (x:Nat) (args:Array Value) (A z:List (DataW c)) (h:List MemPlace),
   (∀(j:Nat) t v,n.params[j]? =some t->args[j]? =some v->Value.okWide C.prog b .any x t v)->
   DataW.Whole enc C.prog n.params.toList s.vars d b args.toList A z h->
   l.all (PathCond.test C.prog ⟨n.params.toList,A,s.plain.varTypes C.prog,z⟩)=true->X b args->b.ShapedOpen C.prog->
   Calls C.prog f args b fun e K=>∃v,e=.returned v/\s.post enc C.prog n d fresh k again b args v K):
  ReturnsInHanded a C os f .any (fun w args=>(s.pre enc C.prog n l d w args/\X w args)/\sizedMet enc C.prog n (OpenSpec.ofChange s) d w args) (s.post enc C.prog n d fresh k again):=by
 refine returnsInHanded_of_calls own p q o ?_;intro w g i _ G _ J u _;obtain⟨_,_,_,B,r,_,_,_,_,y⟩:=J;have e:B=n:=Option.some.inj<|r.symm.trans I;subst e;obtain⟨⟨⟨A,z,h,M,N⟩,L⟩,_⟩:=u;have E:=DataW.Whole.of_heap (w':=w.forCall g i) (by rfl) M;refine(m (w.forCall g i) w.heap.size i.args A z h y E N (P _ _ _ (by rfl) L) G).mono fun e K⟨v,O,hp⟩=>?_;subst O;exact ChangeSpec.post_blind hp
def laidIn(w:World)(g:Nat)(a:Array Value):World:=
 {w with heap:=w.heap.modify g fun| .cells _ t fz=>.cells a t fz|o=>o}
def tabCells:DataW Unit->Array Value
 | .agg l=>(l.map fun| .lit (.int k z)=>Value.int k z|_=>Value.nilIface).toArray
 |_=> #[]
structure gH where
 safe:List UInt8
 wait:List UInt8
deriving DecidableEq
def rDisk:kX gH where
 sz:=2
 rd w A cs x:=∃Ep,∃Er,cs=[Ep,Er]/\cK fH w A Ep x.safe/\cK fH w A Er x.wait
 len:=by rintro w A cs x ⟨Ep,Er,rfl,h0,h1⟩;rfl
 one:=by rintro w A cs x ⟨Ep,Er,rfl,h0,h1⟩ u hu;simp only[List.mem_cons,List.not_mem_nil,or_false]at hu;rcases hu with rfl|rfl<;>first|rfl|exact h0.one|exact h1.one
 pos:=by decide
 go:=by rintro w A cs x w2 A2 K ⟨Ep,Er,rfl,h0,h1⟩ hk hK hA;exact⟨_,_,Z,h0.go hk hK hA,h1.go hk hK hA⟩
theorem rDisk_open{w:World}{A:BS}{cs:List Value}{x:gH}(h:rDisk.rd w A cs x):∃b,∃a,cs=[b,a]/\cK fH w A b x.safe/\cK fH w A a x.wait:=h
theorem puint_app(a:Nat)(c:UInt8):∀(l:Str),Lib.parseUint10 a (l++[c])=match Lib.parseUint10 a l with| .ok m=>Lib.parseUint10 m [c]|e=>e:=by
  intro l;induction l generalizing a with
  |nil=>simp[Lib.parseUint10]
  |cons b r ih=>
    simp only[List.cons_append,Lib.parseUint10];split
    · split
      · rfl
      · split
        · rfl
        · rw[ih];rfl
    · rfl
theorem NV{k:Nat}(h:k<10):(UInt8.ofNat (48+k)).toNat=48+k:=by
 have:(48+k)%256=48+k:=Nat.mod_eq_of_lt V;simpa[UInt8.toNat_ofNat']using this
theorem puint_dec:∀(u:Nat),u<18446744073709551616->Lib.parseUint10 0 (Lib.decDigits u)=.ok u:=by
  intro u;induction u using Nat.strongRecOn with
  |ind u ih=>
    intro b;rw[Lib.decDigits];split
    · rename_i h;simp only[Lib.parseUint10];rw[NV h,if_pos V,if_neg V,if_neg V];congr 1;omega
    · rename_i h;have a:u%10<10:=Nat.mod_lt _ zq1;rw[puint_app,ih (u / 10) V V];simp only[Lib.parseUint10];rw[NV a,if_pos V,if_neg V,if_neg V];congr 1;omega
theorem dec_head:∀(u:Nat),∃c r,Lib.decDigits u=c::r/\48<=c.toNat/\c.toNat<=57:=by
  intro u;induction u using Nat.strongRecOn with
  |ind u ih=>
    rw[Lib.decDigits];split
    · rename_i h;exact⟨_,[],Z,by rw[NV h];omega,by rw[NV h];omega⟩
    · rename_i h;obtain⟨c,r,b,d,a⟩:=ih (u / 10) V;exact⟨c,r++[UInt8.ofNat (48+u%10)],by rw[b];rfl,d,a⟩
theorem Zt:∀(u:Nat),∀c∈Lib.decDigits u,48<=c.toNat/\c.toNat<=57:=by
  intro u;induction u using Nat.strongRecOn with
  |ind u ih=>
    rw[Lib.decDigits];split
    · rename_i h;intro c a;simp only[List.mem_singleton]at a;subst a;rw[NV h];omega
    · rename_i h;have b:u%10<10:=Nat.mod_lt _ zq1;intro c a;rcases List.mem_append.1 a with a|a
      · exact ih (u / 10) V c a
      · simp only[List.mem_singleton]at a;subst a;rw[NV b];omega
theorem itoa_chars(n:Int):∀c∈Lib.itoa n,45<=c.toNat/\c.toNat<=57:=by
  intro c a;unfold Lib.itoa at a;split at a
  · rcases List.mem_cons.1 a with rfl|a
    · decide
    · have:=Zt _ c a;omega
  · have:=Zt _ c a;omega
theorem Zu{n:Int}{c:UInt8}(h:c.toNat<45):c∉Lib.itoa n:=fun a=>by have:=itoa_chars n c a;omega
theorem mag_dec{u:Nat}(h:u<18446744073709551616):Lib.parseMag (Lib.decDigits u)=.ok u:=by
 obtain⟨c,r,a,_,_⟩:=dec_head u;unfold Lib.parseMag;rw[if_neg (by rw[a];simp),puint_dec u h]
theorem atoi_itoa{n:Int}(h:kg n):Lib.atoiAll (Lib.itoa n)=.ok n:=by
  obtain⟨b,f⟩:=h;unfold Lib.itoa;split
  · rename_i hn;unfold Lib.atoiAll;simp only;rw[if_pos (.inr zq1),mag_dec V];simp only;rw[if_neg zq3,if_neg V];simp;omega
  · rename_i hn;obtain⟨c,r,e,a,d⟩:=dec_head n.toNat;rw[e];unfold Lib.atoiAll;simp only;rw[if_neg V,<-e,mag_dec V];simp only;rw[if_neg V,if_neg V,if_neg V];congr 1;omega
def numOf(w:Str):Option Int:=match Lib.atoiAll w with| .ok v=>if Lib.itoa v=w then some v else none|_=>none
theorem numOf_itoa{n:Int}(h:kg n):numOf (Lib.itoa n)=some n:=by simp[numOf,atoi_itoa h]
theorem numOf_some{w:Str}{n:Int}(h:numOf w=some n):w=Lib.itoa n/\kg n:=by
  unfold numOf at h;cases e:Lib.atoiAll w with
  |ok v=>
    rw[e]at h;simp only at h;split at h
    · rename_i a;cases h;have:=Lib.atoiAll_bounds e;exact⟨a.symm,this⟩
    · cases h
  |_=>rw[e]at h;cases h
theorem itoa_len{n:Int}(h:kg n):(Lib.itoa n).length<=21:=Lib.itoa_length_le n h.1 h.2
def jC(c:UInt8):Str->List Str
 |[]=>[[]]
 |b::r=>if b=c then []::jC c r else match jC c r with|x::xs=>(b::x)::xs|[]=>[[b]]
theorem Gn(c:UInt8):∀(s:Str),jC c s≠[]
  |[]=>by simp[jC]
  |b::r=>by
    unfold jC;split
    · simp
    · split<;>simp
theorem IE{c:UInt8}:∀{x:Str},c∉x->jC c x=[x]
 |[],_=>rfl
 |b::r,h=>by
  have a:¬b=c:=fun e=>h (by rw[e];exact List.mem_cons_self);rw[jC,if_neg a,IE (x:=r) (fun e=>h (List.mem_cons_of_mem _ e))]
theorem AJ{c:UInt8}{r:Str}:∀{x:Str},c∉x->jC c (x++c::r)=x::jC c r
 |[],_=>by simp[jC]
 |b::x,h=>by
  have a:¬b=c:=fun e=>h (by rw[e];exact List.mem_cons_self);rw[List.cons_append,jC,if_neg a,AJ (x:=x) (fun e=>h (List.mem_cons_of_mem _ e))]
theorem idx1(c:UInt8):∀(s:Str),(Lib.index s [c]= -1/\c∉s)\/∃x r,s=x++c::r/\c∉x/\Lib.index s [c]=x.length
  |[]=>by left;exact⟨by simp[Lib.index],by simp⟩
  |b::l=>by
    by_cases h:b=c
    · subst h;right;exact⟨[],l,Z,by simp,by simp[Lib.index,List.isPrefixOf]⟩
    · have a:¬c=b:=fun e=>h e.symm;have hp:List.isPrefixOf [c] (b::l)=false:=by simp[List.isPrefixOf,a]
      rcases idx1 c l with⟨h1,h2⟩|⟨x,r,h1,h2,h3⟩
      · left;refine⟨by rw[Lib.index,hp,h1];simp,?_⟩;simp[h2,a]
      · right;refine⟨b::x,r,by rw[h1];rfl,by simp[h2,a],?_⟩;have:¬(Lib.index l [c]== -1)=true:=by rw[h3];simp
        rw[Lib.index,hp,if_neg zq3,if_neg this,h3];simp
theorem splitK_C(c:UInt8):∀(k:Nat) (s:Str),Lib.count s [c]=k->Lib.splitK [c] 0 k s=jC c s:=by
  intro k;induction k with
  |zero=>
    intro s a;rcases idx1 c s with⟨h1,h2⟩|⟨x,r,h1,h2,h3⟩
    · rw[IE h2];rfl
    · rw[Lib.count_hit zq3 h3]at a;omega
  |succ k ih=>
    intro s a;rcases idx1 c s with⟨h1,h2⟩|⟨x,r,h1,h2,h3⟩
    · rw[Lib.count_miss h1]at a;omega
    · have d:¬(Lib.index s [c]== -1)=true:=by rw[h3];simp
      rw[Lib.count_hit zq3 h3]at a;have b:s.drop (x.length+[c].length)=r:=by rw[h1];simp
      rw[Lib.splitK,if_neg d,h3];simp only[Int.toNat_natCast,Nat.add_zero];rw[b]at a⊢;rw[ih r V,h1,AJ h2,List.take_left]
theorem split_C(c:UInt8)(s:Str):Lib.split s [c]=jC c s:=splitK_C c _ s Z
def vo(c:UInt8)(l:List Str):Str:=Lib.join l [c]
theorem Bd(c:UInt8)(x:Str):vo c [x]=x:=Lib.join_one x [c]
theorem yn(c:UInt8)(x y:Str)(l:List Str):vo c (x::y::l)=x++c::vo c (y::l):=by
 unfold vo;rw[Lib.join_cons,Lib.join_cons];simp[Lib.joinTail]
theorem Be(c:UInt8):∀(s:Str),vo c (jC c s)=s
  |[]=>Bd c []
  |b::r=>by
    have a:=Be c r;unfold jC;split
    · rename_i h;subst h;cases e:jC b r with
      |nil=>exact absurd e (Gn b r)
      |cons y l=>rw[yn,<-e,a];rfl
    · split
      · rename_i x xs e;rw[e]at a;cases xs with
        |nil=>rw[Bd]at a⊢;rw[a]
        |cons y l=>rw[yn]at a⊢;rw[List.cons_append,a]
      · rename_i e;exact absurd e<|Gn c r
theorem Vl(c:UInt8):∀(l:List Str),l≠[]->(∀x∈l,c∉x)->jC c (vo c l)=l
 |[],h,_=>absurd Z h
 |[x],_,h=>by rw[Bd];exact IE (h x zq3)
 |x::y::l,_,h=>by
  rw[yn,AJ (h x zq3),Vl c (y::l) zq3 (fun z a=>h z (List.mem_cons_of_mem _ a))]
theorem K4(c:UInt8):∀(s:Str),(jC c s).length<=s.length+1
  |[]=>by simp[jC]
  |b::r=>by
    have a:=K4 c r;unfold jC;split
    · simp;omega
    · split
      · rename_i x xs e;rw[e]at a;simp at a⊢;omega
      · simp
theorem Dr(c:UInt8):∀(s x:Str),x∈jC c s->x.length<=s.length/\c∉x
  |[],x,h=>by simp[jC]at h;subst h;simp
  |b::r,x,h=>by
    unfold jC at h;split at h
    · rcases List.mem_cons.1 h with rfl|h
      · simp
      · have:=Dr c r x h;exact⟨by simp;omega,this.2⟩
    · rename_i d;split at h
      · rename_i y f e;rcases List.mem_cons.1 h with rfl|h
        · have:=Dr c r y (by rw[e];exact List.mem_cons_self);refine⟨by simp;exact this.1,?_⟩;intro a;rcases List.mem_cons.1 a with a|a
          · exact d a.symm
          · exact this.2 a
        · have:=Dr c r x (by rw[e];exact List.mem_cons_of_mem _ h);exact⟨by simp;omega,this.2⟩
      · rename_i e;exact absurd e<|Gn c r
theorem Td(c:UInt8)(m:Nat):∀(l:List Str),(∀x∈l,x.length<=m)->(vo c l).length<=l.length*(m+1)
 |[],_=>by simp[vo,Lib.join_nil]
 |[x],h=>by rw[Bd];have:=h x zq3;simp;omega
 |x::y::l,h=>by
  have b:=h x zq3;have d:=Td c m (y::l) fun z a=>h z<|List.mem_cons_of_mem _ a;rw[yn,List.length_append,List.length_cons,List.length_cons,Nat.succ_mul];omega
def Vm(c:UInt8)(s:Str):Option (List Int):=(jC c s).mapM numOf
theorem mapM_num_of{l:List Int}(h:∀x∈l,kg x):(l.map Lib.itoa).mapM numOf=some l:=by
 induction l with
 |nil=>rfl
 |cons x l ih=>
  rw[List.map_cons,List.mapM_cons,numOf_itoa (h x zq3),ih (fun y a=>h y (List.mem_cons_of_mem _ a))];rfl
theorem Jg:∀{w:List Str} {l:List Int},w.mapM numOf=some l->w=l.map Lib.itoa/\∀x∈l,kg x
  |[],l,h=>by cases h;exact⟨Z,by simp⟩
  |x::w,l,h=>by
    rw[List.mapM_cons]at h;cases e:numOf x with
    |none=>rw[e]at h;cases h
    |some v=>
      rw[e]at h;cases e2:w.mapM numOf with
      |none=>rw[e2]at h;cases h
      |some m=>
        rw[e2]at h;cases h;obtain⟨c,f⟩:=Jg e2;obtain⟨b,d⟩:=numOf_some e;refine⟨by rw[List.map_cons,<-c,<-b],?_⟩;intro y a;rcases List.mem_cons.1 a with rfl|a
        · exact d
        · exact f y a
theorem nums_join{c:UInt8}(a:c.toNat<45){l:List Int}(b:l≠[])(h:∀x∈l,kg x):Vm c (vo c (l.map Lib.itoa))=some l:=by
 unfold Vm;rw[Vl c _ (by simpa using b) (by intro x d;obtain⟨y,_,rfl⟩:=List.mem_map.1 d;exact Zu a)];exact mapM_num_of h
theorem join_nums{c:UInt8}{s:Str}{l:List Int}(h:Vm c s=some l):s=vo c (l.map Lib.itoa)/\(∀x∈l,kg x)/\l≠[]:=by
 obtain⟨a,b⟩:=Jg h;refine⟨by rw[<-a,Be],b,?_⟩;rintro rfl;exact Gn c s a
theorem Wn{n:Int}(h:kg n):ME n=some (Lib.itoa n):=by unfold ME;rw[kM h]
theorem atoiS_eq{w:Str}(h:w.length<=281474976710656):IC w=some (match Lib.atoiAll w with| .ok v=>(v,false)| .range=>(Lib.atoiSat w,true)|_=>(0,true)):=by unfold IC;rw[kM h];all_goals (cases Lib.atoiAll w<;>rfl)
theorem parseS_eq{w:Str}(h:w.length<=281474976710656):parseS w=some (match Lib.atoiAll w with| .ok v=>(v,false)| .range=>(Lib.intSat 64 w,true)|_=>(0,true)):=by unfold parseS;rw[kM h,Lib.parseIntB_64];all_goals (cases Lib.atoiAll w<;>rfl)
theorem splitS_eq{s:Str}(c:UInt8)(h:s.length<4294967281):Pp s [c]=some (jC c s):=by unfold Pp;rw[kM ⟨h,Nat.le_refl _⟩,split_C]
theorem joinS_eq{l:List Str}(c:UInt8)(h:l.length<=140737488355328)(a:(vo c l).length<=140737488355328):Wl l [c]=some (vo c l):=by unfold Wl;rw[kM ⟨h,a⟩];rfl
end Go.LX