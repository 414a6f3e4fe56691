/-
  What the law WorldTwice needs of our own library and of the walks, no more.
-/
import Derived.WalkKit
import Derived.Laws.StructEq
import Derived.ChangeKeysEq
import Derived.StillTail
import Derived.LoopN
import Derived.Deep.Quiet
import Derived.OrdersHeld
import Derived.Deep.RegionHeld3
import Derived.Deep.Slices
import Derived.MapKept
import Derived.Lib.Bytealg
import Derived.ChangeArms
import Derived.Lib.AppendZeros
import Derived.Lib.Overlaps
import Derived.Laws.CopyRow
import Derived.Shelf.SlSortCmp.SmallK
import Derived.Laws.Pointers
import Derived.Laws.OwnMore
import Derived.Laws.Concat
import Derived.Laws.Strings2
import Derived.Laws.Strings3
import Derived.Laws.IdiomStrings
import Derived.Lib.AppendStr
import Derived.Lib.ConvBytes
import Derived.Lib.LaidTab
import Derived.Lib.ItoaNum
import Derived.WideLaws
import Derived.Lib.SplitLaws
import Derived.Lib.JoinLaws
import Derived.Lib.AtoiAll
import Derived.Lib.ParseIntB
import Derived.Laws.NewFold
import Derived.Lib.Join
import Derived.Lib.Strings
import Derived.Sort.Grow
import Derived.Lib.Space
import Derived.Handed
import Derived.LaidMore
import Derived.LaidHandle
import Derived.Stop.LaidErr
import Derived.Shelf.Vars
import Derived.WideShapes
import Derived.Lib.ParseIntBTie
import Derived.Lib.ItoaLen
import Derived.Lib.AtoiAllCases
namespace Go
theorem Z.{u} {α : Sort u} {a : α} : a = a := rfl
theorem U : True := trivial
theorem V {p : Prop} (h : p := by omega) : p := h
theorem zq1 {p : Prop} (h : p := by decide) : p := h
theorem zq2 {p : Prop} (h : p := by kernel_rfl) : p := h
theorem zq3 {p : Prop} (h : p := by simp) : p := h
end Go
set_option linter.unusedSimpArgs false
set_option linter.unusedVariables false
set_option maxRecDepth 10000
namespace Go.LX
open Go.RowKit
def act(n:Nat)(env:Nat->Value):Act:={tmps:=Array.ofFn (n:=n) fun i=>env i.val,defers:=[]}
def upd(env:Nat->Value)(d:Nat)(v:Value):Nat->Value:=fun i=>bif Nat.beq i d then v else env i
def ev(n:Nat)(env:Nat->Value):Operand->Value
 | .tmp t=>bif Nat.blt t n then env t else undef
 | .const v=>v
 | .global g=>.pointer (some ⟨g,0,none⟩)
 | .func f=>.func (.func f) #[] #[]
def gm(env:Nat->Value):Option Nat->Value->(Nat->Value)
 |some d,v=>upd env d v
 |none,_=>env
theorem gD(n:Nat)(env:Nat->Value):(act n env).eval=ev n env:=by
  funext x;cases x with
  |tmp t=>
    by_cases h:t<n
    · have a:Nat.blt t n=true:=by rw[Nat.blt_eq];exact h
      simp[Act.eval,act,ev,h,a]
    · have a:Nat.blt t n=false:=by rw[Bool.eq_false_iff,ne_eq,Nat.blt_eq];exact h
      simp[Act.eval,act,ev,h,a]
  |_=>rfl
theorem Dh(n:Nat)(env:Nat->Value)(d:Option Nat)(v:Value):(act n env).put d v=act n (gm env d v):=by
  cases d with
  |none=>rfl
  |some d=>
    simp only[Act.put,act,gm,Act.mk.injEq,and_true];apply Array.ext
    · simp
    · intro i b f;simp at b;have e:i<(Array.ofFn (n:=n) fun i=>env i.val).size:=by simp;exact b
      rw[Array.getElem_setIfInBounds e];by_cases a:d=i
      · subst a;simp[upd,Nat.beq_refl]
      · have c:Nat.beq i d=false:=by rw[Bool.eq_false_iff];intro h;exact a (Nat.eq_of_beq_eq_true h).symm
        simp[a,upd,c]
def Ra(args:List Value):Nat->Value:=fun i=>args.getD i undef
theorem act_init(n:Nat)(args:List Value)(h:args.length<=n):({tmps:=args.toArray++Array.replicate (n-args.toArray.size) undef,defers:=[]}:Act)=act n (Ra args):=by
  simp only[act,Act.mk.injEq,and_true];apply Array.ext
  · simp;omega
  · intro i b c;simp[Array.getElem_append,Ra,List.getD];by_cases a:i<args.length
    · simp[a]
    · simp[a]
structure WL(P:Program)(ops:Array Oper)(Q:Exit->Act->World->Prop)(l:List Oper)(n:Nat)(env:Nat->Value)(w:World):Prop where
 out:wpList P ops Q l (act n env) w
structure WC(P:Program)(c:Code)(Q:Exit->Act->World->Prop)(n:Nat)(env:Nat->Value)(w:World):Prop where
 out:c.wp P Q (act n env) w
section
variable{P:Program}{ops:Array Oper}{Q:Exit->Act->World->Prop}{n:Nat}{env:Nat->Value}{w w':World}{rest:List Oper}
 {d:Option Nat} {op:Op} {ty:TypeId} {pos:String} {af:Array Edge} {v:Value} {g:Option (Nat×Bool)}
theorem F(a:(execOp (ev n env) ⟨d,op,ty,pos,af,none⟩).run P w=.ok (.value v) w')(h:WL P ops Q rest n (gm env d v) w'):
  WL P ops Q (⟨d,op,ty,pos,af,none⟩::rest) n env w:=by
 refine⟨wpList_plain Z fun K b=>?_⟩;unfold Oper.wp;rw[gD,a];show K _ _;rw[Dh];exact b _ _ h.out
theorem zx(a:(execOp (ev n env) ⟨d,op,ty,pos,af,none⟩).run P w=.ok .skip w')(h:WL P ops Q rest n (gm env d undef) w'):
  WL P ops Q (⟨d,op,ty,pos,af,none⟩::rest) n env w:=by
 refine⟨wpList_plain Z fun K b=>?_⟩;unfold Oper.wp;rw[gD,a];show K _ _;rw[Dh];exact b _ _ h.out
theorem wl_enter{f:FuncId}{args:Array Value}{R:Ending->World->Prop}(b:(execOp (ev n env) ⟨d,op,ty,pos,af,none⟩).run P w=.ok (.enter f args) w)(a:Calls P f args w R)
  (h:∀e w',R e w'->∃v,e=.returned v/\WL P ops Q rest n (gm env d v) w'):
  WL P ops Q (⟨d,op,ty,pos,af,none⟩::rest) n env w:=by
 refine⟨wpList_plain Z fun K i=>?_⟩;unfold Oper.wp;rw[gD,b];show Calls P f args w _;refine a.mono fun e w' g=>?_;obtain⟨v,rfl,c⟩:=h e w' g;show K _ _;rw[Dh];exact i _ _ c.out
theorem Js{j dj:Nat}{b:Bool}(d:(ops[j]?).bind (·.dst)=some dj)(c:ev n env (.tmp dj)=.bool b):yielded ops (act n env).tmps j=some b:=by
  unfold yielded;have a:(act n env).eval (.tmp dj)=.bool b:=by rw[gD];exact c
  simp only[d,Option.bind_some];simp only[Act.eval]at a;cases h2:(act n env).tmps[dj]? with
  |none=>simp[Array.getD_eq_getD_getElem?,h2,undef]at a
  |some x=>simp[Array.getD_eq_getD_getElem?,h2]at a;subst a;rfl
theorem TR{j dj:Nat}{b:Bool}(g:(ops[j]?).bind (·.dst)=some dj)(e:ev n env (.tmp dj)=.bool b)
    (h:WL P ops Q (⟨d,op,ty,pos,af,none⟩::rest) n env w):WL P ops Q (⟨d,op,ty,pos,af,some (j,b)⟩::rest) n env w:=by
  have f:=Js (ops:=ops) g e;have c:Region.wanted ⟨d,op,ty,pos,af,some (j,b)⟩ (yielded ops (act n env).tmps)=true:=by simp[Region.wanted,f]
  have a:Region.wanted ⟨d,op,ty,pos,af,none⟩ (yielded ops (act n env).tmps)=true:=rfl;obtain⟨h⟩:=h;refine⟨?_⟩;unfold wpList at h⊢;rw[if_pos a]at h;rw[if_pos c];exact h
theorem bW{j dj:Nat}{b b':Bool}(g:(ops[j]?).bind (·.dst)=some dj)(e:ev n env (.tmp dj)=.bool b')(c:(b'==b)=false)
    (h:WL P ops Q rest n (gm env d undef) w):WL P ops Q (⟨d,op,ty,pos,af,some (j,b)⟩::rest) n env w:=by
  have f:=Js (ops:=ops) g e;have a:Region.wanted ⟨d,op,ty,pos,af,some (j,b)⟩ (yielded ops (act n env).tmps)=false:=by simpa[Region.wanted,f]using c
  refine⟨?_⟩;unfold wpList;rw[if_neg (by rw[a];decide),Dh];exact h.out
theorem ag(h:Q .normal (act n env) w):WL P ops Q [] n env w:=⟨h⟩
end
section
variable{P:Program}{Q:Exit->Act->World->Prop}{n:Nat}{env:Nat->Value}{w:World}{x y:Code}
theorem ay{id:Nat}{l:List Oper}(h:WL P l.toArray Q l n env w):WC P (Code.region id l.toArray false) Q n env w:=⟨wp_region_lit h.out⟩
theorem aD(h:WC P x (Exit.then (y.wp P Q) Q) n env w):WC P (Code.seq x y) Q n env w:=⟨wp_seq h.out⟩
theorem aH{id:Nat}(h:WC P x (Exit.inBlock id Q) n env w):WC P (Code.block id x) Q n env w:=⟨wp_block h.out⟩
theorem ax(h:Q .normal (act n env) w):WC P .skip Q n env w:=⟨wp_skip h⟩
theorem zN(h:Q .ret (act n env) w):WC P .ret Q n env w:=⟨wp_ret h⟩
theorem jT{id:Nat}(h:Q (.exit id) (act n env) w):WC P (.exit id) Q n env w:=⟨wp_exit h⟩
theorem eP{c:Operand}{t:Bool}(b:ev n env c=.bool t)(d:t=true->WC P x Q n env w)(a:t=false->WC P y Q n env w):
 WC P (Code.cond c x y) Q n env w:=⟨wp_cond_split (by rw[gD];exact b) (fun h=>(d h).out) (fun h=>(a h).out)⟩
theorem ZB{c:Operand}(a:ev n env c=.bool true)(b:WC P x Q n env w):WC P (Code.cond c x y) Q n env w:=⟨wp_cond_true (by rw[gD];exact a) b.out⟩
theorem wc_iff{c:Operand}(a:ev n env c=.bool false)(b:WC P y Q n env w):WC P (Code.cond c x y) Q n env w:=⟨wp_cond_false (by rw[gD];exact a) b.out⟩
theorem ae{Q':Exit->Act->World->Prop}(h:WC P y Q n env w):Exit.then (y.wp P Q) Q' .normal (act n env) w:=h.out
def hav(mod:Nat->Bool)(b a:Nat->Value):Nat->Value:=fun i=>bif mod i then b i else a i
def XL(e:Nat->Value):List (Nat×Value)->Nat->Value
 |[]=>e
 |(i,v)::r=>upd (XL e r) i v
def Holds(e:Nat->Value):List (Nat×Value)->Prop
 |[]=>True
 |(i,v)::r=>e i=v/\Holds e r
def Gr(mod:Nat->Bool)(e a:Nat->Value):Prop:=∀i,mod i=false->e i=a i
theorem Gr.refl(mod:Nat->Bool)(e:Nat->Value):Gr mod e e:=fun _ _=>rfl
theorem Gr.hav(mod:Nat->Bool)(j e:Nat->Value):Gr mod (hav mod j e) e:=fun i h=>by simp[LX.hav,h]
theorem Gr.upd{mod:Nat->Bool}{e a:Nat->Value}{d:Nat}{v:Value}(f:mod d=true)(h:Gr mod e a):Gr mod (upd e d v) a:=fun i b=>by
 have:i≠d:=fun e=>by rw[e,f]at b;exact Bool.noConfusion b
 have c:Nat.beq i d=false:=by rw[Bool.eq_false_iff];intro h;exact this (Nat.eq_of_beq_eq_true h)
 simp[LX.upd,c,h i b]
theorem upd_self(e:Nat->Value){i:Nat}{v:Value}(h:e i=v):upd e i v=e:=by
  funext k;by_cases a:Nat.beq k i=true
  · have:=Nat.eq_of_beq_eq_true a;subst this;simp[upd,h]
  · simp[upd,a]
theorem hav_self{mod:Nat->Bool}{e a:Nat->Value}(h:Gr mod e a):hav mod e a=e:=by
 funext i;cases hm:mod i with
 |true=>simp[hav,hm]
 |false=>simp[hav,hm,h i hm]
theorem Rb{e:Nat->Value}:∀(l:List (Nat×Value)),Holds e l->XL e l=e
 |[],_=>rfl
 |(i,v)::r,h=>by
  show upd (XL e r) i v=e;rw[Rb r h.2];exact upd_self e h.1
theorem wc_loop{σ:Type}{c:Code}(mod:Nat->Bool)(live:σ->List (Nat×Value))(J:σ->World->Prop)(v:σ->Nat)(E:σ)
  (N:Holds env (live E)) (M:J E w)
  (j:∀s K O,J s K->WC P c (Exit.then (fun a' w'=>∃o r,a'=act n r/\Gr mod r env/\Holds r (live o)/\J o w'/\v o<v s) Q) n (XL (hav mod O env) (live s)) K):
  WC P (Code.loop c) Q n env w:=by
 refine⟨?_⟩;intro b k cs;have C:∀m s e w,v s=m->Gr mod e env->Holds e (live s)->J s w->
   ∃p a' w',Q p a' w'/\Arrives P (lone (b.at (act n e) (.code c:: .inLoop c::k)) cs w) b k cs p a' w':=by
  intro m;induction m using Nat.strongRecOn with
  |_ m ih=>
   intro s e w R S L T;have I:=(j s w e T).out;have G:XL (hav mod e env) (live s)=e:=by rw[hav_self S];exact Rb _ L
   rw[G]at I;obtain⟨p,f,d,h,a⟩:=I b (.inLoop c::k) cs;cases p with
   |normal=>
    obtain⟨o,r,rfl,A,y,B,z⟩:=h;obtain⟨t,u,q,i,g⟩:=ih (v o) (R▸z) o r d Z A y B;exact⟨t,u,q,i,.of_steps (Steps.trans a<|.one step_inLoop) g⟩
   |exit id=>exact⟨_,f,d,h,.pass (x:=.inLoop c) Z (fun _ _=>.inl zq3) a⟩
   |goto l=>exact⟨_,f,d,h,.pass (x:=.inLoop c) Z (fun _ _=>.inl zq3) a⟩
   |ret=>exact⟨_,f,d,h,.pass (x:=.inLoop c) Z (fun _ _=>.inl zq3) a⟩
   |panic ch=>exact⟨_,f,d,h,.pass (x:=.inLoop c) Z (fun _ _=>.inl zq3) a⟩
   |outgrown=>exact⟨_,f,d,h,.pass (x:=.inLoop c) Z (fun _ _=>.inl zq3) a⟩
 obtain⟨p,a',w',h,a⟩:=C _ E env w Z (Gr.refl _ _) N M;exact⟨p,a',w',h,.of_steps (.one step_loop) a⟩
end
open Go.RowKit
structure One(P:Program)(T:TypeId)(z:Value):Prop where
 desc:∃d,P.underlying T=some d/\(match d with| .struct _| .array _ _=>False|_=>True)
 info:(P.info? T).map (fun i=>(i.zero,i.size))=some (some z,1)
 cell:z.cells= #[z]
structure vv(P:Program)(T:TypeId)(zs:List Value):Prop where
 desc:∃d,P.underlying T=some d/\(match d with| .struct _| .array _ _=>True|_=>False)
 info:(P.info? T).map (fun i=>(i.zero,i.size))=some (some (.agg zs.toArray),zs.length)
structure SliceOf(P:Program)(T E:TypeId)(sz:Nat):Prop where
  desc:P.underlying T=some (.slice E)
  info:(P.info? E).map (·.size)=some sz
structure dQ(P:Program)(T:TypeId)(k off:Nat):Prop where
  desc:∃fs f s,P.underlying T=some (.struct fs)/\fs[k]? =some f/\f.offset=off/\(P.info? f.type).map (·.size)=some (s+1)
section
variable{P:Program}{w:World}{ρ:Operand->Value}{d:Option Nat}{ty:TypeId}{pos:String}{af:Array Edge}{g:Option (Nat×Bool)}
theorem bL{x:Operand}{v:Value}(a:ρ x=v):(execOp ρ ⟨d,.move x,ty,pos,af,g⟩).run P w=.ok (.value v) w:=by subst a;rfl
theorem eQ{x:Operand}{v:Value}(a:ρ x=v):(execOp ρ ⟨d,.assign x,ty,pos,af,g⟩).run P w=.ok (.value v) w:=by subst a;rfl
theorem jU{c x y:Operand}{b:Bool}{v:Value}(a:ρ c=.bool b)(e:(if b then ρ x else ρ y)=v):(execOp ρ ⟨d,.pick c x y,ty,pos,af,g⟩).run P w=.ok (.value v) w:=by
 subst e;simp[execOp,a,asBool]
theorem r_not{x:Operand}{T:TypeId}{b:Bool}(a:ρ x=.bool b):(execOp ρ ⟨d,.unOp .not T x,ty,pos,af,g⟩).run P w=.ok (.value (.bool !b)) w:=by
 simp[execOp,a,Op.unary]
theorem ZC{x:Int}(b: -9223372036854775808<=x)(a:x<=9223372036854775807):IntKind.i64.wrap x=x:=IntWalk.i64_in x ⟨b,a⟩
theorem uu{x y:Operand}{T T2:TypeId}{p q:Int}(a:ρ x=.int .i64 p)(b:ρ y=.int .i64 q):(execOp ρ ⟨d,.binOp .lss T x y T2,ty,pos,af,g⟩).run P w=.ok (.value (.bool (decide (p<q)))) w:=by
 simp[execOp,a,b,eqGuard,binOp,Op.intCmp]
theorem PL{x y:Operand}{T T2:TypeId}{p q:Int}(a:ρ x=.int .i64 p)(b:ρ y=.int .i64 q):(execOp ρ ⟨d,.binOp .leq T x y T2,ty,pos,af,g⟩).run P w=.ok (.value (.bool (decide (p<=q)))) w:=by
 simp[execOp,a,b,eqGuard,binOp,Op.intCmp]
theorem iG{x y:Operand}{T T2:TypeId}{p q:Int}(a:ρ x=.int .i64 p)(b:ρ y=.int .i64 q):(execOp ρ ⟨d,.binOp .gtr T x y T2,ty,pos,af,g⟩).run P w=.ok (.value (.bool (decide (q<p)))) w:=by
 simp[execOp,a,b,eqGuard,binOp,Op.intCmp]
theorem lM{x y:Operand}{T T2:TypeId}{p q:Int}(a:ρ x=.int .i64 p)(b:ρ y=.int .i64 q):(execOp ρ ⟨d,.binOp .geq T x y T2,ty,pos,af,g⟩).run P w=.ok (.value (.bool (decide (q<=p)))) w:=by
 simp[execOp,a,b,eqGuard,binOp,Op.intCmp]
theorem oC{x y:Operand}{T T2:TypeId}{p q:Int}{k:IntKind}(a:ρ x=.int k p)(b:ρ y=.int k q):(execOp ρ ⟨d,.binOp .eql T x y T2,ty,pos,af,g⟩).run P w=.ok (.value (.bool (decide (p=q)))) w:=by
 simp[execOp,a,b,eqGuard,binOp,Op.intCmp];rfl
theorem yY{x y:Operand}{T T2:TypeId}{p q:Int}{k:IntKind}(a:ρ x=.int k p)(b:ρ y=.int k q):(execOp ρ ⟨d,.binOp .neq T x y T2,ty,pos,af,g⟩).run P w=.ok (.value (.bool (decide (p≠q)))) w:=by
 simp[execOp,a,b,eqGuard,binOp,Op.intCmp];rfl
theorem H7{x y:Operand}{T T2:TypeId}{p q:Int}(a:ρ x=.int .i64 p)(b:ρ y=.int .i64 q)(h: -9223372036854775808<=p+q/\p+q<=9223372036854775807):
  (execOp ρ ⟨d,.binOp .add T x y T2,ty,pos,af,g⟩).run P w=.ok (.value (.int .i64 (p+q))) w:=by
 simp[execOp,a,b,eqGuard,binOp,Op.intArith,ZC h.1 h.2]
theorem lZ{x y:Operand}{T T2:TypeId}{p q:Int}(a:ρ x=.int .i64 p)(b:ρ y=.int .i64 q)(h: -9223372036854775808<=p-q/\p-q<=9223372036854775807):
  (execOp ρ ⟨d,.binOp .sub T x y T2,ty,pos,af,g⟩).run P w=.ok (.value (.int .i64 (p-q))) w:=by
 simp[execOp,a,b,eqGuard,binOp,Op.intArith,ZC h.1 h.2]
theorem oH{x:Operand}{T E:TypeId}{f:Nat}{a:Option Addr}{l c:Nat}(e:SliceOf P T E f)(b:ρ x=.slice a l c):
  (execOp ρ ⟨d,.call {callee:=.builtin .len,args:= #[x],argTypes:= #[T]},ty,pos,af,g⟩).run P w=.ok (.value (.int .i64 l)) w:=by
 simp[execOp,resolve,invoke,builtin,Builtin.len_,b,underlying,e.desc,goInt]
theorem r_load1{x:Operand}{T:TypeId}{z v:Value}{b o:Nat}{cs:Array Value}{E:TypeId}{c:Nat×Nat}(h:One P T z)(j:ρ x=.pointer (some ⟨b,o,none⟩))(a:w.heap[b]? =some (.cells cs E c))(e:cs[o]? =some v):
  (execOp ρ ⟨d,.load T x,ty,pos,af,g⟩).run P w=.ok (.value v) w:=by
 obtain⟨f,l,k⟩:=h.desc;have i:w.cell? ⟨b,o,none⟩=some v:=by simp[World.cell?,a,e]
 cases f<;>simp_all[execOp,Instr.loadAt,Instr.sureAddr,loadVar,isAgg,underlying]
end
open Go.RowKit
abbrev BS:=Nat->Prop
abbrev BE:BS:=fun _=>False
structure bH(K:BS)(w w':World):Prop where
 os:w'.os=w.os
 tape:w'.tape=w.tape
 output:w'.output=w.output
 size:w.heap.size<=w'.heap.size
 block:∀b,¬K b->b<w.heap.size->w'.heap[b]? =w.heap[b]?
abbrev Grow(w w':World):Prop:=bH BE w w'
theorem bH.refl(K:BS)(w:World):bH K w w:=⟨rfl,rfl,rfl,Nat.le_refl _,fun _ _ _=>rfl⟩
theorem bH.step{K N:BS}{a b c:World}(h:bH K a b)(k:bH N b c)(hN:∀x,N x->x<a.heap.size->K x):bH K a c:=
 ⟨k.os.trans h.os,k.tape.trans h.tape,k.output.trans h.output,Nat.le_trans h.size k.size,fun i e d=>(k.block i (fun hn=>e (hN i hn d)) (Nat.lt_of_lt_of_le d h.size)).trans (h.block i e d)⟩
theorem bH.grow{K:BS}{a b c:World}(h:bH K a b)(k:Grow b c):bH K a c:=h.step k (fun _ h=>h.elim)
theorem bH.weaken{K N:BS}{a b:World}(h:bH K a b)(d:∀x,K x->x<a.heap.size->N x):bH N a b:=⟨h.os,h.tape,h.output,h.size,fun i e c=>h.block i (fun hn=>e (d i hn c)) c⟩
theorem Grow.keep{K:BS}{a b:World}(h:Grow a b):bH K a b:=h.weaken (fun _ h=>h.elim)
theorem iB{w:World}{b:Nat}{o:Obj}(a:w.heap[b]? =some o):b<w.heap.size:=by
  rcases Nat.lt_or_ge b w.heap.size with h1|h1
  · exact h1
  · rw[Array.getElem?_eq_none h1]at a;cases a
theorem bH.blk{K:BS}{w w':World}(h:bH K w w'){b:Nat}{o:Obj}(a:w.heap[b]? =some o)(c:¬K b):w'.heap[b]? =some o:=by
 rw[h.block b c (iB a),a]
theorem Grow.blk{w w':World}(h:Grow w w'){b:Nat}{o:Obj}(a:w.heap[b]? =some o):w'.heap[b]? =some o:=bH.blk h a (fun h=>h)
theorem Grow.below{w w':World}(h:Grow w w'):Below w.heap.size w w':=⟨h.os,h.tape,h.output,h.size,fun k a=>h.block k (fun h=>h) a⟩
theorem Grow.of_below{w w':World}(h:Below w.heap.size w w'):Grow w w':=⟨h.os,h.tape,h.output,h.size,fun k _ a=>h.block k a⟩
theorem Grow.alloc(w:World)(o:Obj):Grow w (w.alloc o):=Grow.of_below ((Below.refl _ _).alloc (Nat.le_refl _) o)
theorem MH(w:World)(o:Obj):(w.alloc o).heap[w.heap.size]? =some o:=by show(w.heap.push o)[w.heap.size]? =some o;simp
theorem alloc_size(w:World)(o:Obj):(w.alloc o).heap.size=w.heap.size+1:=by show(w.heap.push o).size=_;simp
theorem Grow.drew(w:World):Grow w w.drew:=⟨rfl,rfl,rfl,Nat.le_refl _,fun _ _ _=>rfl⟩
theorem Grow.trans{a b c:World}(h:Grow a b)(k:Grow b c):Grow a c:=h.grow k
structure kL(α:Type)where
 sz:Nat
 rd:World->BS->List Value->α->Prop
 len:∀{w A cs x},rd w A cs x->cs.length=sz
 one:∀{w A cs x},rd w A cs x->∀u∈cs,u.oneCell'=true
 pos:0<sz
 go:∀{w A cs x w' A' K},rd w A cs x->bH K w w'->(∀b,K b->b<w.heap.size->A b)->(∀b,A' b->b<w.heap.size->A b)->rd w' A' cs x
def ed{α:Type}(R:kL α)(w:World)(B A:BS)(v:Value)(l:List α):Prop:=
 ∃a cap,v=.slice a l.length cap/\l.length<=cap/\cap<=maxLen/\(a=none->cap=0)/\
  ∀i (h:i<l.length),∃b o cells E c,a=some ⟨b,o,none⟩/\¬B b/\w.heap[b]? =some (.cells cells E c)/\R.rd w A ((cells.toList.drop (o+i*R.sz)).take R.sz) l[i]
abbrev cz{α:Type}(R:kL α)(w:World)(A:BS)(v:Value)(l:List α):Prop:=ed R w A A v l
theorem ed.go{α:Type}{R:kL α}{w w':World}{B e A A' K:BS}{v:Value}{l:List α}(h:ed R w B A v l)(f:bH K w w')(d:∀b,K b->b<w.heap.size->B b)(n:∀b,K b->b<w.heap.size->A b)(t:∀b,e b->b<w.heap.size->B b)(x:∀b,A' b->b<w.heap.size->A b):ed R w' e A' v l:=by
 obtain⟨a,cap,rfl,s,r,u,q⟩:=h;refine⟨a,cap,Z,s,r,u,fun i m=>?_⟩;obtain⟨b,o,cells,E,p,k,g,c,j⟩:=q i m;exact⟨b,o,cells,E,p,k,fun h=>g<|t b h<|iB c,f.blk c fun h=>g<|d b h<|iB c,R.go j f n x⟩
theorem ed.sub{α:Type}{R:kL α}{w:World}{B a A A':BS}{v:Value}{l:List α}(h:ed R w B A v l)(c:∀b,a b->b<w.heap.size->B b)(d:∀b,A' b->b<w.heap.size->A b):ed R w a A' v l:=
 h.go (bH.refl BE w) (fun _ h=>h.elim) (fun _ h=>h.elim) c d
theorem ed.src{α:Type}{R:kL α}{w:World}{B A:BS}{v:Value}{l:List α}(h:ed R w B A v l):ed R w BE A v l:=h.sub (fun _ h=>h.elim) (fun _ h _=>h)
theorem cz.go{α:Type}{R:kL α}{w w':World}{A A' K:BS}{v:Value}{l:List α}(h:cz R w A v l)(d:bH K w w')(c:∀b,K b->b<w.heap.size->A b)(a:∀b,A' b->b<w.heap.size->A b):cz R w' A' v l:=
 ed.go h d c c a a
theorem ed.one{α:Type}{R:kL α}{w:World}{B A:BS}{v:Value}{l:List α}(h:ed R w B A v l):v.oneCell'=true:=by
 obtain⟨a,cap,rfl,_⟩:=h;rfl
theorem ed.nil{α:Type}{R:kL α}{w:World}{B A:BS}:ed R w B A (.slice none 0 0) ([]:List α):=⟨none,0,rfl,Nat.le_refl _,by unfold maxLen;omega,fun _=>rfl,fun i a=>absurd a (Nat.not_lt_zero _)⟩
theorem ed.bK{α:Type}{R:kL α}{w:World}{B A:BS}{v:Value}{l:List α}(h:ed R w B A v l):l.length<=9223372036854775807:=by
 obtain⟨a,cap,_,c,b,_⟩:=h;unfold maxLen at b;omega
def tK{α:Type}(R:kL α):kL (List α) where
 sz:=1
 rd w A cs l:=∃v,cs=[v]/\cz R w A v l
 len:=by rintro w A cs x ⟨v,rfl,_⟩;rfl
 one:=by
  rintro w A cs x⟨v,rfl,h⟩u hu;simp at hu;subst hu;exact h.one
 pos:=by decide
 go:=by
  rintro w A cs x w' A' K⟨v,rfl,h⟩hk hK hA;exact⟨v,Z,h.go hk hK hA⟩
def di:kL Int where
 sz:=1
 rd _ _ cs x:=cs=[.int .i64 x]
 len:=by rintro w A cs x rfl;rfl
 one:=by rintro w A cs x rfl u hu;simp at hu;subst hu;rfl
 pos:=by decide
 go:=fun h _ _ _=>h
def rBool:kL Bool where
 sz:=1
 rd _ _ cs x:=cs=[.bool x]
 len:=by rintro w A cs x rfl;rfl
 one:=by rintro w A cs x rfl u hu;simp at hu;subst hu;rfl
 pos:=by decide
 go:=fun h _ _ _=>h
abbrev Str:=List UInt8
def bB(s:Str):Value:=.string ⟨s.toArray⟩
def sH:kL Str where
 sz:=1
 rd _ _ cs x:=cs=[bB x]
 len:=by rintro w A cs x rfl;rfl
 one:=by rintro w A cs x rfl u hu;simp at hu;subst hu;rfl
 pos:=by decide
 go:=fun h _ _ _=>h
def ob:Value->Nat->Prop| .slice (some a) _ _=>fun b=>b=a.block|_=>fun _=>False
theorem ob_row{v:Value}{k:Nat}:ob v k↔v.ownBlock=some k:=by
 cases v with
 |slice a l c=>cases a with
  |none=>simp[ob,Value.ownBlock]
  |some a=>simp[ob,Value.ownBlock];exact eq_comm
 |_=>simp[ob,Value.ownBlock]
def cK{α:Type}(R:kL α)(E:TypeId)(w:World)(A:BS)(v:Value)(l:List α):Prop:=
 ∃xs,w.ownsRow 0 E R.sz v l.length xs/\∀i (h:i<l.length),R.rd w (fun b=>A b\/ob v b) ((xs.drop (i*R.sz)).take R.sz) l[i]
theorem cK.nil{α:Type}{R:kL α}{E:TypeId}{w:World}{A:BS}:cK R E w A (.slice none 0 0) ([]:List α):=
 ⟨[],World.ownsRow_nil _ _ _ _,fun i h=>absurd h (Nat.not_lt_zero _)⟩
theorem cK.lt{α:Type}{R:kL α}{E:TypeId}{w:World}{A:BS}{v:Value}{l:List α}(h:cK R E w A v l):∀k,ob v k->k<w.heap.size:=by
 obtain⟨xs,a,_⟩:=h;intro k b;exact(a.lt k<|ob_row.1 b).2
theorem cK.go{α:Type}{R:kL α}{E:TypeId}{w w':World}{A A' K:BS}{v:Value}{l:List α}(h:cK R E w A v l)(e:bH K w w')(k:∀b,K b->b<w.heap.size->A b)(d:∀b,K b->¬ob v b)(o:∀b,A' b->b<w.heap.size->A b\/ob v b):cK R E w' A' v l:=by
  obtain⟨xs,c,n⟩:=h;refine⟨xs,?_,fun i j=>R.go (n i j) e (fun b c m=>.inl<|k b c m) fun b a f=>?_⟩
  · refine⟨c.1,?_⟩;rcases c.2 with h|⟨g,cap,cur,rfl,e1,e2,e3⟩
    · exact .inl h
    · exact .inr ⟨g,cap,cur,Z,e1,e.blk e2 (fun h=>d g h (by simp[ob])),e3⟩
  · rcases a with a|a
    · exact o b a f
    · exact .inr a
theorem cK.one{α:Type}{R:kL α}{E:TypeId}{w:World}{A:BS}{v:Value}{l:List α}(h:cK R E w A v l):v.oneCell'=true:=by
 obtain⟨xs,a,_⟩:=h;rcases a.2 with⟨rfl,_⟩|⟨g,cap,cur,rfl,_⟩<;>rfl
theorem cK.rd{α:Type}{R:kL α}{E:TypeId}{w:World}{A A':BS}{v:Value}{l:List α}(h:cK R E w A v l)(e:∀b,ob v b->¬A' b)(f:∀b,A' b->b<w.heap.size->A b\/ob v b):cz R w A' v l:=by
  obtain⟨xs,c,d⟩:=h;rcases c.2 with⟨rfl,hn⟩|⟨g,cap,cur,rfl,e1,e2,e3,e4,e5,e6⟩
  · have:l=[]:=List.eq_nil_of_length_eq_zero hn;subst this;exact ed.nil
  · refine⟨some ⟨g,0,none⟩,cap,Z,e3,e4,(fun h=>by cases h),fun i a=>⟨g,0,cur,E,(0,0),Z,e g (by simp[ob]),e2,?_⟩⟩;have:=R.go (A':=A') (d i a) (bH.refl BE w) (fun _ h=>h.elim) f;rw[<-e6,List.drop_take,List.take_take,Nat.min_eq_left ?_]at this
    · rw[Nat.zero_add];exact this
    · have:(i+1)*R.sz<=l.length*R.sz:=Nat.mul_le_mul_right _ a;rw[Nat.add_mul]at this;omega
def Jt(b:Array MapEntry)(a:Nat):Prop:=(∀e∈b.toList,e.born<a)/\(b.toList.map (·.born)).Nodup
def Gx(w:World)(b:Nat)(jR:List (Int×Value)):Prop:=
 ∃c a,w.heap[b]? =some (.map c a)/\c.toList.map (fun e=>(e.key,e.val))=jR.map (fun p=>(Value.int .i64 p.1,p.2))/\Jt c a
structure Pce where
 own:BS
 P:World->BS->Prop
 lt:∀{w A b},P w A->own b->b<w.heap.size
 go:∀{w w' A A' K},P w A->bH K w w'->(∀b,K b->b<w.heap.size->A b)->(∀b,K b->¬own b)->(∀b,A' b->b<w.heap.size->A b\/own b)->P w' A'
inductive Chunk:Type 1 where
 |no
 |rd {α:Type} (R:kL α) (v:Value) (l:List α)
 |sr {α:Type} (R:kL α) (v:Value) (l:List α)
 |pt (b o:Nat) (cs:List Value)
 |blk (b:Nat) (cs:List Value)
 |own {α:Type} (R:kL α) (E:TypeId) (v:Value) (l:List α)
 |mp (b:Nat) (jR:List (Int×Value))
 |rp {α:Type} (R:kL α) (v:Value) (x:α)
 |two (a b:Chunk)
 |eH (S:Pce)
def Chunk.own':Chunk->BS
 | .blk b _=>fun x=>x=b
 | .own _ _ v _=>ob v
 | .mp b _=>fun x=>x=b
 | .two a b=>fun x=>a.own' x\/b.own' x
 | .eH S=>S.own
 |_=>BE
def Chunk.holds(w:World)(M O:BS):Chunk->Prop
 | .no=>True
 | .rd R v l=>cz R w (fun b=>M b\/O b) v l
 | .sr R v l=>ed R w O (fun b=>M b\/O b) v l
 | .pt b o cs=>¬O b/\∃cells E c,w.heap[b]? =some (.cells cells E c)/\(cells.toList.drop o).take cs.length=cs
 | .blk b cs=>∃E,w.heap[b]? =some (.cells cs.toArray E (0,0))
 | .own R E v l=>cK R E w (fun b=>M b\/O b) v l
 | .mp b jR=>Gx w b jR
 | .rp R v x=>R.rd w (fun b=>M b\/O b) [v] x
 | .two a b=>a.holds w M O/\b.holds w M O/\∀x,a.own' x->¬b.own' x
 | .eH S=>S.P w (fun b=>M b\/O b)
theorem Chunk.go{c:Chunk}{w w':World}{M O n N:BS}(h:c.holds w M O)(g:bH N w w')(hN:∀b,N b->b<w.heap.size->O b)(f:∀b,N b->¬c.own' b)(i:∀b,n b->b<w.heap.size->M b\/O b)(j:∀b,n b->b<w.heap.size->O b):c.holds w' M n:=by
 induction c with
 |no=>trivial
 |rd R v l=>exact cz.go h g (fun b d e=>.inr (hN b d e)) (fun b d e=>d.elim .inl (fun d=>i b d e))
 |sr R v l=>exact ed.go h g hN (fun b d e=>.inr (hN b d e)) j (fun b d e=>d.elim .inl (fun d=>i b d e))
 |pt b o cs=>
  obtain⟨p,cells,E,s,m,t⟩:=h;exact⟨fun h=>p<|j b h<|iB m,cells,E,s,g.blk m fun h=>p<|hN b h<|iB m,t⟩
 |blk b cs=>
  obtain⟨E,h⟩:=h;exact⟨E,g.blk h fun d=>f b d Z⟩
 |own R E v l=>exact cK.go h g (fun b d e=>.inr (hN b d e)) f (fun b d e=>.inl (d.elim .inl (fun d=>i b d e)))
 |rp R v x=>exact R.go h g (fun b d e=>.inr (hN b d e)) (fun b d e=>d.elim .inl (fun d=>i b d e))
 |two a b iha ihb=>exact⟨iha h.1 (fun x k q=>f x k (.inl q)),ihb h.2.1 (fun x k d=>f x k (.inr d)),h.2.2⟩
 |eH S=>exact S.go h g (fun b d e=>.inr (hN b d e)) f (fun b d e=>.inl (d.elim .inl (fun d=>i b d e)))
 |mp b jR=>
  obtain⟨u,c,h,r⟩:=h;exact⟨u,c,g.blk h fun d=>f b d Z,r⟩
theorem Chunk.sub{c:Chunk}{w:World}{M O d:BS}(h:c.holds w M O)(a:∀b,d b->b<w.heap.size->O b):c.holds w M d:=
 Chunk.go h (bH.refl BE w) (fun _ h=>h.elim) (fun _ h=>h.elim) (fun b e f=>.inr (a b e f)) a
theorem Chunk.lt{c:Chunk}{w:World}{M O:BS}(h:c.holds w M O):∀b,c.own' b->b<w.heap.size:=by
 intro b d;induction c with
 |no=>exact d.elim
 |rd=>exact d.elim
 |sr=>exact d.elim
 |pt=>exact d.elim
 |blk b' cs=>
  cases d;exact iB h.choose_spec
 |own R E v l=>exact cK.lt h b d
 |rp=>exact d.elim
 |two a c iha ihc=>exact d.elim (fun d=>iha h.1 d) (fun d=>ihc h.2.1 d)
 |eH S=>exact S.lt h d
 |mp b' jR=>
  cases d;obtain⟨_,_,h,_⟩:=h;exact iB h
def bV(hp:Nat->Chunk)(i:Nat)(c:Chunk):Nat->Chunk:=fun j=>bif Nat.beq j i then c else hp j
theorem dh(hp:Nat->Chunk)(i:Nat)(c:Chunk):bV hp i c i=c:=by simp[bV,Nat.beq_refl]
theorem eZ{hp:Nat->Chunk}{i j:Nat}{c:Chunk}(h:j≠i):bV hp i c j=hp j:=by
 have:Nat.beq j i=false:=by rw[Bool.eq_false_iff];intro e;exact h (Nat.eq_of_beq_eq_true e)
 simp[bV,this]
def hno:Nat->Chunk:=fun _=>.no
def iC(hp:Nat->Chunk):BS:=fun b=>∃j,(hp j).own' b
structure SH(w0:World)(M K:BS)(w:World)(hp:Nat->Chunk):Prop where
 keep:bH K w0 w
 ltM:∀b,M b->b<w0.heap.size
 apM:∀i b,(hp i).own' b->¬M b
 ok:∀i,(hp i).holds w M (iC hp)
 apart:∀i j,i≠j->∀b,(hp i).own' b->¬(hp j).own' b
 old:∀i b,(hp i).own' b->b<w0.heap.size->K b
section
variable{w0 w w':World}{M K:BS}{hp:Nat->Chunk}{i:Nat}{c:Chunk}
def rest(hp:Nat->Chunk)(i:Nat):BS:=fun b=>∃j,j≠i/\(hp j).own' b
theorem kP{hp:Nat->Chunk}{i b:Nat}(h:rest hp i b):iC hp b:=let ⟨j,_,h⟩:=h;⟨j,h⟩
abbrev SH.av(hp:Nat->Chunk)(i:Nat)(c:Chunk):BS:=fun b=>rest hp i b\/c.own' b
theorem SH.step{N:BS}(h:SH w0 M K w hp)(i:Nat)(s:bH N w w')(hN:∀b,N b->b<w.heap.size->(hp i).own' b)
    (ho:∀b,c.own' b->b<w.heap.size->(hp i).own' b) (u:c.holds w' M (SH.av hp i c)):SH w0 M K w' (bV hp i c):=by
  have t:∀b,M b->b<w.heap.size:=fun b a=>Nat.lt_of_lt_of_le (h.ltM b a) h.keep.size;have m:∀b,iC (bV hp i c) b->rest hp i b\/c.own' b:=by
    rintro b⟨j,o⟩;by_cases e:j=i
    · subst e;rw[dh]at o;exact .inr o
    · rw[eZ e]at o;exact .inl ⟨j,e,o⟩
  have g:∀b,iC (bV hp i c) b->b<w.heap.size->iC hp b:=fun b a f=>(m b a).elim kP fun h=>⟨i,ho b h f⟩;refine⟨?_,h.ltM,?_,?_,?_,?_⟩
  · exact h.keep.step s (fun x q f=>by
      have n:=Nat.lt_of_lt_of_le f h.keep.size;exact h.old i x (hN x q n) f)
  · intro j b a;by_cases e:j=i
    · subst e;rw[dh]at a;intro r;exact h.apM j b (ho b a<|t b r) r
    · rw[eZ e]at a;exact h.apM j b a
  · intro j;by_cases e:j=i
    · subst e;rw[dh];exact Chunk.sub u fun b a _=>m b a
    · rw[eZ e];have f:=h.ok j;refine Chunk.go f (s.weaken (N:=fun b=>N b/\b<w.heap.size) fun b a f=>⟨a,f⟩) ?_ ?_ ?_ ?_
      · intro b a n;exact⟨i,hN b a.1 n⟩
      · intro b a o;exact h.apart j i e b o<|hN b a.1 a.2
      · exact fun b a f=>.inr<|g b a f
      · exact g
  · intro j k l b a d;have lt:∀x,x≠i->(hp x).own' b->b<w.heap.size:=fun x _ q=>Chunk.lt (h.ok x) b q;by_cases e:j=i
    · subst e;have p:k≠j:=fun e=>l e.symm;rw[dh]at a;rw[eZ p]at d;exact h.apart j k l b (ho b a<|lt k p d) d
    · rw[eZ e]at a;by_cases p:k=i
      · subst p;rw[dh]at d;exact h.apart j k l b a<|ho b d<|lt j e a
      · rw[eZ p]at d;exact h.apart j k l b a d
  · intro j b a f;by_cases e:j=i
    · subst e;rw[dh]at a;exact h.old j b (ho b a<|Nat.lt_of_lt_of_le f h.keep.size) f
    · rw[eZ e]at a;exact h.old j b a f
abbrev SH.A(M:BS)(hp:Nat->Chunk):BS:=fun b=>M b\/iC hp b
theorem SH.lt(h:SH w0 M K w hp):∀b,SH.A M hp b->b<w.heap.size:=by
  rintro b(a|⟨j,a⟩)
  · exact Nat.lt_of_lt_of_le (h.ltM b a) h.keep.size
  · exact Chunk.lt (h.ok j) b a
theorem SH.learn(h:SH w0 M K w hp)(i:Nat)(d:Grow w w')(ho:∀b,c.own' b->w.heap.size<=b)(e:c.holds w' M (fun b=>iC hp b\/c.own' b)):SH w0 M K w' (bV hp i c):=
 h.step i d (fun _ h=>h.elim) (fun b a f=>absurd (ho b a) V) (Chunk.sub e (fun b a _=>a.imp kP id))
theorem SH.grow(h:SH w0 M K w hp)(c:Grow w w'):SH w0 M K w' hp:=
 ⟨h.keep.grow c,h.ltM,h.apM,fun i=>Chunk.go (h.ok i) c (fun _ h=>h.elim) (fun _ h=>h.elim) (fun b a _=>.inr a) (fun b a _=>a),h.apart,h.old⟩
theorem SH.know(h:SH w0 M K w hp)(i:Nat)(ho:∀b,¬c.own' b)(d:c.holds w M (iC hp)):SH w0 M K w (bV hp i c):=
 h.learn i (bH.refl BE w) (fun b a=>absurd a (ho b)) (Chunk.sub d (fun b a _=>a.elim id (fun a=>absurd a (ho b))))
theorem SH.freeze{α:Type}{R:kL α}{E:TypeId}{v:Value}{l:List α}(h:SH w0 M K w hp)(i:Nat)(f:hp i=.own R E v l):SH w0 M K w (bV hp i (.rd R v l)):=by
  refine h.step i (bH.refl BE w) (fun _ h=>h.elim) (fun b a=>a.elim) ?_;have e:=h.ok i;rw[f]at e;refine cK.rd e (fun b a c=>?_) fun b a e=>?_
  · have d:(hp i).own' b:=by rw[f];exact a
    rcases c with c|⟨j,hj,c⟩|c
    · exact h.apM i b d c
    · exact h.apart j i hj b c d
    · exact c
  · rcases a with a|a|a
    · exact .inl<|.inl a
    · exact .inl<|.inr<|kP a
    · exact a.elim
def hset:List (Nat×Chunk)->Nat->Chunk
 |[]=>hno
 |(i,c)::r=>bV (hset r) i c
def ZE(hp:Nat->Chunk):List (Nat×Chunk)->Prop
 |[]=>True
 |(i,c)::r=>hp i=c/\ZE hp r
theorem hset_is{hp:Nat->Chunk}:∀{l:List (Nat×Chunk)},ZE hp l->∀j,hset l j=hp j\/hset l j=.no
  |[],_,_=>.inr Z
  |(i,c)::r,h,j=>by
    by_cases e:j=i
    · subst e;left;show bV _ _ _ _=_;rw[dh];exact h.1.symm
    · show bV _ _ _ _=_\/bV _ _ _ _=_;rw[eZ e];exact hset_is h.2 j
theorem SH.canon(h:SH w0 M K w hp)(l:List (Nat×Chunk))(g:ZE hp l):SH w0 M K w (hset l):=by
  have c:=hset_is g;have own:∀j b,(hset l j).own' b->(hp j).own' b:=by
    intro j b a;rcases c j with e|e
    · rw[e]at a;exact a
    · rw[e]at a;exact a.elim
  refine⟨h.keep,h.ltM,fun i b a=>h.apM i b<|own i b a,fun i=>?_,fun i j f b a d=>h.apart i j f b (own i b a)<|own j b d,fun i b a=>h.old i b<|own i b a⟩;rcases c i with e|e
  · rw[e];exact Chunk.sub (h.ok i) fun b⟨j,k⟩_=>⟨j,own j b k⟩
  · rw[e];trivial
theorem SH.init{w:World}{M:BS}(a:∀b,M b->b<w.heap.size):SH w M BE w hno:=
 ⟨bH.refl _ _,a,fun _ _ h=>h.elim,fun _=>trivial,fun _ _ _ _ h=>h.elim,fun _ _ h=>h.elim⟩
theorem SH.wK{α:Type}{R:kL α}{E:TypeId}{v:Value}{l:List α}(h:SH w0 M K w hp)(i:Nat)(d:Grow w w')(ho:cK R E w' (SH.A M hp) v l)(c:∀b,ob v b->w.heap.size<=b):SH w0 M K w' (bV hp i (.own R E v l)):=
 h.learn i d c (cK.go ho (bH.refl BE w') (fun _ h=>h.elim) (fun _ h=>h.elim) (fun b a _=>a.elim (fun h=>.inl (.inl h)) (fun h=>h.elim (fun h=>.inl (.inr h)) .inr)))
theorem SH.yZ{α:Type}{R:kL α}{v:Value}{l:List α}(h:SH w0 M K w hp)(i:Nat)(c:Grow w w')(ho:cz R w' (SH.A M hp) v l):SH w0 M K w' (bV hp i (.rd R v l)):=
 h.learn i c (fun _ h=>h.elim) (cz.go ho (bH.refl BE w') (fun _ h=>h.elim) (fun b a _=>a.elim .inl (fun h=>h.elim .inr (fun h=>h.elim))))
theorem SH.aJ{α:Type}{R:kL α}{v:Value}{l:List α}(h:SH w0 M K w hp)(i:Nat)(ho:cz R w (SH.A M hp) v l):SH w0 M K w (bV hp i (.rd R v l)):=h.yZ i (bH.refl BE w) ho
theorem SH.Fs{α:Type}{R:kL α}{v:Value}{l:List α}(h:SH w0 M K w hp)(i:Nat)(ho:cz R w M v l)(hn:∀b,¬iC hp b):SH w0 M K w (bV hp i (.rd R v l)):=
 h.aJ i (ho.go (bH.refl BE w) (fun _ h=>h.elim) (fun b a _=>a.elim id (fun h=>absurd h (hn b))))
theorem SH.dJ{α:Type}{R:kL α}{v:Value}{l:List α}(h:SH w0 M K w hp)(i:Nat)(ho:ed R w BE M v l)(hn:∀b,¬iC hp b):SH w0 M K w (bV hp i (.sr R v l)):=
 h.know i (fun _ h=>h) (ho.sub (fun b a _=>absurd a (hn b)) (fun b a _=>a.elim id (fun h=>absurd h (hn b))))
theorem SH.bI{α:Type}{R:kL α}{v:Value}{l:List α}(h:SH w0 M K w hp)(i:Nat)(a:hp i=.rd R v l):cz R w (SH.A M hp) v l:=by
 have:=h.ok i;rw[a]at this;exact this
theorem SH.srAt{α:Type}{R:kL α}{v:Value}{l:List α}(h:SH w0 M K w hp)(i:Nat)(a:hp i=.sr R v l):ed R w (iC hp) (SH.A M hp) v l:=by
 have:=h.ok i;rw[a]at this;exact this
theorem SH.bF{α:Type}{R:kL α}{E:TypeId}{v:Value}{l:List α}(h:SH w0 M K w hp)(i:Nat)(a:hp i=.own R E v l):cK R E w (SH.A M hp) v l:=by
 have:=h.ok i;rw[a]at this;exact this
theorem SH.yM{b:Nat}{cs:List Value}(h:SH w0 M K w hp)(i:Nat)(a:hp i=.blk b cs):∃E,w.heap[b]? =some (.cells cs.toArray E (0,0)):=by
 have:=h.ok i;rw[a]at this;exact this
theorem SH.ptAt{b o:Nat}{cs:List Value}(h:SH w0 M K w hp)(i:Nat)(c:hp i=.pt b o cs):∃cells E a,w.heap[b]? =some (.cells cells E a)/\(cells.toList.drop o).take cs.length=cs:=by
 have:=h.ok i;rw[c]at this;exact this.2
theorem SH.mpAt{b:Nat}{a:List (Int×Value)}(h:SH w0 M K w hp)(i:Nat)(c:hp i=.mp b a):Gx w b a:=by
 have:=h.ok i;rw[c]at this;exact this
theorem SH.grown(h:SH w0 M BE w hp):Grow w0 w:=h.keep
theorem SH.fresh(h:SH w0 M BE w hp)(i:Nat):∀b,(hp i).own' b->w0.heap.size<=b:=fun b a=>Nat.le_of_not_lt (fun c=>h.old i b a c)
theorem SH.kY{α:Type}{R:kL α}{v:Value}{l:List α}(h:SH w0 M K w hp)(i:Nat)(a:hp i=.rd R v l):ed R w BE (SH.A M hp) v l:=(h.bI i a).src
theorem SH.fT{α:Type}{R:kL α}{v:Value}{l:List α}(h:SH w0 M K w hp)(i:Nat)(a:hp i=.sr R v l):ed R w BE (SH.A M hp) v l:=(h.srAt i a).src
theorem cK.src{α:Type}{R:kL α}{E:TypeId}{w:World}{A:BS}{v:Value}{l:List α}(h:cK R E w A v l):ed R w BE A v l:=by
  obtain⟨xs,c,e⟩:=h;rcases c.2 with⟨rfl,hn⟩|⟨g,cap,cur,rfl,e1,e2,e3,e4,e5,e6⟩
  · have:l=[]:=List.eq_nil_of_length_eq_zero hn;subst this;exact ed.nil
  · refine⟨some ⟨g,0,none⟩,cap,Z,e3,e4,(fun h=>by cases h),fun i a=>⟨g,0,cur,E,(0,0),Z,fun h=>h,e2,?_⟩⟩;have:=R.go (A':=A) (e i a) (bH.refl BE w) (fun _ h=>h.elim) fun b d _=>.inl d;rw[<-e6,List.drop_take,List.take_take,Nat.min_eq_left ?_]at this
    · rw[Nat.zero_add];exact this
    · have:(i+1)*R.sz<=l.length*R.sz:=Nat.mul_le_mul_right _ a;rw[Nat.add_mul]at this;omega
theorem SH.dM{α:Type}{R:kL α}{E:TypeId}{v:Value}{l:List α}(h:SH w0 M K w hp)(i:Nat)(a:hp i=.own R E v l):ed R w BE (SH.A M hp) v l:=(h.bF i a).src
theorem aO:∀b,¬iC hno b:=fun _⟨_,h⟩=>h
theorem uZ{α:Type}{R:kL α}{v:Value}{l:List α}{i:Nat}(h:∀b,¬iC hp b):∀b,¬iC (bV hp i (.rd R v l)) b:=by
  rintro b⟨j,a⟩;by_cases e:j=i
  · subst e;rw[dh]at a;exact a
  · rw[eZ e]at a;exact h b ⟨j,a⟩
theorem aU{α:Type}{R:kL α}{v:Value}{l:List α}{i:Nat}(h:∀b,¬iC hp b):∀b,¬iC (bV hp i (.sr R v l)) b:=by
  rintro b⟨j,a⟩;by_cases e:j=i
  · subst e;rw[dh]at a;exact a
  · rw[eZ e]at a;exact h b ⟨j,a⟩
end
open Go.RowKit
def gv(c:Bool)(v:Value):Value:=(bif c then [v]else []).headD undef
theorem eO{c:Bool}{v:Value}(h:c=true):gv c v=v:=by rw[h];rfl
theorem gl{a b:Bool}(h:(a&&b)=true):a=true:=by cases a<;>simp_all
theorem gr{a b:Bool}(h:(a&&b)=true):b=true:=by cases a<;>simp_all
structure jY(P:Program)(T E:TypeId)(sz bytes:Nat):Prop where
 desc:P.underlying T=some (.slice E)
 info:∃i z,P.info? E=some i/\i.zero=some z/\i.size=sz/\i.bytes=bytes/\z.cells.size=sz
theorem PM{P:Program}{T:TypeId}{z:Option Value}{s:Nat}(h:(P.info? T).map (fun i=>(i.zero,i.size))=some (z,s)):∃i,P.info? T=some i/\i.zero=z/\i.size=s:=by
 cases hi:P.info? T with
 |none=>simp[hi]at h
 |some i=>simp[hi]at h;exact⟨i,Z,h.1,h.2⟩
def uW(w:World)(b:Nat)(o:Obj):World:={w with heap:=w.heap.setIfInBounds b o}
theorem uw{w:World}{b:Nat}{o:Obj}(h:b<w.heap.size):(uW w b o).heap[b]? =some o:=by simp[uW,h]
theorem bH.uW(w:World)(b:Nat)(o:Obj):bH (fun x=>x=b) w (uW w b o):=
 ⟨rfl,rfl,rfl,by simp[LX.uW],fun k a _=>by
  have:b≠k:=fun e=>a (by simp[e]);show(w.heap.setIfInBounds b o)[k]? =_;rw[Array.getElem?_setIfInBounds_ne this]⟩
theorem ZF{w:World}{b o:Nat}{cs:Array Value}{E:TypeId}{c:Nat×Nat}{v:Value}(d:w.heap[b]? =some (.cells cs E c)):w.setCell ⟨b,o,none⟩ v=uW w b (.cells (cs.setIfInBounds o v) E c):=by
  simp only[World.setCell,uW];congr 1;have a:=iB d;apply Array.ext_getElem?;intro i;simp only[Array.getElem?_modify,Array.getElem?_setIfInBounds];by_cases e:b=i
  · subst e;rw[if_pos rfl,if_pos rfl,if_pos a,d];rfl
  · simp[e]
theorem Gy{w:World}{b:Nat}{cs a:Array Value}{E:TypeId}{d:Nat×Nat}(e:w.heap[b]? =some (.cells cs E d)):w.setRow b a=uW w b (.cells a E d):=by
  simp only[World.setRow,uW];congr 1;have c:=iB e;apply Array.ext_getElem?;intro i;simp only[Array.getElem?_modify,Array.getElem?_setIfInBounds];by_cases f:b=i
  · subst f;rw[if_pos rfl,if_pos rfl,if_pos c,e];rfl
  · simp[f]
def Jr(cs:List Value)(o:Nat)(vs:List Value):List Value:=cs.take o++vs++cs.drop (o+vs.length)
def At(w:World)(b o:Nat)(cs:List Value):Prop:=∃cells E a,w.heap[b]? =some (.cells cells E a)/\(cells.toList.drop o).take cs.length=cs
section
variable{P:Program}{ops:Array Oper}{Q:Exit->Act->World->Prop}{n:Nat}{env:Nat->Value}{w w' w0:World}{M K:BS}{hp:Nat->Chunk}{rest:List Oper}
 {d:Option Nat} {op:Op} {ty:TypeId} {pos:String} {af:Array Edge} {v:Value} {g:Option (Nat×Bool)} {T:TypeId} {ρ:Operand->Value} {x y:Operand}
theorem oD{j dj:Nat}{b a:Bool}(c:Bool)(k:(ops[j]?).bind (·.dst)=some dj)(i:ev n env (.tmp dj)=gv c (.bool b))
    (l:(c&&(b==a))=true->(execOp (ev n env) ⟨d,op,ty,pos,af,none⟩).run P w=.ok (.value v) w) (h:WL P ops Q rest n (gm env d (gv (c&&(b==a)) v)) w):
    WL P ops Q (⟨d,op,ty,pos,af,some (j,a)⟩::rest) n env w:=by
  by_cases g:(c&&(b==a))=true
  · have r:=gl g;have e:=gr g;rw[eO r]at i;rw[eO g]at h;have m:b=a:=by simpa using e
    subst m;exact TR k i<|F (l g) h
  · have f:(c&&(b==a))=false:=by simpa using g
    rw[f]at h;cases c with
    |true=>
      refine bW k i ?_ h;simpa using f
    |false=>
      have q:ev n env (.tmp dj)=undef:=i;have p:yielded ops (act n env).tmps j=none:=by
        unfold yielded;have e:(act n env).eval (.tmp dj)=undef:=by rw[gD];exact q
        simp only[k,Option.bind_some];simp only[Act.eval]at e;cases h2:(act n env).tmps[dj]? with
        |none=>rfl
        |some x=>simp[Array.getD_eq_getD_getElem?,h2]at e;subst e;rfl
      have o:Region.wanted ⟨d,op,ty,pos,af,some (j,a)⟩ (yielded ops (act n env).tmps)=false:=by simp[Region.wanted,p]
      refine⟨?_⟩;unfold wpList;rw[if_neg (by rw[o];decide),Dh];exact h.out
theorem aQ{j dj:Nat}{b a:Bool}(f:(ops[j]?).bind (·.dst)=some dj)(e:ev n env (.tmp dj)=.bool b)
    (c:(b==a)=true->(execOp (ev n env) ⟨d,op,ty,pos,af,none⟩).run P w=.ok (.value v) w) (h:WL P ops Q rest n (gm env d (gv (b==a) v)) w):
    WL P ops Q (⟨d,op,ty,pos,af,some (j,a)⟩::rest) n env w:=
  oD true f e (fun h=>c (by simpa using h)) (by simpa using h)
theorem fE{c a:Operand}{b p:Bool}(f:ρ c=.bool b)(h:ρ a=gv (b==false) (.bool p))(e:∀v,ρ (.const v)=v):(execOp ρ ⟨d,.pick c (.const (.bool true)) a,ty,pos,af,g⟩).run P w=.ok (.value (.bool (b||p))) w:=by
 cases b<;>simp_all[execOp,asBool,gv]
theorem iO{c a:Operand}{b p:Bool}(f:ρ c=.bool b)(h:ρ a=gv (b==true) (.bool p))(e:∀v,ρ (.const v)=v):(execOp ρ ⟨d,.pick c a (.const (.bool false)),ty,pos,af,g⟩).run P w=.ok (.value (.bool (b&&p))) w:=by
 cases b<;>simp_all[execOp,asBool,gv]
theorem lV{n:Nat}{env:Nat->Value}:∀v,ev n env (.const v)=v:=fun _=>rfl
theorem gW{T:TypeId}{b:Bool}(a:ρ x=.bool b):(execOp ρ ⟨d,.unOp .not T x,ty,pos,af,g⟩).run P w=.ok (.value (.bool !b)) w:=r_not a
theorem Rc{T2:TypeId}{p q:Bool}(b:P.underlying T=some .bool)(a:ρ x=.bool p)(c:ρ y=.bool q):(execOp ρ ⟨d,.binOp .neq T x y T2,ty,pos,af,g⟩).run P w=.ok (.value (.bool (p !=q))) w:=by
 simp[execOp,a,c,eqGuard,binOp,run_equal_bool w T p q b,bne]
theorem bU{z:Value}{b o:Nat}{cs:List Value}(h:SH w0 M K w hp)(i:Nat)(f:hp i=.blk b cs)(j:One P T z)(e:ρ x=.pointer (some ⟨b,o,none⟩))(c:cs[o]? =some v):
 (execOp ρ ⟨d,.load T x,ty,pos,af,g⟩).run P w=.ok (.value v) w:=let ⟨_,a⟩:=h.yM i f;r_load1 j e a (by simpa using c)
theorem r_loadN{zs vs:List Value}{b o:Nat}{cells:Array Value}{E:TypeId}{s:Nat×Nat}(f:vv P T zs)(p:ρ x=.pointer (some ⟨b,o,none⟩))(l:w.heap[b]? =some (.cells cells E s))(y:(cells.toList.drop o).take zs.length=vs)(n:vs.length=zs.length):
    (execOp ρ ⟨d,.load T x,ty,pos,af,g⟩).run P w=.ok (.value (.agg vs.toArray)) w:=by
  obtain⟨i,q,A,m⟩:=PM f.info;obtain⟨z,r,u⟩:=f.desc;have t:∀j v,vs[j]? =some v->w.cell? ((⟨b,o,none⟩:Addr).add j)=some v:=by
    intro j v a;have c:j<zs.length:=by
      rcases Nat.lt_or_ge j vs.length with h|h
      · omega
      · rw[List.getElem?_eq_none h]at a;cases a
    rw[<-y,List.getElem?_take,if_pos c,List.getElem?_drop]at a;by_cases k:j=0
    · subst k;simpa[Addr.add,World.cell?,l]using a
    · simpa[Addr.add,World.cell?,l,k]using a
  have e:=run_loadCells_list (P:=P) (w:=w) ⟨b,o,none⟩ vs t;rw[n]at e;cases z<;>simp at u<;>simp[execOp,Instr.loadAt,p,Instr.sureAddr,loadVar,isAgg,underlying,r,sizeOf,typeInfo,q,m,e]
theorem wL{zs vs:List Value}{b o:Nat}{cs:List Value}(h:SH w0 M K w hp)(i:Nat)(k:hp i=.blk b cs)(j:vv P T zs)(f:ρ x=.pointer (some ⟨b,o,none⟩))(e:(cs.drop o).take zs.length=vs)(a:vs.length=zs.length):
 (execOp ρ ⟨d,.load T x,ty,pos,af,g⟩).run P w=.ok (.value (.agg vs.toArray)) w:=let ⟨_,c⟩:=h.yM i k;r_loadN j f c (by simpa using e) a
theorem kZ{z:Value}{b o k:Nat}{cs:List Value}(h:At w b o cs)(l:One P T z)(f:ρ x=.pointer (some ⟨b,o+k,none⟩))(a:cs[k]? =some v):
    (execOp ρ ⟨d,.load T x,ty,pos,af,g⟩).run P w=.ok (.value v) w:=by
  obtain⟨cells,E,m,e,i⟩:=h;refine r_load1 l f e ?_;have j:k<cs.length:=by
    rcases Nat.lt_or_ge k cs.length with h1|h1
    · exact h1
    · rw[List.getElem?_eq_none h1]at a;cases a
  have c:((cells.toList.drop o).take cs.length)[k]? =some v:=by rw[i];exact a
  rw[List.getElem?_take,if_pos j,List.getElem?_drop]at c;simpa using c
theorem XM{α:Type}{l:List α}{o k m s:Nat}{cs:List α}(h:(l.drop o).take s=cs)(a:k+m<=s):(l.drop (o+k)).take m=(cs.drop k).take m:=by
 rw[<-h,List.drop_take,List.take_take,List.drop_drop,Nat.min_eq_left V]
theorem lD{zs vs:List Value}{b o k:Nat}{cs:List Value}(h:At w b o cs)(l:vv P T zs)(f:ρ x=.pointer (some ⟨b,o+k,none⟩))(e:(cs.drop k).take zs.length=vs)(a:vs.length=zs.length)(i:k+zs.length<=cs.length):
  (execOp ρ ⟨d,.load T x,ty,pos,af,g⟩).run P w=.ok (.value (.agg vs.toArray)) w:=by
 obtain⟨cells,E,m,c,j⟩:=h;exact r_loadN l f c (by rw[XM j i];exact e) a
theorem fA{z:Value}{b o k:Nat}{cs:List Value}(h:SH w0 M K w hp)(i:Nat)(e:hp i=.pt b o cs)(f:One P T z)(c:ρ x=.pointer (some ⟨b,o+k,none⟩))(a:cs[k]? =some v):
 (execOp ρ ⟨d,.load T x,ty,pos,af,g⟩).run P w=.ok (.value v) w:=kZ (h.ptAt i e) f c a
theorem Ju{zs vs:List Value}{b o k:Nat}{cs:List Value}(h:SH w0 M K w hp)(i:Nat)(l:hp i=.pt b o cs)(j:vv P T zs)(e:ρ x=.pointer (some ⟨b,o+k,none⟩))(c:(cs.drop k).take zs.length=vs)(a:vs.length=zs.length)(f:k+zs.length<=cs.length):
 (execOp ρ ⟨d,.load T x,ty,pos,af,g⟩).run P w=.ok (.value (.agg vs.toArray)) w:=lD (h.ptAt i l) j e c a f
theorem aK{b o k off:Nat}(j:dQ P T k off)(p:ρ x=.pointer (some ⟨b,o,none⟩)):
  (execOp ρ ⟨d,.fieldAddr T x k,ty,pos,af,g⟩).run P w=.ok (.value (.pointer (some ⟨b,o+off,none⟩))) w:=by
 obtain⟨q,f,s,m,h,n,c⟩:=j.desc;obtain⟨i,a,e⟩:∃i,P.info? f.type=some i/\i.size=s+1:=by
  cases a:P.info? f.type with
  |none=>simp[a]at c
  |some i=>simp[a]at c;exact⟨i,Z,c⟩
 by_cases l:off=0<;>simp[execOp,Instr.fieldAt,underlying,m,h,p,Instr.sureAddr,fieldPlace,sizeOf,typeInfo,a,e,n,Addr.add,l]
theorem aR{a:Addr}(b:ρ x=.pointer (some a)):(execOp ρ ⟨d,.nilCheck x,ty,pos,af,g⟩).run P w=.ok (.value (.pointer (some a))) w:=by
 simp[execOp,b]
theorem gM{α:Type}{R:kL α}{E:TypeId}{h:Nat}{B A:BS}{l:List α}{b:World}(f:SliceOf P T E h)(e:ρ x=v)(c:ed R b B A v l):
  (execOp ρ ⟨d,.call {callee:=.builtin .len,args:= #[x],argTypes:= #[T]},ty,pos,af,g⟩).run P w=.ok (.value (.int .i64 l.length)) w:=by
 obtain⟨a,cap,rfl,_⟩:=c;exact oH f e
theorem G8{s:Str}(b:P.underlying T=some .string)(c:ρ x=bB s):
  (execOp ρ ⟨d,.call {callee:=.builtin .len,args:= #[x],argTypes:= #[T]},ty,pos,af,g⟩).run P w=.ok (.value (.int .i64 s.length)) w:=by
 have a:(⟨s.toArray⟩:ByteArray).size=s.length:=by simp[ByteArray.size]
 simp[execOp,resolve,invoke,builtin,Builtin.len_,c,bB,underlying,b,goInt,a]
theorem r_ix{α:Type}{R:kL α}{E:TypeId}{B A:BS}{l:List α}{k:Int}{a:α}{p:World}(s:SliceOf P T E R.sz)(J:ed R p B A v l)(m:0<=k)(f:l[k.toNat]? =some a):
    ∃b o cs,(∀(ρ:Operand->Value) x y w d ty pos af g,ρ x=v->ρ y=.int .i64 k->(execOp ρ ⟨d,.indexAddr T x y,ty,pos,af,g⟩).run P w=.ok (.value (.pointer (some ⟨b,o,none⟩))) w)/\¬B b/\At p b o cs/\R.rd p A cs a:=by
  have e:k.toNat<l.length:=by
    rcases Nat.lt_or_ge k.toNat l.length with h|h
    · exact h
    · rw[List.getElem?_eq_none h]at f;cases f
  obtain⟨a',cap,rfl,N,M,O,I⟩:=J;obtain⟨b,o,cells,c,G,rfl,K,t,q⟩:=I k.toNat e;obtain⟨i,j,u⟩:∃i,P.info? E=some i/\i.size=R.sz:=by
    have:=s.info;cases j:P.info? E with
    |none=>simp[j]at this
    |some i=>simp[j]at this;exact⟨i,Z,this⟩
  have r:l[k.toNat]=a:=by rw[List.getElem?_eq_getElem e]at f;exact Option.some.inj f
  rw[r]at q;refine⟨b,o+k.toNat*R.sz,_,?_,K,⟨cells,c,G,t,by rw[R.len q]⟩,q⟩;intro ρ x y w d ty pos af g C L;simp only[execOp,Instr.indexAt,C,L,asIntOf,underlying,sizeOf,typeInfo];have z:(⟨b,o,none⟩:Addr).add (k.toNat*R.sz)=⟨b,o+k.toNat*R.sz,none⟩:=by
    unfold Addr.add;split
    · next hz=>rw[hz];rfl
    · rfl
  have n:k<(l.length:Int):=by omega
  simp[s.desc,j,u,m,n,z]
theorem SH.pt(h:SH w0 M K w hp)(i:Nat){b o:Nat}{cs:List Value}(a:¬iC hp b)(c:At w b o cs):SH w0 M K w (bV hp i (.pt b o cs)):=
 h.know i (fun _ h=>h) ⟨a,c⟩
theorem Ye{i:Nat}{c:Chunk}(d:∀b,¬c.own' b):∀b,iC (bV hp i c) b->iC hp b:=by
  rintro b⟨j,a⟩;by_cases e:j=i
  · subst e;rw[dh]at a;exact absurd a (d b)
  · rw[eZ e]at a;exact⟨j,a⟩
theorem ed.up{α:Type}{R:kL α}{l:List α}{i:Nat}{c:Chunk}(h:cz R w (SH.A M hp) v l)(d:∀b,¬c.own' b:=by exact fun _ h=>h):cz R w (SH.A M (bV hp i c)) v l:=
 h.sub (fun b a _=>a.imp id (Ye d b)) (fun b a _=>a.imp id (Ye d b))
abbrev IxOk(P:Program)(T:TypeId)(v:Value)(k:Int)(p:Value):Prop:=∀(ρ:Operand->Value) x y w d ty pos af g,ρ x=v->ρ y=.int .i64 k->(execOp ρ ⟨d,.indexAddr T x y,ty,pos,af,g⟩).run P w=.ok (.value p) w
theorem SH.Gz{α:Type}{R:kL α}{E:TypeId}{d:Nat}{l:List α}{k:Int}{a:α}(h:SH w0 M K w hp)(i j:Nat)(g:hp i=.rd R v l)(p:SliceOf P T E d)(e:R.sz=d)(c:0<=k)(f:l[k.toNat]? =some a):
  ∃b o cs,SH w0 M K w (bV hp j (.pt b o cs))/\R.rd w (SH.A M hp) cs a/\IxOk P T v k (.pointer (some ⟨b,o,none⟩)):=by
 subst e;obtain⟨b,o,cs,q,n,s,m⟩:=r_ix p (h.bI i g) c f;exact⟨b,o,cs,h.pt j (fun r=>n<|.inr r) s,m,q⟩
theorem SH.AR{α:Type}{R:kL α}{E:TypeId}{d:Nat}{l:List α}{k:Int}{a:α}(h:SH w0 M K w hp)(i j:Nat)(g:hp i=.sr R v l)(p:SliceOf P T E d)(e:R.sz=d)(c:0<=k)(f:l[k.toNat]? =some a):
  ∃b o cs,SH w0 M K w (bV hp j (.pt b o cs))/\R.rd w (SH.A M hp) cs a/\IxOk P T v k (.pointer (some ⟨b,o,none⟩)):=by
 subst e;obtain⟨b,o,cs,q,n,r,m⟩:=r_ix p (h.srAt i g) c f;exact⟨b,o,cs,h.pt j n r,m,q⟩
def Nw(o:Option Value)(a:Int)(b:Nat):Prop:=(o=none/\a=b)\/o=some (.int .i64 a)
def cut{α:Type}(l:List α)(a b:Int):List α:=(l.take b.toNat).drop a.toNat
theorem r_slv{α:Type}{R:kL α}{E:TypeId}{a b:Int}{B A:BS}{l:List α}{K:World}(Q:SliceOf P T E R.sz)(hv:ed R K B A v l)(ha:0<=a)(h:a<=b)(S:b<=l.length):
    ∃u,(∀(ρ:Operand->Value) x (t m:Option Operand) w d ty pos af g,ρ x=v->Nw (t.map ρ) a 0->Nw (m.map ρ) b l.length->(execOp ρ ⟨d,.slice T x t m none,ty,pos,af,g⟩).run P w=.ok (.value u) w)/\ed R K B A u (cut l a b)/\(∀(s:World) (q p:BS) (n:List α),ed R s q p v n->n.length=l.length->ed R s q p u (cut n a b)):=by
  obtain⟨a,rfl⟩:=Int.eq_ofNat_of_zero_le ha;obtain⟨b,rfl⟩:=Int.eq_ofNat_of_zero_le (by omega:0<=b);have h:a<=b:=by omega
  have S:b<=l.length:=by omega
  obtain⟨ad,cap,rfl,X,O,N,z⟩:=hv;obtain⟨i,G,I⟩:∃i,P.info? E=some i/\i.size=R.sz:=by
    have:=Q.info;cases m:P.info? E with
    |none=>simp[m]at this
    |some i=>simp[m]at this;exact⟨i,Z,this⟩
  have r:b<=cap:=by omega
  refine⟨.slice (if cap=a then ad else ad.map (·.add (a*R.sz))) (b-a)<|cap-a,fun ρ x t m w d ty pos af g hx J M=>?_,?_⟩
  · have L:(Instr.sliceBounds true l.length cap (t.map ρ) (m.map ρ) none).run P w=.ok (a,b,cap) w:=by
      have h0:(0:Int)<=(a:Int):=Int.natCast_nonneg a;have a3:(0:Int)<=(b:Int):=Int.natCast_nonneg b;have a4:(a:Int)<=(b:Int):=by omega
      have a6:(b:Int)<=(cap:Int):=by omega
      rcases J with⟨k,e2⟩|k<;>rcases M with⟨f1,f2⟩|f1
      · obtain rfl:a=0:=by omega
        obtain rfl:b=l.length:=by omega
        simp[Instr.sliceBounds,k,f1]
      · obtain rfl:a=0:=by omega
        simp[Instr.sliceBounds,k,f1,Instr.sliceBound,asIntOf,r]
      · obtain rfl:b=l.length:=by omega
        simp[Instr.sliceBounds,k,f1,Instr.sliceBound,asIntOf,h]
      · simp[Instr.sliceBounds,k,f1,Instr.sliceBound,asIntOf,h,r]
    simp only[execOp,Instr.sliceAt,Instr.slice,underlying,hx];simp[Q.desc,L,sizeOf,typeInfo,G,I]
  suffices e:∀(s:World) (q p:BS) (n:List α),ed R s q p (.slice ad l.length cap) n->n.length=l.length->ed R s q p (.slice (if cap=a then ad else ad.map (·.add (a*R.sz))) (b-a) (cap-a)) (cut n a b)from⟨e _ _ _ l ⟨ad,cap,Z,X,O,N,z⟩ Z,e⟩
  · intro K B A l⟨a5,a0,e0,X,O,N,z⟩a1;obtain⟨y,a2,C⟩:=Value.slice.inj e0;subst y;subst C;have S:b<=l.length:=by omega
    have f:(cut l a b).length=b-a:=by simp[cut];omega
    refine⟨_,cap-a,by rw[f],by rw[f];omega,by omega,?_,?_⟩
    · intro hn;split at hn
      · omega
      · cases ad with
        |none=>have:=N Z;omega
        |some x=>simp at hn
    · intro j hj;rw[f]at hj;obtain⟨bb,o,cells,c,fz,k,e2,e3,e4⟩:=z (a+j) V;subst k;refine⟨bb,o+a*R.sz,cells,c,fz,?_,e2,e3,?_⟩
      · rw[if_neg V];simp only[Option.map_some,Option.some.injEq];unfold Addr.add;split
        · next hz=>rw[hz];rfl
        · rfl
      · have:(cut l a b)[j]'(by rw[f];exact hj)=l[a+j]'V:=by simp[cut]
        rw[this];rw[show o+a*R.sz+j*R.sz=o+(a+j)*R.sz by rw[Nat.add_mul,Nat.add_assoc]];exact e4
theorem r_sl{α:Type}{R:kL α}{E:TypeId}{a b:Int}{B A:BS}{l:List α}{e:World}(k:SliceOf P T E R.sz)(o:ed R e B A v l)(i:0<=a)(c:a<=b)(m:b<=l.length):
  ∃u,(∀(ρ:Operand->Value) x (h f:Option Operand) w d ty pos af g,ρ x=v->Nw (h.map ρ) a 0->Nw (f.map ρ) b l.length->(execOp ρ ⟨d,.slice T x h f none,ty,pos,af,g⟩).run P w=.ok (.value u) w)/\ed R e B A u (cut l a b):=
 let ⟨u,n,j,_⟩:=r_slv k o i c m;⟨u,n,j⟩
abbrev SlOk(P:Program)(T:TypeId)(v:Value)(a b:Int)(n:Nat)(u:Value):Prop:=∀(ρ:Operand->Value) x (c e:Option Operand) w d ty pos af g,ρ x=v->Nw (c.map ρ) a 0->Nw (e.map ρ) b n->(execOp ρ ⟨d,.slice T x c e none,ty,pos,af,g⟩).run P w=.ok (.value u) w
theorem SH.slR{α:Type}{R:kL α}{E:TypeId}{d:Nat}{a b:Int}{l:List α}(h:SH w0 M K w hp)(i j:Nat)(g:hp i=.rd R v l)(m:SliceOf P T E d)(e:R.sz=d)(f:0<=a)(c:a<=b)(n:b<=l.length):
  ∃u,SH w0 M K w (bV hp j (.rd R u (cut l a b)))/\SlOk P T v a b l.length u:=by
 subst e;obtain⟨u,o,k⟩:=r_sl m (h.bI i g) f c n;exact⟨u,h.aJ j k,o⟩
theorem SH.slS{α:Type}{R:kL α}{E:TypeId}{d:Nat}{a b:Int}{l:List α}(h:SH w0 M K w hp)(i j:Nat)(g:hp i=.sr R v l)(m:SliceOf P T E d)(e:R.sz=d)(f:0<=a)(c:a<=b)(n:b<=l.length):
  ∃u,SH w0 M K w (bV hp j (.sr R u (cut l a b)))/\SlOk P T v a b l.length u:=by
 subst e;obtain⟨u,o,k⟩:=r_sl m (h.srAt i g) f c n;exact⟨u,h.know j (fun _ h=>h) k,o⟩
theorem r_allocN{zs:List Value}(c:vv P T zs):(execOp ρ ⟨d,.alloc T,ty,pos,af,g⟩).run P w=.ok (.value (.pointer (some ⟨w.heap.size,0,none⟩))) (w.alloc (.cells zs.toArray T)):=by
 obtain⟨i,b,a,e⟩:=PM c.info;simp[execOp,Instr.alloc,zeroValue,typeInfo,b,a,newVar,newRow,Value.cells,World.alloc,-World.alloc_eq]
theorem r_alloc1{z:Value}(a:One P T z):(execOp ρ ⟨d,.alloc T,ty,pos,af,g⟩).run P w=.ok (.value (.pointer (some ⟨w.heap.size,0,none⟩))) (w.alloc (.cells #[z] T)):=by
 obtain⟨i,c,b,e⟩:=PM a.info;simp[execOp,Instr.alloc,zeroValue,typeInfo,c,b,newVar,newRow,a.cell,World.alloc,-World.alloc_eq]
theorem r_box(a:ρ x=v):(execOp ρ ⟨d,.box T x,ty,pos,af,g⟩).run P w=.ok (.value (.pointer (some ⟨w.heap.size,0,none⟩))) (w.alloc (.cells v.cells T)):=by
 simp[execOp,Instr.box,newVar,newRow,a,World.alloc,-World.alloc_eq]
theorem SH.newB(h:SH w0 M K w hp)(i:Nat)(cs:List Value)(T:TypeId):SH w0 M K (w.alloc (.cells cs.toArray T)) (bV hp i (.blk w.heap.size cs)):=
 h.learn i (Grow.alloc _ _) (fun b a=>Nat.le_of_eq a.symm) ⟨T,MH _ _⟩
theorem bz{zs:List Value}(h:SH w0 M K w hp)(i:Nat)(a:vv P T zs)(k:∀w' b,SH w0 M K w' (bV hp i (.blk b zs))->WL P ops Q rest n (gm env d (.pointer (some ⟨b,0,none⟩))) w'):WL P ops Q (⟨d,.alloc T,ty,pos,af,none⟩::rest) n env w:=
 F (r_allocN a) (k _ _ (h.newB i zs T))
theorem xh{z:Value}(h:SH w0 M K w hp)(i:Nat)(a:One P T z)(k:∀w' b,SH w0 M K w' (bV hp i (.blk b [z]))->WL P ops Q rest n (gm env d (.pointer (some ⟨b,0,none⟩))) w'):WL P ops Q (⟨d,.alloc T,ty,pos,af,none⟩::rest) n env w:=
 F (r_alloc1 a) (k _ _ (h.newB i [z] T))
theorem iL{cs:List Value}(h:SH w0 M K w hp)(i:Nat)(a:ev n env x=v)(c:v.cells=cs.toArray)(k:∀w' b,SH w0 M K w' (bV hp i (.blk b cs))->WL P ops Q rest n (gm env d (.pointer (some ⟨b,0,none⟩))) w'):WL P ops Q (⟨d,.box T x,ty,pos,af,none⟩::rest) n env w:=
 F (by rw[r_box a,c]) (k _ _ (h.newB i cs T))
theorem PN{z:Value}{b o:Nat}{cs:Array Value}{E:TypeId}(m:One P T z)(k:ρ x=.pointer (some ⟨b,o,none⟩))(a:w.heap[b]? =some (.cells cs E (0,0)))(ho:o<cs.size)(n:ρ y=v)(e:v.oneCell'=true):
  (execOp ρ ⟨d,.store T x y,ty,pos,af,g⟩).run P w=.ok .skip (uW w b (.cells (cs.setIfInBounds o v) E (0,0))):=by
 obtain⟨i,l,p,h⟩:=PM m.info;have j:w.cell? ⟨b,o,none⟩=some cs[o]:=by simp[World.cell?,a,ho]
 have f:w.frozen? ⟨b,o,none⟩=false:=by simp[World.frozen?,a]
 have c:v.cells= #[v]:=by cases v<;>first|rfl|simp[Value.oneCell']at e
 rw[<-ZF a];simp only[execOp,Instr.storeAt,k,n,Instr.sureAddr,storeVar,c,sizeOf,typeInfo];simp[l,h,storeCells,run_store _ _ _ _ _ e,j,f,Addr.add]
theorem PO{zs vs:List Value}{b o:Nat}{cs:List Value}{E:TypeId}(k:vv P T zs)(h:ρ x=.pointer (some ⟨b,o,none⟩))(a:w.heap[b]? =some (.cells cs.toArray E (0,0)))(l:ρ y=.agg vs.toArray)(c:vs.length=zs.length)(ho:o+vs.length<=cs.length)(f:∀v∈vs,v.oneCell'=true):
  (execOp ρ ⟨d,.store T x y,ty,pos,af,g⟩).run P w=.ok .skip (uW w b (.cells (Jr cs o vs).toArray E (0,0))):=by
 obtain⟨i,j,m,e⟩:=PM k.info;have:=run_storeCells_at (P:=P) b o E vs 0 cs.toArray w a (by simpa using ho) f;simp only[execOp,Instr.storeAt,h,l,Instr.sureAddr,storeVar,Value.cells,sizeOf,typeInfo];simp[j,e,c,this,Gy a,Jr]
theorem SH.putB{b:Nat}{cs:List Value}(h:SH w0 M K w hp)(i:Nat)(e:hp i=.blk b cs)(a:List Value)(E:TypeId):SH w0 M K (uW w b (.cells a.toArray E (0,0))) (bV hp i (.blk b a)):=by
 have c:=h.yM i e;obtain⟨f,c⟩:=c;exact h.step i (bH.uW _ _ _) (fun x d _=>by rw[e];exact d) (fun x d _=>by rw[e];exact d) ⟨E,uw (iB c)⟩
theorem gF{z:Value}{b o:Nat}{cs:List Value}(h:SH w0 M K w hp)(i:Nat)(a:List Value)(e:hp i=.blk b cs)(g:One P T z)(l:ev n env x=.pointer (some ⟨b,o,none⟩))(m:ev n env y=v)(ho:cs.set o v=a)(c:Nat.blt o cs.length=true)(j:v.oneCell'=true)
  (k:∀w',SH w0 M K w' (bV hp i (.blk b a))->WL P ops Q rest n (gm env d undef) w'):
  WL P ops Q (⟨d,.store T x y,ty,pos,af,none⟩::rest) n env w:=by
 obtain⟨E,f⟩:=h.yM i e;refine zx (PN g l f (by rw[Nat.blt_eq]at c;simpa using c) m j) (k _ ?_);have:=h.putB i e a E;subst ho;simpa using this
theorem w_stN{zs vs:List Value}{b o:Nat}{cs:List Value}(h:SH w0 M K w hp)(i:Nat)(a:List Value)(e:hp i=.blk b cs)(j:vv P T zs)(g:ev n env x=.pointer (some ⟨b,o,none⟩))(p:ev n env y=.agg vs.toArray)(f:vs.length=zs.length)(ho:Jr cs o vs=a)(l:Nat.ble (o+vs.length) cs.length=true)(m:∀v∈vs,v.oneCell'=true)
  (k:∀w',SH w0 M K w' (bV hp i (.blk b a))->WL P ops Q rest n (gm env d undef) w'):
  WL P ops Q (⟨d,.store T x y,ty,pos,af,none⟩::rest) n env w:=by
 obtain⟨E,c⟩:=h.yM i e;subst ho;exact zx (PO j g c p f (Nat.le_of_ble_eq_true l) m)<|k _<|h.putB i e _ E
def PQ(P:Program)(f:FuncId):Prop:=∃a,P.funcs[f]? =some a/\(a.name== "runtime.NumGoroutine")=false/\a.body.isNone=false
theorem r_call{f:FuncId}{first captured:Array Value}{xs:Array Operand}{h:Array TypeId}(k:PQ P f)(m:ρ x=.func (.func f) first captured):
  (execOp ρ ⟨d,.call {callee:=.value x,args:=xs,argTypes:=h},ty,pos,af,g⟩).run P w=.ok (.enter f (first++xs.map ρ++captured)) w:=by
 obtain⟨c,j,i,l⟩:=k;have a:¬c.name= "runtime.NumGoroutine" :=by simpa using i
 have b:¬c.body=none:=fun e=>by simp[e]at l
 simp[execOp,resolve,m,Deferred.ofValue,invoke,callFunc,j,a,b]
theorem bT{f:FuncId}{first captured:Array Value}{xs:Array Operand}{c:Array TypeId}{args:List Value}{R:Ending->World->Prop}(a:PQ P f)(i:ev n env x=.func (.func f) first captured)
  (b:first.toList++xs.toList.map (ev n env)++captured.toList=args) (g:Calls P f args.toArray w R)
  (h:∀e w',R e w'->∃v,e=.returned v/\WL P ops Q rest n (gm env d v) w'):
  WL P ops Q (⟨d,.call {callee:=.value x,args:=xs,argTypes:=c},ty,pos,af,none⟩::rest) n env w:=by
 refine wl_enter (r_call a i) ?_ h;have:first++xs.map (ev n env)++captured=args.toArray:=by
  rw[<-b];apply Array.ext';simp
 rw[this];exact g
theorem dR{i:Nat}{vs:List Value}(a:ρ x=.tuple vs.toArray)(b:vs[i]? =some v):(execOp ρ ⟨d,.extract x i,ty,pos,af,g⟩).run P w=.ok (.value v) w:=by
 simp[execOp,Instr.extract,a,b]
theorem vw{f:FuncId}{first captured:Array Operand}{c1 c2:List Value}(b:first.toList.map ρ=c1)(e:captured.toList.map ρ=c2):
  (execOp ρ ⟨d,.makeFunc (.func f) first captured,ty,pos,af,g⟩).run P w=.ok (.value (.func (.func f) c1.toArray c2.toArray)) w:=by
 have a:first.map ρ=c1.toArray:=by rw[<-b];apply Array.ext';simp
 have c:captured.map ρ=c2.toArray:=by rw[<-e];apply Array.ext';simp
 simp[execOp,Instr.makeFunc,a,c]
theorem calls_start{f:FuncId}{a:Func}{c:Code}{args:List Value}{R:Ending->World->Prop}{n:Nat}
  (d:P.funcs[f]? =some a) (b:a.body=some c) (hn:a.ntmps=n) (e:args.length<=n)
  (h:WC P c (bodyPost P a R) n (Ra args) w):Calls P f args.toArray w R:=by
 refine calls_of_wp d b ?_;rw[hn,act_init n args e];exact h.out
theorem bg{a:Func}{R:Ending->World->Prop}{t:Tmp}(b:a.results= #[.tmp t])(c:ev n env (.tmp t)=v)(h:R (.returned v) w):bodyPost P a R .ret (act n env) w:=by
 refine⟨Z,v,?_,h⟩;rw[results_tmp b];have:=congrFun (gD n env)<|.tmp t;rw[c]at this;exact congrArg (fun v=>Result.ok v w) this
theorem fin0{a:Func}{R:Ending->World->Prop}(b:a.results= #[])(h:R (.returned (.tuple #[])) w):bodyPost P a R .ret (act n env) w:=⟨rfl,_,results_none b _ _ _,h⟩
theorem PR{a:Func}{R:Ending->World->Prop}(b:a.results= #[])(h:R (.returned (.tuple #[])) w):bodyPost P a R .normal (act n env) w:=⟨rfl,_,results_none b _ _ _,h⟩
theorem wM{c:Func}{R:Ending->World->Prop}{t u:Tmp}{v1 v2:Value}(e:c.results= #[.tmp t,.tmp u])(f:ev n env (.tmp t)=v1)(d:ev n env (.tmp u)=v2)(h:R (.returned (.tuple #[v1,v2])) w):bodyPost P c R .ret (act n env) w:=by
 refine⟨Z,_,?_,h⟩;rw[results_tmp2 e];have a:=congrFun (gD n env)<|.tmp t;have b:=congrFun (gD n env)<|.tmp u;rw[f]at a;rw[d]at b;simp only[Act.eval]at a b;rw[a,b]
end
section
variable{α β σ ρ:Type}{r:ρ}{G:Prop}
theorem jN{b:Bool}{X a:ρ}(c:cond b X a=r)(d:b=true->X=r->G)(e:b=false->a=r->G):G:=by
  cases b
  · exact e Z c
  · exact d Z c
theorem az{o:Option α}{f:α->Option β}{r:β}(h:o.bind f=some r):∃x,o=some x/\f x=some r:=by
 cases o with
 |none=>cases h
 |some x=>exact⟨x,rfl,h⟩
def ic(p:Prop) [Decidable p](x:Option β):Option β:=if p then x else none
theorem bC{p:Prop} [Decidable p]{x:Option β}{r:β}(h:ic p x=some r):p/\x=some r:=by
  unfold ic at h;by_cases hp:p
  · rw[if_pos hp]at h;exact⟨hp,h⟩
  · rw[if_neg hp]at h;cases h
def idx(l:List α)(k:Int):Option α:=if 0<=k then l[k.toNat]? else none
theorem aF{l:List α}{k:Int}{x:α}(h:idx l k=some x):0<=k/\l[k.toNat]? =some x:=by
  unfold idx at h;by_cases hp:0<=k
  · rw[if_pos hp]at h;exact⟨hp,h⟩
  · rw[if_neg hp]at h;cases h
def sub?(l:List α)(a b:Int):Option (List α):=if 0<=a/\a<=b/\b<=l.length then some (cut l a b)else none
theorem PS{l:List α}{a b:Int}{x:List α}(h:sub? l a b=some x):x=cut l a b/\0<=a/\a<=b/\b<=l.length:=by
  unfold sub? at h;by_cases hp:0<=a/\a<=b/\b<=l.length
  · rw[if_pos hp]at h;cases h;exact⟨Z,hp⟩
  · rw[if_neg hp]at h;cases h
def ko(x:Int):Prop:= -9223372036854775808<=x/\x<=9223372036854775807
def i64b:Int->Bool
 | .ofNat n=>Nat.ble n 9223372036854775807
 | .negSucc n=>Nat.ble n 9223372036854775807
theorem i64b_iff{x:Int}:i64b x=true↔ko x:=by
 unfold ko;cases x with
 |ofNat n=>simp[i64b,Nat.ble_eq];omega
 |negSucc n=>simp[i64b,Nat.ble_eq];omega
instance (x:Int):Decidable (ko x):=decidable_of_iff (i64b x=true) i64b_iff
theorem ko.mk{x:Int}(b: -9223372036854775808<=x)(a:x<=9223372036854775807):ko x:=⟨b,a⟩
def each(body:α->σ->(σ->ρ)->ρ)(k:σ->ρ):List α->σ->ρ
 |[],s=>k s
 |x::r,s=>body x s (each body k r)
def iQ(body:Int->α->σ->(σ->ρ)->ρ)(k:σ->ρ):Int->List α->σ->ρ
 |_,[],s=>k s
 |i,x::r,s=>body i x s (iQ body k (i+1) r)
def upto(body:Int->σ->(σ->ρ)->ρ)(k:σ->ρ):Int->Nat->σ->ρ
 |_,0,s=>k s
 |i,m+1,s=>body i s (upto body k (i+1) m)
def again(body:σ->(σ->Option β)->Option β):Nat->σ->Option β
 |0,_=>none
 |n+1,s=>body s (again body n)
end
section
variable{P:Program}{Q:Exit->Act->World->Prop}{n:Nat}{env:Nat->Value}{w:World}{x y:Code}
theorem aA{ρ:Type}{r X a:ρ}{c:Operand}{b:Bool}(d:cond b X a=r)(f:ev n env c=.bool b)(e:b=true->X=r->WC P x Q n env w)(g:b=false->a=r->WC P y Q n env w):
 WC P (Code.cond c x y) Q n env w:=eP f (fun h=>e h (by rw[h]at d;exact d)) (fun h=>g h (by rw[h]at d;exact d))
def JP{σ:Type}(n:Nat)(mod:Nat->Bool)(Ra:Nat->Value)(live:σ->List (Nat×Value))(J:σ->World->Prop):Act->World->Prop:=
 fun a' w'=>∃s e,a'=act n e/\Gr mod e Ra/\Holds e (live s)/\J s w'
def JL{σ:Type}(n:Nat)(mod:Nat->Bool)(Ra:Nat->Value)(live:σ->List (Nat×Value))(J:σ->World->Prop)(a:σ->Nat)(b:σ):Act->World->Prop:=
 fun a' w'=>∃s e,a'=act n e/\Gr mod e Ra/\Holds e (live s)/\J s w'/\a s<a b
theorem fw{σ:Type}{c:Code}(mod:Nat->Bool)(live:σ->List (Nat×Value))(J:σ->World->Prop)(e:σ->Nat)(b:σ)
 (f:Holds env (live b)) (g:J b w)
 (a:∀s d h,J s d->WC P c (Exit.then (JL n mod env live J e s) Q) n (XL (hav mod h env) (live s)) d):
 WC P (Code.loop c) Q n env w:=wc_loop mod live J e b f g a
theorem bS{σ:Type}(mod:Nat->Bool)(live:σ->List (Nat×Value))(J:σ->World->Prop)
  (d:∀s w i,J s w->WC P y Q n (XL (hav mod i env) (live s)) w)
  (h:WC P x (Exit.then (JP n mod env live J) Q) n env w):WC P (Code.seq x y) Q n env w:=by
 refine aD ⟨wp_mono h.out fun f a w h=>?_⟩;cases f with
 |normal=>
  obtain⟨s,e,rfl,g,b,c⟩:=h;have:=d s w e c;rw[hav_self g,Rb _ b]at this;exact this.out
 |_=>exact h
end
section
variable{K:Act->World->Prop}{Q:Exit->Act->World->Prop}{a:Act}{w:World}{i j:Nat}
theorem ah(h:K a w):Exit.then K Q .normal a w:=h
theorem ai(h:Q .ret a w):Exit.then K Q .ret a w:=h
theorem bX(h:Q (.exit i) a w):Exit.then K Q (.exit i) a w:=h
theorem ak(h:Q .normal a w):Exit.inBlock i Q .normal a w:=h
theorem aC(h:Q .ret a w):Exit.inBlock i Q .ret a w:=h
theorem fu(h:Q .normal a w):Exit.inBlock i Q (.exit i) a w:=by simp only[Exit.inBlock,if_true];exact h
theorem Fu(hn:¬j=i)(h:Q (.exit j) a w):Exit.inBlock i Q (.exit j) a w:=by simp only[Exit.inBlock,if_neg hn];exact h
end
theorem Gr.os{mod:Nat->Bool}{e a:Nat->Value}{d:Nat}{v:Value}(b:mod d=true)(h:Gr mod e a):Gr mod (gm e (some d) v) a:=Gr.upd b h
theorem Gr.on{mod:Nat->Bool}{e a:Nat->Value}{v:Value}(h:Gr mod e a):Gr mod (gm e none v) a:=h
theorem Gr.uc{mod:Nat->Bool}{e a:Nat->Value}{d:Nat}{v:Value}{l:List (Nat×Value)}(b:mod d=true)(h:Gr mod (XL e l) a):Gr mod (XL e ((d,v)::l)) a:=Gr.upd b h
theorem Gr.un{mod:Nat->Bool}{e a:Nat->Value}(h:Gr mod e a):Gr mod (XL e []) a:=h
def inl(l:List Nat)(i:Nat):Bool:=match l with|[]=>false|a::r=>bif Nat.beq i a then true else inl r i
def subl(l m:List Nat):Bool:=match l with|[]=>true|a::r=>bif inl m a then subl r m else false
theorem subl_inl{m:List Nat}:∀{l:List Nat},subl l m=true->∀i,inl l i=true->inl m i=true
 |[],_,i,h=>by simp[inl]at h
 |a::r,hs,i,h=>by
  unfold subl at hs;unfold inl at h;cases ha:inl m a with
  |false=>simp[ha]at hs
  |true=>
   simp only[ha,cond_true]at hs;cases hb:Nat.beq i a with
   |true=>have:=Nat.eq_of_beq_eq_true hb;subst this;exact ha
   |false=>simp only[hb,cond_false]at h;exact subl_inl hs i h
theorem Gr.hin{l m:List Nat}{j e a:Nat->Value}(c:subl l m=true)(h:Gr (inl m) e a):Gr (inl m) (LX.hav (inl l) j e) a:=fun i b=>by
 have:inl l i=false:=by
  cases hc:inl l i with
  |false=>rfl
  |true=>rw[subl_inl c i hc]at b;cases b
 simp only[LX.hav,this,cond_false];exact h i b
open Go.RowKit
theorem ed.row{α:Type}{R:kL α}{w:World}{B A:BS}{v:Value}{l:List α}(h:ed R w B A v l):
    (v=.slice none 0 0/\l=[])\/∃(a:Addr) (cap:Nat) (news:List Value),v=.slice (some a) l.length cap/\news.length=l.length*R.sz/\(∀j u,news[j]? =some u->w.cell? (a.add j)=some u)/\(∀u∈news,u.oneCell'=true)/\
      ∀i (h:i<l.length),R.rd w A ((news.drop (i*R.sz)).take R.sz) l[i]:=by
  obtain⟨a,cap,rfl,O,N,G,x⟩:=h;cases a with
  |none=>
    have C:=G Z;subst C;have p:l=[]:=List.eq_nil_of_length_eq_zero V;subst p;exact .inl ⟨Z,Z⟩
  |some a=>
    right;by_cases p:l.length=0
    · have:l=[]:=List.eq_nil_of_length_eq_zero p;subst this;exact⟨a,cap,[],Z,by simp,fun j u h=>by simp at h,fun u h=>by simp at h,fun i h=>absurd h<|Nat.not_lt_zero _⟩
    · obtain⟨b,o,cells,E,L,q,P,s,I⟩:=x 0 V;cases q;have f:∀i (c:i<l.length),R.rd w A ((cells.toList.drop<|o+i*R.sz).take R.sz) l[i]:=by
        intro i c;obtain⟨b',J,n,M,z,q,_,m,r⟩:=x i c;cases q;rw[s]at m;cases m;exact r
      have e:=R.len<|f (l.length-1) V;simp only[List.length_take,List.length_drop,Array.length_toList]at e;have g:=R.pos;have t:o+l.length*R.sz<=cells.size:=by
        have K:l.length*R.sz=(l.length-1)*R.sz+R.sz:=by
          conv=>lhs;rw[show l.length=(l.length-1)+1 by omega]
          rw[Nat.add_mul,Nat.one_mul]
        omega
      refine⟨⟨b,o,none⟩,cap,(cells.toList.drop o).take<|l.length*R.sz,Z,?_,?_,?_,?_⟩
      · simp only[List.length_take,List.length_drop,Array.length_toList];omega
      · intro j u d;rw[List.getElem?_take]at d;split at d
        · rw[List.getElem?_drop]at d;have y:(⟨b,o,none⟩:Addr).add j=⟨b,o+j,none⟩:=by unfold Addr.add;split<;>simp_all
          rw[y];simpa[World.cell?,s]using d
        · cases d
      · intro u d;obtain⟨j,k⟩:=List.getElem?_of_mem d;rw[List.getElem?_take]at k;split at k
        · next hlt=>
          rw[List.getElem?_drop]at k;have c:j / R.sz<l.length:=Nat.div_lt_of_lt_mul (by rw[Nat.mul_comm];exact hlt);refine R.one (f (j / R.sz) c) u ?_;refine List.mem_of_getElem? (i:=j%R.sz) ?_;rw[List.getElem?_take,if_pos (Nat.mod_lt _ g),List.getElem?_drop];rw[show o+j / R.sz*R.sz+j%R.sz=o+j by rw[Nat.add_assoc,Nat.div_add_mod' j R.sz]];exact k
        · cases k
      · intro i c;rw[List.drop_take,List.take_take,List.drop_drop,Nat.min_eq_left]
        · exact f i c
        · have:(i+1)*R.sz<=l.length*R.sz:=Nat.mul_le_mul_right _ c;rw[Nat.add_mul]at this;omega
theorem Yf(c:List Value):∀(cells:Array Value) (o:Nat),o+c.length<=cells.size->
  (c.zipIdx.foldl (fun cs(p:Value×Nat)=>cs.setIfInBounds (o+p.2) p.1) cells).toList=Jr cells.toList o c:=by
 suffices a:∀(k:Nat) (cells:Array Value) (o:Nat),o+k+c.length<=cells.size->
   ((c.zipIdx k).foldl (fun cs(p:Value×Nat)=>cs.setIfInBounds (o+p.2) p.1) cells).toList=Jr cells.toList (o+k) c by
  intro cells o h;have:=a 0 cells o (by simpa using h);simpa using this
 induction c with
 |nil=>intro k cells o h;simp[Jr]
 |cons x r ih=>
  intro k cells o h;simp only[List.length_cons]at h;rw[List.zipIdx_cons,List.foldl_cons,ih (k+1) _ o (by simp;omega)];simp only[Array.toList_setIfInBounds,Jr];rw[show o+(k+1)=o+k+1 by omega];apply List.ext_getElem?;intro i;simp only[List.append_assoc,List.getElem?_append,List.length_take,List.length_set,Array.length_toList,List.getElem?_take,List.getElem?_set,List.getElem?_drop,List.length_cons,List.getElem?_cons]
  grind
theorem UY{a:Nat}(l:0<a):∀(vs:List Value) (k:Nat) (cells:Array Value),(∀v∈vs,v.cells.size=a)->(k+vs.length)*a<=cells.size->
    ∃out,Instr.fill (fun i=>some (i*a,a)) cells ((vs.zipIdx k).map fun p=>(p.2,p.1))=some out/\out.toList=Jr cells.toList (k*a) (vs.map fun v=>v.cells.toList).flatten
  |[],k,cells,_,_=>⟨cells,rfl,by simp[Jr]⟩
  |v::r,k,cells,hv,hs=>by
    have g:v.cells.size=a:=hv v zq3;simp only[List.length_cons]at hs;have e:(k+1+r.length)*a<=cells.size:=by rw[show k+1+r.length=k+(r.length+1) by omega];exact hs
    have m:k*a+a<=cells.size:=by
      have:(k+1)*a<=(k+1+r.length)*a:=Nat.mul_le_mul_right _ V;rw[Nat.add_mul,Nat.one_mul]at this;omega
    have j:=Yf v.cells.toList cells (k*a) (by rw[Array.length_toList,g];exact m);let c2:=v.cells.zipIdx.foldl (fun cs(p:Value×Nat)=>cs.setIfInBounds (k*a+p.2) p.1) cells;have b:c2.toList=Jr cells.toList (k*a) v.cells.toList:=by
      rw[<-j];show(v.cells.zipIdx.foldl _ cells).toList=_;rw[<-Array.foldl_toList,Array.toList_zipIdx]
    have h:c2.size=cells.size:=by
      have:=congrArg List.length b;simp only[Jr,List.length_append,List.length_take,List.length_drop,Array.length_toList]at this;omega
    obtain⟨out,d,f⟩:=UY l r (k+1) c2 (fun x n=>hv x (by simp[n])) (by rw[h];exact e);refine⟨out,?_,?_⟩
    · rw[List.zipIdx_cons,List.map_cons];unfold Instr.fill;simp only[g,ne_eq,not_true_eq_false,decide_false,Bool.false_or];rw[if_neg (by simp;omega)];exact d
    · rw[f,b];simp only[List.map_cons,List.flatten_cons,Jr];rw[show(k+1)*a=k*a+a by rw[Nat.add_mul,Nat.one_mul]];have o:v.cells.toList.length=a:=by rw[Array.length_toList,g]
      generalize v.cells.toList=c at*;generalize (r.map fun v=>v.cells.toList).flatten=q;apply List.ext_getElem?;intro i;simp only[List.append_assoc,List.getElem?_append,List.length_take,Array.length_toList,List.length_append,List.getElem?_take,List.getElem?_drop,List.length_drop]
      grind
def H8{α:Type}(R:kL α)(w:World)(A:BS):List Value->List α->Prop
 |[],[]=>True
 |v::vs,x::xs=>R.rd w A v.cells.toList x/\H8 R w A vs xs
 |_,_=>False
theorem H8.len{α:Type}{R:kL α}{w:World}{A:BS}:∀{vs:List Value} {xs:List α},H8 R w A vs xs->vs.length=xs.length
 |[],[],_=>rfl
 |v::vs,x::xs,h=>by simp[H8.len h.2]
 |[],_::_,h=>h.elim
 |_::_,[],h=>h.elim
theorem H8.sizes{α:Type}{R:kL α}{w:World}{A:BS}:∀{vs:List Value} {xs:List α},H8 R w A vs xs->∀v∈vs,v.cells.size=R.sz
  |[],[],_=>by simp
  |v::vs,x::xs,h=>by
    intro u a;rcases List.mem_cons.1 a with rfl|a
    · have:=R.len h.1;simpa using this
    · exact H8.sizes h.2 u a
  |[],_::_,h=>h.elim
  |_::_,[],h=>h.elim
theorem flat_len{a:Nat}:∀{vs:List Value},(∀v∈vs,v.cells.size=a)->(vs.map fun v=>v.cells.toList).flatten.length=vs.length*a
 |[],_=>by simp
 |v::r,h=>by
  have b:=h v zq3;have d:=flat_len fun u c=>h u<|List.mem_cons_of_mem _ c;simp only[List.map_cons,List.flatten_cons,List.length_append,d,Array.length_toList,b,List.length_cons,Nat.add_mul];omega
theorem H8.at{α:Type}{R:kL α}{w:World}{A:BS}:∀{vs:List Value} {xs:List α},H8 R w A vs xs->∀i (h:i<xs.length),R.rd w A (((vs.map fun v=>v.cells.toList).flatten.drop (i*R.sz)).take R.sz) xs[i]
 |[],[],_,i,h=>absurd h (Nat.not_lt_zero _)
 |v::vs,x::xs,h,i,hi=>by
  have a:v.cells.toList.length=R.sz:=R.len h.1;cases i with
  |zero=>
   simp only[List.map_cons,List.flatten_cons,Nat.zero_mul,List.drop_zero,List.getElem_cons_zero];rw[List.take_append_of_le_length V,List.take_of_length_le V];exact h.1
  |succ i=>
   have:=H8.at h.2 i (by simpa using hi);simp only[List.map_cons,List.flatten_cons,List.getElem_cons_succ];rw[List.drop_append,List.drop_eq_nil_of_le (by rw[a,Nat.add_mul];omega),List.nil_append,a,show(i+1)*R.sz-R.sz=i*R.sz by rw[Nat.add_mul];omega];exact this
 |[],_::_,h,_,_=>h.elim
 |_::_,[],h,_,_=>h.elim
structure Struct(P:Program)(T:TypeId)(zs:List Value)(pl:List (Nat×Nat)):Prop where
  zero:(P.info? T).map (·.zero)=some (some (.agg zs.toArray))
  desc:∃fs,P.underlying T=some (.struct fs)/\fs.toList.map (fun f=>(f.offset,(P.info? f.type).map (·.size)))=pl.map (fun p=>(p.1,some p.2))
def ZG(b:List (Nat×Nat))(cs:List Value):List (Nat×Value)->List Value->Prop
 |[],out=>cs=out
 |(i,v)::r,out=>∃off a vs,b[i]? =some (off,a)/\v.cells.toList=vs/\vs.length=a/\off+a<=cs.length/\ZG b (Jr cs off vs) r out
theorem fill_ok{g:List (Nat×Nat)}:∀{a:List (Nat×Value)} {cs out:List Value},ZG g cs a out->Instr.fill (fun i=>g[i]?) cs.toArray a=some out.toArray
 |[],cs,out,h=>by cases h;rfl
 |(i,v)::r,cs,out,h=>by
  obtain⟨off,b,vs,j,d,e,l,m⟩:=h;unfold Instr.fill;simp only[j];have c:v.cells.size=b:=by rw[<-e,<-d,Array.length_toList]
  rw[if_neg (by simp[c];omega)];have k:=Yf vs cs.toArray off (by rw[e];simpa using l);have:(v.cells.zipIdx.foldl (fun cs(p:Value×Nat)=>cs.setIfInBounds (off+p.2) p.1) cs.toArray)=(Jr cs off vs).toArray:=by
   apply Array.ext';rw[<-Array.foldl_toList,Array.toList_zipIdx,d];exact k
  have f:=fill_ok m;rw[<-this]at f;exact f
section
variable{P:Program}{ops:Array Oper}{Q:Exit->Act->World->Prop}{n:Nat}{env:Nat->Value}{w w' w0:World}{M K:BS}{hp:Nat->Chunk}{rest:List Oper}
 {d:Option Nat} {op:Op} {ty:TypeId} {pos:String} {af:Array Edge} {v:Value} {g:Option (Nat×Bool)} {T:TypeId} {ρ:Operand->Value} {x y:Operand}
theorem zy(h:w.grownBy w' v.ownBlock):bH (ob v) w w':=
 ⟨h.os,h.tape,h.output,h.size,fun b a c=>h.block b c (fun e=>a (ob_row.2 e.symm))⟩
theorem Ny{E:TypeId}{k b:Nat}{a:Option Addr}{l c:Nat}(e:jY P T E k b)(h:ρ x=.slice a l c)(f:l<=c)(m:ρ y=.slice none 0 0):
  (execOp ρ ⟨d,.call {callee:=.builtin .append,args:= #[x,y],argTypes:= #[T,T]},ty,pos,af,g⟩).run P w=.ok (.value (.slice a l c)) w:=by
 obtain⟨i,z,j,n,o,_,_⟩:=e.info;cases a<;>simp[execOp,resolve,invoke,builtin,h,m,Builtin.append_,underlying,e.desc,sizeOf,typeInfo,j,Builtin.lenOf,f,Builtin.firstCells,storeCells]
theorem ZH{α:Type}{R:kL α}{E:TypeId}{sz e:Nat}{A:BS}{u:Value}{l m:List α}(p:jY P T E sz e)(q:R.sz=sz)(S:ρ x=v)(hv:cK R E w A v l)(hy:ρ y=u)(hu:ed R w BE A u m)
    (hA:∀b,ob v b->A b) (a:(l.length+m.length)*e<=140737488355328) (hm:l.length+m.length<=9223372036854775807):
    ∃o w',(execOp ρ ⟨d,.call {callee:=.builtin .append,args:= #[x,y],argTypes:= #[T,T]},ty,pos,af,g⟩).run P w=.ok (.value o) w'/\cK R E w' A o (l++m)/\bH (ob v) w w'/\(∀b,ob o b->b<w.heap.size->ob v b):=by
  subst q;have X:=hv;obtain⟨xs,B,h3⟩:=hv;rcases hu.row with⟨rfl,rfl⟩|⟨ad,c,news,rfl,n1,n2,n3,n4⟩
  · have hw:(execOp ρ ⟨d,.call {callee:=.builtin .append,args:= #[x,y],argTypes:= #[T,T]},ty,pos,af,g⟩).run P w=.ok (.value v) w:=by
      rcases B.2 with⟨rfl,hn⟩|⟨gg,cap,cur,rfl,_,_,hc,_⟩
      · exact Ny p S (Nat.le_refl _) hy
      · exact Ny p S hc hy
    exact⟨v,w,hw,by simpa using X,bH.refl _ _,fun _ a _=>a⟩
  · obtain⟨i,z,G,O,q,s,a0⟩:=p.info;obtain⟨o,w',k,L,hg,_⟩:=run_append_own (P:=P) w 0 T ty E i z R.sz e p.desc G O q s a0 R.pos v l.length xs B ad m.length c news n1 n2 n3 (by unfold maxLen;omega) a (Nat.zero_le _);have hk:=zy hg;have n:∀b,ob o b->b<w.heap.size->ob v b:=by
      rcases B.2 with⟨rfl,hn⟩|⟨gg,cap,cur,rfl,_,hgg,hc,hcm,hcs,htake⟩
      · by_cases M:m.length=0
        · have r:news=[]:=List.eq_nil_of_length_eq_zero (by rw[n1,M];simp);subst r;have f:(Builtin.append_ #[T,T] ty #[.slice none 0 0,.slice (some ad) m.length c]).run P w=.ok (.slice none 0 0) w:=by
            simp[Builtin.append_,underlying,p.desc,sizeOf,typeInfo,G,Builtin.lenOf,M,Builtin.firstCells,loadCells,loadCellsFrom]
          rw[f]at k;cases k;exact fun b a _=>a
        · have f:=run_append_nil (P:=P) w T ty E i z p.desc G O ad m.length c news (by rw[q];exact n1) n2 V V (by rw[s];have:=a;rw[Nat.add_mul]at this;omega);rw[f]at k;cases k;intro b a C;simp[ob]at a;omega
      · by_cases h:l.length+m.length<=cap
        · have K:l.length*i.size+news.length<=cur.size:=by rw[n1,q,hcs,<-Nat.add_mul];exact Nat.mul_le_mul_right _ h
          have f:=run_append_room (P:=P) w T ty E i p.desc G gg l.length cap cur hgg ad m.length c news (by rw[q];exact n1) n2 n3 h K;rw[f]at k;cases k;exact fun b a _=>a
        · have holds:∀j u,xs[j]? =some u->w.cell? ((⟨gg,0,none⟩:Addr).add j)=some u:=B.cells (g:=gg) Z;have f:=run_append_grow (P:=P) w T ty E i z p.desc G O ⟨gg,0,none⟩ l.length cap xs (by rw[q];exact B.1) holds ad m.length c news (by rw[q];exact n1) n2 V V (growslice_fits V (by rw[s];exact a));rw[f]at k;cases k;intro b a C;simp[ob]at a;omega
    have I:(execOp ρ ⟨d,.call {callee:=.builtin .append,args:= #[x,y],argTypes:= #[T,T]},ty,pos,af,g⟩).run P w=.ok (.value o) w':=by
      simp only[execOp,resolve,invoke,builtin,Sem.run_bind,Sem.run_pure,Result.andThen_ok,List.map_toArray,List.map_cons,List.map_nil,S,hy,k]
    refine⟨o,w',I,⟨xs++news,by rw[List.length_append];exact L,?_⟩,hk,n⟩;intro i a1;have J:=B.1;have N:∀b,A b\/ob o b->b<w.heap.size->A b\/ob v b:=fun b a C=>a.imp id fun a=>n b a C;by_cases t:i<l.length
    · have Q:=R.go (h3 i t) hk (fun b a _=>.inr a) N;have a2:(i+1)*R.sz<=l.length*R.sz:=Nat.mul_le_mul_right _ t;rw[Nat.add_mul]at a2;rw[List.getElem_append_left t,List.drop_append_of_le_length V,List.take_append_of_le_length (by rw[List.length_drop];omega)];exact Q
    · rw[List.length_append]at a1;have Q:=R.go (n4 (i-l.length) V) hk (fun b a _=>hA b a) fun b a C=>(N b a C).elim id<|hA b;rw[List.getElem_append_right V,List.drop_append,List.drop_eq_nil_of_le (by rw[J];exact Nat.mul_le_mul_right _ V),List.nil_append,J,<-Nat.sub_mul];exact Q
theorem SH.Cr{α:Type}{R:kL α}{E:TypeId}(h:SH w0 M K w hp)(i:Nat):SH w0 M K w (bV hp i (.own R E (.slice none 0 0) ([]:List α))):=
 h.learn i (bH.refl BE w) (fun _ h=>h.elim) cK.nil
theorem lg{α:Type}{R:kL α}{E:TypeId}{j c:Nat}{u:Value}{l m:List α}(h:SH w0 M K w hp)(i:Nat)(f:hp i=.own R E v l)(G:ed R w BE (SH.A M hp) u m)(s:jY P T E j c)(o:R.sz=j)(C:ev n env x=v)(I:ev n env y=u)
    (a:(l.length+m.length)*c<=140737488355328) (q:l.length+m.length<=9223372036854775807)
    (k:∀w' e,SH w0 M K w' (bV hp i (.own R E e (l++m)))->WL P ops Q rest n (gm env d e) w'):
    WL P ops Q (⟨d,.call {callee:=.builtin .append,args:= #[x,y],argTypes:= #[T,T]},ty,pos,af,none⟩::rest) n env w:=by
  obtain⟨e,w',t,r,z,p⟩:=ZH (d:=d) (ty:=ty) (pos:=pos) (af:=af) (g:=none) s o C (h.bF i f) I G (fun b a=>.inr ⟨i,by rw[f];exact a⟩) a q;refine F t (k w' e (h.step i z (fun b a _=>by rw[f];exact a) (fun b a B=>by rw[f];exact p b a B) ?_));refine cK.go r (bH.refl BE w') (fun _ h=>h.elim) (fun _ h=>h.elim) fun b a _=>?_;rcases a with a|a|a
  · exact .inl<|.inl a
  · exact .inl<|.inr<|kP a
  · exact .inr a
theorem run_bs{α:Type}{R:kL α}{E:TypeId}{L m:Nat}{A:BS}{a:Array (Nat×Operand)}{len:Nat}{vs:List Value}{xs:List α}(I:jY P T E L m)(hs:R.sz=L)
    (X:(a.toList.map fun p=>(p.1,ev n env p.2))=vs.zipIdx.map fun p=>(p.2,p.1)) (q:vs.length=len) (K:H8 R w A vs xs) (hA:∀b,A b->b<w.heap.size) (a2:len*L<=16777216):
    ∃u w',(execOp (ev n env) ⟨d,.buildSlice T len a,ty,pos,af,g⟩).run P w=.ok (.value u) w'/\Grow w w'/\cK R E w' A u xs/\∀b,ob u b->w.heap.size=b:=by
  subst hs;subst q;obtain⟨i,z,O,Q,C,a1,a0⟩:=I.info;have e:=K.sizes;have o:=K.len;let zero:Array Value:=if vs.length*R.sz=0 then #[]else z.cells
  let c:Array Value:=(Array.range (vs.length*R.sz)).map (zero[· %zero.size]!);have f:c.size=vs.length*R.sz:=by simp[c]
  obtain⟨out,t,M⟩:=UY R.pos vs 0 c e (by rw[f];simp);have j:=flat_len e;have s:out.toList=(vs.map fun v=>v.cells.toList).flatten:=by
    rw[M,Nat.zero_mul];simp only[Jr,List.take_zero,List.nil_append,Nat.zero_add];rw[List.drop_eq_nil_of_le (by rw[Array.length_toList,f,j];omega),List.append_nil]
  have k:out.size=vs.length*R.sz:=by rw[<-Array.length_toList,s,j]
  have r:(a.map fun p=>(p.1,ev n env p.2)).toList=vs.zipIdx.map fun p=>(p.2,p.1):=by simpa using X
  have B:(execOp (ev n env) ⟨d,.buildSlice T vs.length a,ty,pos,af,g⟩).run P w=.ok (.value<|.slice (some ⟨w.heap.size,0,none⟩) vs.length vs.length) (w.alloc<|.cells out E):=by
    simp only[execOp,Instr.buildSlice,underlying,sizeOf,typeInfo];have N:¬(vs.length*R.sz>2 ^ 24):=by omega
    by_cases y:vs.length*R.sz=0
    · simp only[Sem.run_bind,run_program,Result.andThen_ok,I.desc,Sem.run_pure,O,C,Sem.run_ite,y,if_true];have:out= #[]:=Array.eq_empty_of_size_eq_zero (by rw[k,y]);have G:Instr.fill (fun i=>some (i*R.sz,R.sz)) ((Array.range 0).map fun x=>(#[]:Array Value)[x%(#[]:Array Value).size]!) (a.map fun p=>(p.1,ev n env p.2)).toList=some out:=by
        rw[r];have:c=(Array.range 0).map (fun x=>(#[]:Array Value)[x%(#[]:Array Value).size]!):=by simp[c,y]
        rw[<-this];exact t
      rw[G];simp[newRow,World.alloc,-World.alloc_eq]
    · simp only[Sem.run_bind,run_program,Result.andThen_ok,I.desc,Sem.run_pure,O,C,Sem.run_ite,if_neg N,y,if_false,zeroValue,typeInfo,Q];have G:Instr.fill (fun i=>some (i*R.sz,R.sz)) ((Array.range<|vs.length*R.sz).map fun x=>z.cells[x%z.cells.size]!) (a.map fun p=>(p.1,ev n env p.2)).toList=some out:=by
        rw[r];have:c=(Array.range<|vs.length*R.sz).map (fun x=>z.cells[x%z.cells.size]!):=by simp[c,zero,y]
        rw[<-this];exact t
      rw[G];simp[newRow,World.alloc,-World.alloc_eq]
  refine⟨_,_,B,Grow.alloc _ _,⟨out.toList,⟨by rw[Array.length_toList,k,o],.inr ⟨w.heap.size,vs.length,out,by rw[o],Nat.zero_le _,MH _ _,by omega,?_,k,?_⟩⟩,?_⟩,?_⟩
  · unfold maxLen;have:vs.length<=vs.length*R.sz:=Nat.le_mul_of_pos_right _ R.pos;omega
  · rw[List.take_of_length_le];rw[Array.length_toList,k,o];exact Nat.le_refl _
  · intro i J;have S:=R.go (A':=fun b=>A b\/ob (.slice (some ⟨w.heap.size,0,none⟩) vs.length vs.length) b) (K.at i J) (Grow.alloc w (.cells out E)) (fun _ h=>h.elim) (fun b l hl=>by
      rcases l with l|l
      · exact l
      · simp[ob]at l;omega)
    rw[s];exact S
  · intro b l;simp[ob]at l;exact l.symm
theorem pW{α:Type}{R:kL α}{E:TypeId}{j c:Nat}{a:Array (Nat×Operand)}{len:Nat}{vs:List Value}{xs:List α}(h:SH w0 M K w hp)(i:Nat)(q:jY P T E j c)(l:R.sz=j)
  (x:(a.toList.map fun p=>(p.1,ev n env p.2))=vs.zipIdx.map fun p=>(p.2,p.1)) (e:vs.length=len) (r:H8 R w (SH.A M hp) vs xs) (f:Nat.ble (len*j) 16777216=true)
  (k:∀w' u,SH w0 M K w' (bV hp i (.own R E u xs))->WL P ops Q rest n (gm env d u) w'):
  WL P ops Q (⟨d,.buildSlice T len a,ty,pos,af,none⟩::rest) n env w:=by
 obtain⟨u,w',s,o,v,m⟩:=run_bs (d:=d) (ty:=ty) (pos:=pos) (af:=af) (g:=none) q l x e r h.lt<|Nat.le_of_ble_eq_true f;exact F s<|k w' u<|h.wK i o v fun b t=>Nat.le_of_eq<|m b t
theorem run_places{P:Program}{w:World}:∀(b:List Field) (c:List (Nat×Nat)),b.map (fun f=>(f.offset,(P.info? f.type).map (·.size)))=c.map (fun p=>(p.1,some p.2))->
    (b.mapM (m:=Sem) fun f=>do pure (f.offset,<-sizeOf f.type)).run P w=.ok c w
  |[],[],_=>rfl
  |[],_::_,h=>by simp at h
  |_::_,[],h=>by simp at h
  |f::b,p::c,h=>by
    simp only[List.map_cons,List.cons.injEq,Prod.mk.injEq]at h;obtain⟨⟨g,d⟩,j⟩:=h;have e:=run_places (w:=w) b c j;obtain⟨i,a,k⟩:∃i,P.info? f.type=some i/\i.size=p.2:=by
      cases a:P.info? f.type with
      |none=>simp[a]at d
      |some i=>simp[a]at d;exact⟨i,Z,d⟩
    rw[List.mapM_cons];simp only[Sem.run_bind,sizeOf,typeInfo,run_program,Result.andThen_ok,a,Sem.run_pure,k,g];simp only[sizeOf,typeInfo]at e;rw[e];simp
theorem nL{zs out:List Value}{c:List (Nat×Nat)}{a:Array (Nat×Operand)}{pv:List (Nat×Value)}(q:Struct P T zs c)(hp:(a.toList.map fun p=>(p.1,ρ p.2))=pv)(r:ZG c zs pv out):
  (execOp ρ ⟨d,.build T a,ty,pos,af,g⟩).run P w=.ok (.value (.agg out.toArray)) w:=by
 obtain⟨o,j,l⟩:=q.desc;obtain⟨i,h,s⟩:∃i,P.info? T=some i/\i.zero=some (.agg zs.toArray):=by
  have:=q.zero;cases h:P.info? T with
  |none=>simp[h]at this
  |some i=>simp[h]at this;exact⟨i,Z,this⟩
 have t:=run_places (w:=w) o.toList c l;have n:(o.mapM (m:=Sem) fun f=>do pure (f.offset,<-sizeOf f.type)).run P w=.ok c.toArray w:=by
  rw[Array.mapM_eq_mapM_toList];simp only[Sem.run_map,t,Result.andThen_ok]
 have k:(a.map fun p=>(p.1,ρ p.2)).toList=pv:=by rw[<-hp];simp
 have b:=fill_ok r;simp only[execOp,Instr.build,zeroValue,typeInfo,underlying];simp only[Sem.run_bind,run_program,Result.andThen_ok,h,Sem.run_pure,s,j,n,k,Value.cells];have e:(fun(x:Nat)=>c.toArray[x]?)=fun(i:Nat)=>c[i]? :=by funext x;simp
 rw[e,b];simp
def isNil:Value->Bool| .slice none _ _=>true|_=>false
theorem Di{α:Type}{R:kL α}{T2 E:TypeId}{h:Nat}{B A:BS}{l:List α}{e:World}(i:SliceOf P T E h)(f:ρ x=v)(j:ed R e B A v l)(k:ρ y=.slice none 0 0):(execOp ρ ⟨d,.binOp .eql T x y T2,ty,pos,af,g⟩).run P w=.ok (.value (.bool (isNil v))) w:=by
 obtain⟨a,cap,rfl,o,n,p,m⟩:=j;have b:∀a l c,(Op.equalIn Op.maxDepth T (.slice a l c)<|.slice none 0 0).run P w=.ok a.isNone w:=by
  intro a l c;show(Op.equalIn (9999+1) T (.slice a l c)<|.slice none 0 0).run P w=_;unfold Op.equalIn;simp only[Sem.run_bind,underlying,run_program,Result.andThen_ok,i.desc,Sem.run_pure];cases a<;>simp
 cases a<;>simp[execOp,f,k,eqGuard,binOp,isNil,Op.equal,b]
theorem oF{α:Type}{R:kL α}{B A:BS}{l:List α}(d:ed R w B A v l)(h:isNil v=true):v=.slice none 0 0/\l=[]:=by
 obtain⟨a,cap,rfl,g,f,c,e⟩:=d;cases a with
 |none=>
  have:=c Z;subst this;have b:l.length=0:=by omega
  exact⟨by rw[b],List.eq_nil_of_length_eq_zero b⟩
 |some a=>simp[isNil]at h
theorem SH.vS{α:Type}{R:kL α}{E:TypeId}{l:List α}{k:Int}{a:α}{b:Nat}(h:SH w0 M K w hp)(i:Nat)(m:hp i=.own R E v l)(s:ob v b)(g:l[k.toNat]? =some a):
    ∃cs,At w b (k.toNat*R.sz) cs/\R.rd w (SH.A M hp) cs a:=by
  have d:k.toNat<l.length:=by
    rcases Nat.lt_or_ge k.toNat l.length with h|h
    · exact h
    · rw[List.getElem?_eq_none h]at g;cases g
  have j:l[k.toNat]=a:=by rw[List.getElem?_eq_getElem d]at g;exact Option.some.inj g
  obtain⟨a',cap,rfl,u,t,x,q⟩:=h.dM i m;obtain⟨b',o,cells,c,p,rfl,_,n,f⟩:=q k.toNat d;have:b=b':=s;subst this;have ho:o=0:=by
    obtain⟨xs,r,_⟩:=h.bF i m;rcases r.2 with⟨e,_⟩|⟨_,_,_,e,_⟩
    · cases e
    · cases e;rfl
  subst ho;rw[j]at f;rw[Nat.zero_add]at f;exact⟨_,⟨cells,c,p,n,by rw[R.len f]⟩,f⟩
theorem SH.tJ{α:Type}{R:kL α}{E:TypeId}{m:Nat}{l:List α}{k:Int}{a:α}(h:SH w0 M K w hp)(i:Nat)(c:hp i=.own R E v l)(o:SliceOf P T E m)(f:R.sz=m)(e:0<=k)(n:l[k.toNat]? =some a):
    ∃b,ob v b/\IxOk P T v k (.pointer (some ⟨b,k.toNat*m,none⟩)):=by
  subst f;have s:k.toNat<l.length:=by
    rcases Nat.lt_or_ge k.toNat l.length with h|h
    · exact h
    · rw[List.getElem?_eq_none h]at n;cases n
  obtain⟨xs,r,_⟩:=h.bF i c;rcases r.2 with⟨rfl,hn⟩|⟨g',cap,cur,rfl,_⟩
  · omega
  refine⟨g',Z,fun ρ x y w d ty pos af g q t=>?_⟩;obtain⟨i,c,f⟩:∃i,P.info? E=some i/\i.size=R.sz:=by
    have:=o.info;cases c:P.info? E with
    |none=>simp[c]at this
    |some i=>simp[c]at this;exact⟨i,Z,this⟩
  simp only[execOp,Instr.indexAt,q,t,asIntOf,underlying,sizeOf,typeInfo];have p:(⟨g',0,none⟩:Addr).add (k.toNat*R.sz)=⟨g',k.toNat*R.sz,none⟩:=by
    unfold Addr.add;split
    · next hz=>rw[hz]
    · simp
  have j:k<(l.length:Int):=by omega
  simp[o.desc,c,f,e,j,p]
theorem SH.cutO{α:Type}{R:kL α}{E:TypeId}{O:Nat}{l:List α}{b:Int}(h:SH w0 M K w hp)(i:Nat)(B:hp i=.own R E v l)(r:SliceOf P T E O)(X:R.sz=O)(m:0<=b)(Q:b<=l.length):
    ∃u,SH w0 M K w (bV hp i (.own R E u (l.take b.toNat)))/\SlOk P T v 0 b l.length u:=by
  subst X;have n:b.toNat<=l.length:=by omega
  have d:(l.take b.toNat).length=b.toNat:=by rw[List.length_take];omega
  obtain⟨xs,I,q2⟩:=h.bF i B;obtain⟨u,C,hr⟩:=r_sl (P:=P) (T:=T) r (h.dM i B) (Int.le_refl 0) m Q;have hv:∃cap,v=.slice none 0 0\/∃g,v=.slice (some ⟨g,0,none⟩) l.length cap:=by
    rcases I.2 with⟨rfl,_⟩|⟨g',cap,cur,rfl,_⟩
    · exact⟨0,.inl Z⟩
    · exact⟨cap,.inr ⟨g',Z⟩⟩
  have e:=C (fun o=>match o with| .tmp 0=>v| .const v=>v|_=>undef) (.tmp 0) none (some<|.const<|.int .i64 b) w none 0 "" #[] none Z (.inl ⟨Z,Z⟩) (.inr Z);rcases I.2 with⟨rfl,hn⟩|⟨g',cap,cur,rfl,e1,e2,e3,e4,e5,e6⟩
  · have G:l=[]:=List.eq_nil_of_length_eq_zero hn;subst G;obtain⟨a,cap,rfl,h1,h2,h3,h4⟩:=hr;have L:b=0:=by simp at Q;omega
    subst L;have:a=none/\cap=0:=by
      obtain⟨q,k⟩:∃q,P.info? E=some q:=by
        have:=r.info;cases p:P.info? E with
        |none=>simp[p]at this
        |some i=>exact⟨i,rfl⟩
      simp[execOp,Instr.sliceAt,Instr.slice,underlying,r.desc,Instr.sliceBounds,Instr.sliceBound,asIntOf,sizeOf,typeInfo,k,cut]at e;exact⟨e.1.symm,e.2.symm⟩
    obtain⟨rfl,rfl⟩:=this;refine⟨_,?_,C⟩;have:=h.step (c:=.own R E (.slice none 0 0) ([]:List α)) i (bH.refl BE w) (fun _ h=>h.elim) (fun _ h=>h.elim) cK.nil;simpa[cut]using this
  · have A:u=.slice (some ⟨g',0,none⟩) b.toNat cap:=by
      obtain⟨q,k,s⟩:∃q,P.info? E=some q/\q.size=R.sz:=by
        have:=r.info;cases p:P.info? E with
        |none=>simp[p]at this
        |some i=>simp[p]at this;exact⟨i,Z,this⟩
      obtain⟨z,rfl⟩:=Int.eq_ofNat_of_zero_le m;have J:z<=cap:=by simp at n;omega
      have y:(⟨g',0,none⟩:Addr).add 0=⟨g',0,none⟩:=rfl;have a0:(0:Int)<=(z:Int):=Int.natCast_nonneg z;have a1:(z:Int)<=(cap:Int):=by omega
      by_cases t:cap=0
      · subst t;have m:z=0:=by omega
        subst m;simp[execOp,Instr.sliceAt,Instr.slice,underlying,r.desc,Instr.sliceBounds,Instr.sliceBound,asIntOf,sizeOf,typeInfo,k,s]at e;simpa using e.symm
      · simp[execOp,Instr.sliceAt,Instr.slice,underlying,r.desc,Instr.sliceBounds,Instr.sliceBound,asIntOf,sizeOf,typeInfo,k,s,J,t,y]at e;simpa using e.symm
    subst A;refine⟨_,h.step (c:=.own R E (.slice (some ⟨g',0,none⟩) b.toNat cap) (l.take b.toNat)) i (bH.refl BE w) (fun _ h=>h.elim) (fun x f _=>by rw[B];exact f) ⟨xs.take (b.toNat*R.sz),⟨?_,.inr ⟨g',cap,cur,by rw[d],e1,e2,?_,e4,e5,?_⟩⟩,?_⟩,C⟩
    · rw[d,List.length_take,I.1,Nat.min_eq_left (Nat.mul_le_mul_right _ n)]
    · rw[d];omega
    · rw[d,<-e6,List.take_take,Nat.min_eq_left (Nat.mul_le_mul_right _ n)]
    · intro j S;rw[d]at S;have N:j<l.length:=by omega
      have p:=R.go (A':=fun x=>(M x\/SH.av hp i (.own R E (.slice (some ⟨g',0,none⟩) b.toNat cap) (l.take b.toNat)) x)\/ob (.slice (some ⟨g',0,none⟩) b.toNat cap) x) (q2 j N) (bH.refl BE w) (fun _ h=>h.elim) (fun x f _=>by
        rcases f with(f|f|f)|f
        · exact .inl<|.inl f
        · exact .inl<|.inr<|kP f
        · exact .inr f
        · exact .inr f)
      rw[List.getElem_take];rw[List.drop_take,List.take_take,Nat.min_eq_left]
      · exact p
      · have:(j+1)*R.sz<=b.toNat*R.sz:=Nat.mul_le_mul_right _ S;rw[Nat.add_mul]at this;omega
theorem Nz{α:Type}{l:List α}{i o s off:Nat}{x:α}(ho:o=i+off):((l.set o x).drop i).take s=((l.drop i).take s).set off x:=by
 subst ho;rw[List.drop_set,if_neg V,Nat.add_sub_cancel_left,List.take_set]
theorem KP{α:Type}{l:List α}{i o s:Nat}{x:α}(h:o<i\/i+s<=o):((l.set o x).drop i).take s=(l.drop i).take s:=by
  rw[List.drop_set];split
  · rfl
  · rw[List.take_set,List.set_eq_of_length_le];rw[List.length_take];omega
theorem H9{α:Type}{R:kL α}{E:TypeId}{J:Nat}{l:List α}{k:Int}{a a':α}{b off:Nat}{z u:Value}(h:SH w0 M K w hp)(i:Nat)(r:hp i=.own R E u l)(B:ob u b)(hs:R.sz=J)(s:l[k.toNat]? =some a)(hT:One P T z)(c:ev n env x=.pointer (some ⟨b,k.toNat*J+off,none⟩))
    (hy:ev n env y=v) (h1:v.oneCell'=true) (o:Nat.blt off J=true) (hset:∀cs,R.rd w (SH.A M hp) cs a->R.rd w (SH.A M hp) (cs.set off v) a')
    (kk:∀w',SH w0 M K w' (bV hp i (.own R E u (l.set k.toNat a')))->WL P ops Q rest n (gm env d undef) w'):
    WL P ops Q (⟨d,.store T x y,ty,pos,af,none⟩::rest) n env w:=by
  subst hs;rw[Nat.blt_eq]at o;have g:k.toNat<l.length:=by
    rcases Nat.lt_or_ge k.toNat l.length with h|h
    · exact h
    · rw[List.getElem?_eq_none h]at s;cases s
  have I:l[k.toNat]=a:=by rw[List.getElem?_eq_getElem g]at s;exact Option.some.inj s
  generalize k.toNat=k at*;have e:∀b,ob u b->SH.A M hp b:=fun b B=>.inr ⟨i,by rw[r];exact B⟩;obtain⟨xs,O,q3⟩:=h.bF i r;rcases O.2 with⟨rfl,hn⟩|⟨g',cap,cur,rfl,e1,e2,e3,e4,e5,e6⟩
  · omega
  have t:b=g':=B;subst t;have N:(k+1)*R.sz<=l.length*R.sz:=Nat.mul_le_mul_right _ g;have X:l.length*R.sz<=cap*R.sz:=Nat.mul_le_mul_right _ e3;rw[Nat.add_mul]at N;have L:k*R.sz+off<cur.size:=by omega
  have q:=bH.uW w b<|.cells (cur.setIfInBounds (k*R.sz+off) v) E (0,0);refine zx (PN hT c e2 L hy h1) (kk _ (h.step i q (fun x c _=>by rw[r];exact c) (fun x c _=>by rw[r];exact c) ⟨xs.set (k*R.sz+off) v,⟨?_,.inr ⟨b,cap,cur.setIfInBounds (k*R.sz+off) v,?_,e1,?_,?_,e4,?_,?_⟩⟩,?_⟩))
  · rw[List.length_set,List.length_set];exact O.1
  · rw[List.length_set]
  · rw[uw (iB e2)]
  · rw[List.length_set];exact e3
  · simpa using e5
  · rw[List.length_set,Array.toList_setIfInBounds,List.take_set,e6]
  · intro f G;have C:f<l.length:=by rwa[List.length_set]at G
    have p:=fun cs a(h:R.rd w (SH.A M hp) cs a)=>R.go (A':=fun x=>(M x\/(SH.av hp i (.own R E (.slice (some ⟨b,0,none⟩) l.length cap) (l.set k a'))) x)\/ob (.slice (some ⟨b,0,none⟩) l.length cap) x) h q (fun x c _=>e x c) (fun x c _=>by
      rcases c with(c|c|c)|c
      · exact .inl c
      · exact .inr<|kP c
      · exact e x c
      · exact e x c)
    have S:=fun j(hj:j<l.length)=>R.go (A':=SH.A M hp) (q3 j hj) (bH.refl BE w) (fun _ h=>h.elim) fun x c _=>.inl c;by_cases m:f=k
    · subst m;rw[List.getElem_set_self,Nz rfl];exact p _ _<|hset _<|I▸S f g
    · rw[List.getElem_set_ne (Ne.symm m),KP]
      · exact p _ _<|S f C
      · rcases Nat.lt_or_ge k f with h5|h5
        · left;have:(k+1)*R.sz<=f*R.sz:=Nat.mul_le_mul_right _ h5;rw[Nat.add_mul]at this;omega
        · right;have:(f+1)*R.sz<=k*R.sz:=Nat.mul_le_mul_right _ V;rw[Nat.add_mul]at this;omega
structure WK(P:Program)(ops:Array Oper)(w:World)(Q:Act->Prop)(l:List Oper)(n:Nat)(env:Nat->Value):Prop where
 out:wpQuiet P ops (fun x=>x=w) Q l (act n env)
end
section
variable{P:Program}{ops:Array Oper}
theorem uy{w:World}{Q:Act->Prop}:∀{l:List Oper} {a:Act},wpQuiet P ops (fun x=>x=w) Q l a->wpStill P ops w Q l a
  |[],_,h=>h
  |o::rest,a,h=>by
    unfold wpQuiet at h;unfold wpStill;split
    · rename_i c;rw[if_pos c]at h;obtain⟨v,g,d⟩:=h;have b:=g w Z;unfold Oper.quietAt at b;unfold Oper.still;generalize (execOp a.eval o).run P w=r at b⊢;cases r with
      |ok n w'=>
        cases n<;>simp only[Oper.quietUpon]at b<;>simp only[Oper.stillUpon];case value u=>exact⟨b.1,by rw[b.2];exact uy d⟩
        case skip=>exact⟨b.1,by rw[<-b.2];exact uy d⟩
        case enter f args=>exact⟨b.1,v,b.2.mono (fun e i h=>h),uy d⟩
      |halt x w'=>simp only[Oper.quietUpon]at b
    · rename_i c;rw[if_neg c]at h;exact uy h
end
section
variable{P:Program}{ops:Array Oper}{Q:Exit->Act->World->Prop}{n:Nat}{env:Nat->Value}{w w' w0:World}{M K:BS}{hp:Nat->Chunk}{rest:List Oper}
 {d:Option Nat} {op:Op} {ty:TypeId} {pos:String} {af:Array Edge} {v:Value} {g:Option (Nat×Bool)} {T:TypeId} {ρ:Operand->Value} {x y:Operand}
variable{Q1:Act->Prop}
theorem aG(b:(execOp (ev n env) ⟨d,op,ty,pos,af,none⟩).run P w=.ok (.value v) w)(h:WK P ops w Q1 rest n (gm env d v)):WK P ops w Q1 (⟨d,op,ty,pos,af,none⟩::rest) n env:=by
  refine⟨?_⟩;unfold wpQuiet;have a:Region.wanted ⟨d,op,ty,pos,af,none⟩ (yielded ops (act n env).tmps)=true:=rfl;rw[if_pos a];refine⟨v,fun w' c=>?_,?_⟩
  · subst c;unfold Oper.quietAt;rw[gD,b];exact⟨Z,Z⟩
  · rw[Dh];exact h.out
theorem fQ{j dj:Nat}{b:Bool}(g:(ops[j]?).bind (·.dst)=some dj)(e:ev n env (.tmp dj)=.bool b)(h:WK P ops w Q1 (⟨d,op,ty,pos,af,none⟩::rest) n env):WK P ops w Q1 (⟨d,op,ty,pos,af,some (j,b)⟩::rest) n env:=by
  have f:=Js (ops:=ops) g e;have c:Region.wanted ⟨d,op,ty,pos,af,some (j,b)⟩ (yielded ops (act n env).tmps)=true:=by simp[Region.wanted,f]
  have a:Region.wanted ⟨d,op,ty,pos,af,none⟩ (yielded ops (act n env).tmps)=true:=rfl;obtain⟨h⟩:=h;refine⟨?_⟩;unfold wpQuiet at h⊢;rw[if_pos a]at h;rw[if_pos c];exact h
theorem wk_skip(a:Region.wanted ⟨d,op,ty,pos,af,g⟩ (yielded ops (act n env).tmps)=false)(h:WK P ops w Q1 rest n (gm env d undef)):WK P ops w Q1 (⟨d,op,ty,pos,af,g⟩::rest) n env:=by
 refine⟨?_⟩;unfold wpQuiet;rw[if_neg (by rw[a];decide),Dh];exact h.out
theorem dP{j dj:Nat}{b b':Bool}(f:(ops[j]?).bind (·.dst)=some dj)(c:ev n env (.tmp dj)=.bool b')(a:(b'==b)=false)(h:WK P ops w Q1 rest n (gm env d undef)):WK P ops w Q1 (⟨d,op,ty,pos,af,some (j,b)⟩::rest) n env:=
  wk_skip (by have e:=Js (ops:=ops) f c;simpa[Region.wanted,e]using a) h
theorem NA{j dj:Nat}(c:(ops[j]?).bind (·.dst)=some dj)(b:ev n env (.tmp dj)=undef):yielded ops (act n env).tmps j=none:=by
  unfold yielded;have a:(act n env).eval (.tmp dj)=undef:=by rw[gD];exact b
  simp only[c,Option.bind_some];simp only[Act.eval]at a;cases h2:(act n env).tmps[dj]? with
  |none=>rfl
  |some x=>simp[Array.getD_eq_getD_getElem?,h2]at a;subst a;rfl
theorem zA{j dj:Nat}{b:Bool}(c:(ops[j]?).bind (·.dst)=some dj)(a:ev n env (.tmp dj)=undef)(h:WK P ops w Q1 rest n (gm env d undef)):WK P ops w Q1 (⟨d,op,ty,pos,af,some (j,b)⟩::rest) n env:=
  wk_skip (by simp[Region.wanted,NA c a]) h
theorem wl_offU{j dj:Nat}{b:Bool}(e:(ops[j]?).bind (·.dst)=some dj)(c:ev n env (.tmp dj)=undef)(h:WL P ops Q rest n (gm env d undef) w):WL P ops Q (⟨d,op,ty,pos,af,some (j,b)⟩::rest) n env w:=by
  have a:Region.wanted ⟨d,op,ty,pos,af,some (j,b)⟩ (yielded ops (act n env).tmps)=false:=by simp[Region.wanted,NA e c]
  refine⟨?_⟩;unfold wpList;rw[if_neg (by rw[a];decide),Dh];exact h.out
theorem wk_gd{j dj:Nat}{b a:Bool}(c:Bool)(i:(ops[j]?).bind (·.dst)=some dj)(g:ev n env (.tmp dj)=gv c (.bool b))
    (k:(c&&(b==a))=true->(execOp (ev n env) ⟨d,op,ty,pos,af,none⟩).run P w=.ok (.value v) w) (h:WK P ops w Q1 rest n (gm env d (gv (c&&(b==a)) v))):
    WK P ops w Q1 (⟨d,op,ty,pos,af,some (j,a)⟩::rest) n env:=by
  by_cases f:(c&&(b==a))=true
  · have o:=gl f;have l:=gr f;rw[eO o]at g;rw[eO f]at h;have m:b=a:=by simpa using l
    subst m;exact fQ i g<|aG (k f) h
  · have e:(c&&(b==a))=false:=by simpa using f
    rw[e]at h;cases c with
    |true=>exact dP i g (by simpa using e) h
    |false=>exact zA i g h
theorem mF{j dj:Nat}{b a:Bool}(f:(ops[j]?).bind (·.dst)=some dj)(e:ev n env (.tmp dj)=.bool b)
    (c:(b==a)=true->(execOp (ev n env) ⟨d,op,ty,pos,af,none⟩).run P w=.ok (.value v) w) (h:WK P ops w Q1 rest n (gm env d (gv (b==a) v))):
    WK P ops w Q1 (⟨d,op,ty,pos,af,some (j,a)⟩::rest) n env:=
  wk_gd true f e (fun h=>c (by simpa using h)) (by simpa using h)
theorem Aa{l:List Oper}(h:WL P ops Q l n env w):WK P ops w (fun a=>wpList P ops Q l a w) [] n env:=⟨h.out⟩
theorem um{id:Nat}(k:Nat){l:List Oper}(b:P.follows .mixedOrders=true)(d:Region.lexTailB .any l.toArray k=true)(h:SH w0 M K w hp)
  (c:∀w,SH w0 M K w hp->WK P l.toArray w (fun a=>wpList P l.toArray Q (l.drop k) a w) (l.take k) n env):WC P (Code.region id l.toArray true) Q n env w:=
 ⟨wp_region_still_tail k b d (uy (c _ (h.grow (Grow.drew w))).out)⟩
theorem pJ{id:Nat}{l:List Oper}(b:P.follows .mixedOrders=true)(d:Region.lexB .any l.toArray=true)(h:SH w0 M K w hp)
  (c:∀w,SH w0 M K w hp->WK P l.toArray w (fun a=>∀w',w'=w->Q .normal a w') l n env):WC P (Code.region id l.toArray true) Q n env w:=
 ⟨wp_region_quiet (C:=fun x=>x=w.drew) b d Z (c _ (h.grow (Grow.drew w))).out⟩
theorem pX(h:Q .normal (act n env) w):WK P ops w (fun a=>∀w',w'=w->Q .normal a w') [] n env:=⟨fun _ e=>by rw[e];exact h⟩
end
open Go.RowKit
section
variable{P:Program}{ops:Array Oper}{Q:Exit->Act->World->Prop}{n:Nat}{env:Nat->Value}{w w' w0:World}{M K:BS}{hp:Nat->Chunk}{rest:List Oper}
 {d:Option Nat} {op:Op} {ty:TypeId} {pos:String} {af:Array Edge} {v:Value} {g:Option (Nat×Bool)} {T:TypeId} {ρ:Operand->Value} {x y:Operand}
theorem EG{v:Value}(h:v.oneCell'=true):v.cells= #[v]:=by
 cases v<;>first|rfl|simp[Value.oneCell']at h
theorem dS{v:Value}(h:v.oneCell'=true):v.cells.toList=[v]:=by rw[EG h]
theorem ed.rdc{α:Type}{R:kL α}{A:BS}{l:List α}(h:cz R w A v l):(tK R).rd w A v.cells.toList l:=by
 rw[EG h.one];exact⟨v,Z,h⟩
theorem gvn{c d:Bool}{v:Value}(h:c=true):gv (c&&d) v=gv d v:=by rw[h,Bool.true_and]
theorem aL:∀v∈([]:List Value),v.oneCell'=true:=fun _ h=>by cases h
theorem aa{a:Value}{l:List Value}(b:a.oneCell'=true)(c:∀v∈l,v.oneCell'=true):∀v∈a::l,v.oneCell'=true:=fun v h=>by
  rcases List.mem_cons.1 h with rfl|h
  · exact b
  · exact c v h
def Room{α:Type}(a:Nat)(l m:List α):Prop:=(l.length+m.length)*a<=140737488355328/\l.length+m.length<=9223372036854775807
instance {α:Type} (bytes:Nat) (l m:List α):Decidable (Room bytes l m):=inferInstanceAs (Decidable (_/\_))
theorem Room.mk{α:Type}{a:Nat}{l m:List α}(b:(l.length+m.length)*a<=140737488355328)(c:l.length+m.length<=9223372036854775807):Room a l m:=⟨b,c⟩
theorem set1{α:Type}{R:kL α}{A:BS}{cs:List Value}{a a':α}{v:Value}(h:R.rd w A v.cells.toList a')(b:R.rd w A cs a)(d:R.sz=1:=by rfl)(e:v.oneCell'=true:=by assumption):R.rd w A (cs.set 0 v) a':=by
 have:=R.len b;rw[d]at this
 match cs,this with
 |[c],_=>rw[dS e]at h;exact h
theorem r_rem{T2:TypeId}{p m:Int}(b:ρ x=.int .i64 p)(c:ρ y=.int .i64 m)(e:0<m):(execOp ρ ⟨d,.binOp .rem T x y T2,ty,pos,af,g⟩).run P w=.ok (.value (.int .i64 (Int.tmod p m))) w:=by
 have a:m≠0:=by omega
 simp[execOp,b,c,eqGuard,binOp,Op.intDiv,a]
theorem jl{f:FuncId}{first captured:Array Value}{xs:Array Operand}{b:Array TypeId}{args:List Value}(g:PQ P f)(i:ev n env x=.func (.func f) first captured)
  (a:first.toList++xs.toList.map (ev n env)++captured.toList=args) (c:Calls P f args.toArray w (fun e w'=>∃v,e=.returned v/\WL P ops Q rest n (gm env d v) w')):
  WL P ops Q (⟨d,.call {callee:=.value x,args:=xs,argTypes:=b},ty,pos,af,none⟩::rest) n env w:=
 bT g i a c (fun _ _ h=>h)
theorem kM{α:Type}{a b:α}{l m:List α}(h:a=b)(c:l=m):a::l=b::m:=by rw[h,c]
theorem w_callG{f:FuncId}{first captured:Array Value}{xs:Array Operand}{p:Array TypeId}{args:List Value}{j dj:Nat}{b a:Bool}(g:Bool)(m:(ops[j]?).bind (·.dst)=some dj)(l:ev n env (.tmp dj)=gv g (.bool b))(q:PQ P f)(s:ev n env x=.func (.func f) first captured)
    (o:(g&&(b==a))=true->first.toList++xs.toList.map (ev n env)++captured.toList=args) (t:Calls P f args.toArray w (fun e w'=>Grow w w'/\e=.returned v))
    (k:∀w',Grow w w'->WL P ops Q rest n (gm env d (gv (g&&(b==a)) v)) w'):
    WL P ops Q (⟨d,.call {callee:=.value x,args:=xs,argTypes:=p},ty,pos,af,some (j,a)⟩::rest) n env w:=by
  by_cases c:(g&&(b==a))=true
  · have u:=gl c;have y:=gr c;rw[eO u]at l;have z:b=a:=by simpa using y
    subst z;refine TR m l<|bT q s (o c) t ?_;rintro e w'⟨r,rfl⟩;refine⟨_,Z,?_⟩;have:=k w' r;rw[eO c]at this;exact this
  · have i:(g&&(b==a))=false:=by simpa using c
    have h:=k w<|bH.refl _ _;rw[i]at h;cases g with
    |true=>exact bW m l (by simpa using i) h
    |false=>exact wl_offU m l h
theorem w_callG0{f:FuncId}{first captured:Array Value}{xs:Array Operand}{i:Array TypeId}{args:List Value}{j dj:Nat}{b a:Bool}(p:(ops[j]?).bind (·.dst)=some dj)(l:ev n env (.tmp dj)=.bool b)(c:PQ P f)(o:ev n env x=.func (.func f) first captured)
    (g:(b==a)=true->first.toList++xs.toList.map (ev n env)++captured.toList=args) (m:Calls P f args.toArray w (fun e w'=>Grow w w'/\e=.returned v))
    (k:∀w',Grow w w'->WL P ops Q rest n (gm env d (gv (b==a) v)) w'):
    WL P ops Q (⟨d,.call {callee:=.value x,args:=xs,argTypes:=i},ty,pos,af,some (j,a)⟩::rest) n env w:=
  w_callG true p l c o (fun h=>g (by simpa using h)) m (by simpa using k)
theorem SH.dX{α:Type}{R:kL α}{E:TypeId}{l:List α}(h:SH w0 M BE w hp)(i:Nat)(c:hp i=.own R E v l):cK R E w M v l/\∀b,ob v b->w0.heap.size<=b:=
 ⟨cK.go (h.bF i c) (bH.refl BE w) (fun _ h=>h.elim) (fun _ h=>h.elim) (fun b a _=>.inl (.inl a)),fun b a=>h.fresh i b (by rw[c];exact a)⟩
theorem eD{s:Nat}:∀b,ob (.slice none 0 0) b->s<=b:=fun _ h=>h.elim
theorem oZ{P:Program}{E:TypeId}{z:Value}{s b:Nat}(h:(P.info? E).map (fun i=>(i.zero,i.size,i.bytes))=some (some z,s,b))(a:z.cells.size=s):∃i z,P.info? E=some i/\i.zero=some z/\i.size=s/\i.bytes=b/\z.cells.size=s:=by
 cases hi:P.info? E with
 |none=>simp[hi]at h
 |some i=>simp[hi]at h;exact⟨i,z,Z,h.1,h.2.1,h.2.2,a⟩
theorem r_max{T2:TypeId}{p q:Int}(a:ρ x=.int .i64 p)(b:ρ y=.int .i64 q):(execOp ρ ⟨d,.call {callee:=.builtin .max,args:= #[x,y],argTypes:= #[T,T2]},ty,pos,af,g⟩).run P w=.ok (.value (.int .i64 (max p q))) w:=by
 have h:(if q>p then q else p)=max p q:=by split<;>omega
 simp[execOp,resolve,invoke,builtin,Builtin.max_,Builtin.max2,a,b,h]
theorem r_min{T2:TypeId}{p q:Int}(a:ρ x=.int .i64 p)(b:ρ y=.int .i64 q):(execOp ρ ⟨d,.call {callee:=.builtin .min,args:= #[x,y],argTypes:= #[T,T2]},ty,pos,af,g⟩).run P w=.ok (.value (.int .i64 (min p q))) w:=by
 have h:(if q<p then q else p)=min p q:=by split<;>omega
 simp[execOp,resolve,invoke,builtin,Builtin.min_,Builtin.min2,a,b,h]
theorem AU{zs vs cs:List Value}{b i:Nat}(f:SH w0 M K w hp)(l:hp i=.blk b cs)(k:vv P T zs)(e:vs.length=zs.length)(j:cs=vs):(loadVar T ⟨b,0,none⟩).run P w=.ok (.agg vs.toArray) w:=by
 subst j;have h:=wL (P:=P) (ρ:=fun _=>.pointer (some ⟨b,0,none⟩)) (d:=none) (ty:=0) (pos:= "") (af:= #[]) (g:=none) (x:=.tmp 0) (o:=0) (vs:=cs) f i l k Z (by rw[<-e];simp) e;simp only[execOp,Instr.loadAt,Instr.sureAddr]at h;have c:((loadVar T ⟨b,0,none⟩).run P w).andThen (fun a w'=>Result.ok (Next.value a) w')=Result.ok (Next.value (Value.agg cs.toArray)) w:=by simpa using h
 cases hres:(loadVar T ⟨b,0,none⟩).run P w with
 |ok v w'=>rw[hres]at c;simp at c;rw[c.1,c.2]
 |halt x w'=>rw[hres]at c;simp[Result.andThen]at c
theorem ZI{g:Func}{R:Ending->World->Prop}{t u a:Tmp}{T:TypeId}{v1 v3:Value}{zs vs:List Value}{b:Nat}(o:g.results= #[.tmp t,.cell a T,.tmp u])(p:ev n env (.tmp t)=v1)(j:ev n env (.tmp a)=.pointer (some ⟨b,0,none⟩))(k:ev n env (.tmp u)=v3)
  (l:SH w0 M K w hp) (i:Nat) (r:hp i=.blk b vs) (m:vv P T zs) (q:vs.length=zs.length) (h:R (.returned (.tuple #[v1,.agg vs.toArray,v3])) w):bodyPost P g R .ret (act n env) w:=by
 refine⟨Z,_,?_,h⟩;have d:=congrFun (gD n env)<|.tmp t;have e:=congrFun (gD n env)<|.tmp u;have c:=congrFun (gD n env)<|.tmp a;rw[p]at d;rw[k]at e;rw[j]at c;simp only[Act.eval]at d e c;rw[Array.getD_eq_getD_getElem?]at d e c;have f:=AU (P:=P) l r m q Z;unfold results;rw[o];simp[d,e,c,asAddr,f]
theorem SH.jW{α:Type}{R:kL α}{E:TypeId}{l:List α}(h:SH w0 M K w hp)(j i:Nat)(p:hp j=.own R E v l)(u:hp i=.no)(s:j≠i):SH w0 M K w (bV (bV hp j .no) i (.own R E v l)):=by
  have ho:=h.bF j p;have d:∀x b,(bV (bV hp j .no) i (.own R E v l) x).own' b->∃y,(hp y).own' b/\(x=i->y=j)/\(x≠i->y=x/\x≠j):=by
    intro x b a;by_cases e:x=i
    · subst e;rw[dh]at a;exact⟨j,by rw[p];exact a,fun _=>rfl,fun h=>absurd Z h⟩
    · rw[eZ e]at a;by_cases c:x=j
      · subst c;rw[dh]at a;exact a.elim
      · rw[eZ c]at a;exact⟨x,a,fun h=>absurd h e,fun _=>⟨Z,c⟩⟩
  have f:∀b,iC (bV (bV hp j .no) i<|.own R E v l) b->iC hp b:=fun b⟨x,n⟩=>let ⟨y,g,_⟩:=d x b n;⟨y,g⟩;refine⟨h.keep,h.ltM,fun x b a=>let ⟨y,g,_⟩:=d x b a;h.apM y b g,fun x=>?_,fun x y k b n g=>?_,fun x b a=>let ⟨y,g,_⟩:=d x b a;h.old y b g⟩
  · by_cases e:x=i
    · subst e;rw[dh];have:=h.ok j;rw[p]at this;exact Chunk.sub this fun b a _=>f b a
    · rw[eZ e];by_cases c:x=j
      · subst c;rw[dh];trivial
      · rw[eZ c];exact Chunk.sub (h.ok x) (fun b a _=>f b a)
  · obtain⟨x',t,r,o⟩:=d x b n;obtain⟨q,k1,k2,m⟩:=d y b g;have:x'≠q:=by
      by_cases e:x=i
      · have c:y≠i:=fun h=>k<|e.trans h.symm;rw[r e,(m c).1];exact fun h=>(m c).2 h.symm
      · by_cases c:y=i
        · rw[k2 c,(o e).1];exact(o e).2
        · rw[(o e).1,(m c).1];exact k
    exact h.apart x' q this b t k1
theorem SH.ik{α:Type}{R:kL α}{l:List α}(h:SH w0 M K w hp)(j i:Nat)(a:hp j=.rd R v l):SH w0 M K w (bV hp i (.rd R v l)):=h.aJ i (h.bI j a)
theorem SH.wV{α:Type}{R:kL α}{l:List α}(h:SH w0 M K w hp)(i:Nat)(c:hp i=.rd R v l):cz R w M v l:=
 (h.bI i c).sub (fun b a _=>.inl a) (fun b a _=>.inl a)
def clone{α:Type}(b:Nat)(a:List α):Option (List α):=ic (Room b ([]:List α) a) (some a)
structure Arr2(P:Program)(T E:TypeId):Prop where
  desc:P.underlying T=some (.array 2 E)
  zero:∃z0 z1,(P.info? T).map (·.zero)=some (some (.agg #[z0,z1]))
  size:(P.info? E).map (·.size)=some 1
  plain:∃F,P.underlying E=some (.slice F)
theorem r_build2{E:TypeId}{x y:Operand}{p q:Value}(k:Arr2 P T E)(l:ρ x=p)(m:ρ y=q)(r:p.oneCell'=true)(o:q.oneCell'=true):(execOp ρ ⟨d,.build T #[(0,x),(1,y)],ty,pos,af,g⟩).run P w=.ok (.value (.agg #[p,q])) w:=by
 obtain⟨b,h,c⟩:=k.zero;obtain⟨i,a,f⟩:∃i,P.info? T=some i/\i.zero=some (.agg #[b,h]):=by
  cases a:P.info? T with
  |none=>simp[a]at c
  |some i=>simp[a]at c;exact⟨i,Z,c⟩
 obtain⟨j,s,e⟩:∃j,P.info? E=some j/\j.size=1:=by
  have:=k.size;cases a:P.info? E with
  |none=>simp[a]at this
  |some i=>simp[a]at this;exact⟨i,Z,this⟩
 have c1:=EG r;have c2:=EG o;simp only[execOp,Instr.build,l,m,underlying,zeroValue,typeInfo,sizeOf];have n:(Value.agg #[b,h]).cells= #[b,h]:=rfl;simp[a,f,k.desc,s,e,Instr.fill,c1,c2,n,l,m]
theorem r_index2{E:TypeId}{x y:Operand}{p q v:Value}{k:Nat}(f:Arr2 P T E)(n:ρ x=.agg #[p,q])(r:ρ y=.int .i64 k)(b:[p,q][k]? =some v):(execOp ρ ⟨d,.index T x y,ty,pos,af,g⟩).run P w=.ok (.value v) w:=by
  obtain⟨a,o⟩:=f.plain;obtain⟨j,s,c⟩:∃j,P.info? E=some j/\j.size=1:=by
    have:=f.size;cases hi:P.info? E with
    |none=>simp[hi]at this
    |some i=>simp[hi]at this;exact⟨i,Z,this⟩
  have l:k<2:=by
    rcases Nat.lt_or_ge k 2 with h|h
    · exact h
    · rw[List.getElem?_eq_none (by simpa using h)]at b;cases b
  have m:(#[p,q]:Array Value)[k]? =some v:=by simpa using b
  have e:((k:Int)<2):=by omega
  simp only[execOp,Instr.index,n,r,underlying,asIntOf,part,isAgg,sizeOf,typeInfo];simp[f.desc,s,c,o,e,l];rw[List.getElem?_eq_getElem (by simpa using l)]at b;exact Option.some.inj b
structure PairI(P:Program)(T:TypeId):Prop where
 desc:∃f0 f1,P.underlying T=some (.struct #[f0,f1])/\f0.name≠ "_" /\f1.name≠ "_" /\f0.offset=0/\f1.offset=1/\P.underlying f0.type=some (.int .i64)/\P.underlying f1.type=some (.int .i64)/\P.plainKey f0.type=true/\P.plainKey f1.type=true
 stood:P.stoodInHeld T=false
 guard:P.eqGuardType P.depth T=false
theorem eq_pairI(d:PairI P T)(a b c e:Int):(Op.equalIn 10000 T (.agg #[.int .i64 a,.int .i64 b]) (.agg #[.int .i64 c,.int .i64 e])).run P w=.ok (decide (a=c)&&decide (b=e)) w:=by
  obtain⟨i,k,g,l,o,q,o1,m,p,f,k1⟩:=d.desc;have j:P.fieldsOf T= #[i,k]:=by simp[Program.fieldsOf,g]
  rw[show(10000:Nat)=9999+1 from rfl,run_equalIn_agg w 9999 T _ _ (by rw[j];exact g) d.stood,j];simp only[Op.eqFields,l,o,ne_eq,not_false_eq_true,if_true,q,o1,Sem.run_bind];rw[run_part_plain w f (xs:= #[.int .i64 a,.int .i64 b]) (off:=0) (v:=.int .i64 a) rfl];simp only[Result.andThen_ok];rw[run_part_plain w f (xs:= #[.int .i64 c,.int .i64 e]) (off:=0) (v:=.int .i64 c) rfl];simp only[Result.andThen_ok];rw[show(9999:Nat)=9998+1 from rfl,run_equalIn_int w 9998 i.type .i64 .i64 a c m];simp only[Result.andThen_ok,Sem.run_ite,Sem.run_bind];by_cases h:a=c
  · subst h;simp only[beq_self_eq_true,Bool.not_true,Bool.false_eq_true,if_false];rw[run_part_plain w k1 (xs:= #[.int .i64 a,.int .i64 b]) (off:=1) (v:=.int .i64 b) rfl];simp only[Result.andThen_ok];rw[run_part_plain w k1 (xs:= #[.int .i64 a,.int .i64 e]) (off:=1) (v:=.int .i64 e) rfl];simp only[Result.andThen_ok];rw[run_equalIn_int w 9998 k.type .i64 .i64 b e p];by_cases n:b=e<;>simp[n]
  · simp[h]
theorem r_eqlP{T2:TypeId}{a b c e:Int}(f:PairI P T)(h:ρ x=.agg #[.int .i64 a,.int .i64 b])(i:ρ y=.agg #[.int .i64 c,.int .i64 e]):(execOp ρ ⟨d,.binOp .eql T x y T2,ty,pos,af,g⟩).run P w=.ok (.value (.bool (decide (a=c)&&decide (b=e)))) w:=by
 simp only[execOp,h,i,Sem.run_bind,run_eqGuard_agg w .eql T x y _ _ f.guard,Result.andThen_ok,run_eql_struct,eq_pairI f];simp
theorem r_neqP{T2:TypeId}{a b c e:Int}(f:PairI P T)(h:ρ x=.agg #[.int .i64 a,.int .i64 b])(i:ρ y=.agg #[.int .i64 c,.int .i64 e]):(execOp ρ ⟨d,.binOp .neq T x y T2,ty,pos,af,g⟩).run P w=.ok (.value (.bool (!(decide (a=c)&&decide (b=e))))) w:=by
 simp only[execOp,h,i,Sem.run_bind,run_eqGuard_agg w .neq T x y _ _ f.guard,Result.andThen_ok,run_neq_struct,eq_pairI f];simp
end
section
variable{σ:Type}{n:Nat}{e Ra:Nat->Value}{mod:Nat->Bool}{live:σ->List (Nat×Value)}{J:σ->World->Prop}{w:World}
theorem bN(s:σ)(b:J s w)(c:Holds e (live s):=by repeat (first|exact U|refine⟨rfl,?_⟩))
 (a:Gr mod e Ra:=by repeat (first|(with_reducible exact Gr.refl _ _)|(with_reducible exact Gr.hav _ _ _)|(with_reducible refine Gr.on ?_)|((with_reducible refine Gr.hin ?_ ?_);rfl)|(with_reducible refine Gr.un ?_)|((with_reducible refine Gr.os ?_ ?_);rfl)|((with_reducible refine Gr.uc ?_ ?_);rfl))):
 JP n mod Ra live J (act n e) w:=⟨s,e,rfl,a,c,b⟩
theorem jq{b:σ->Nat}{c:σ}(s:σ)(f:J s w)(a:b s<b c:=by dsimp only;omega)(g:Holds e (live s):=by repeat (first|exact U|refine⟨rfl,?_⟩))
 (d:Gr mod e Ra:=by repeat (first|(with_reducible exact Gr.refl _ _)|(with_reducible exact Gr.hav _ _ _)|(with_reducible refine Gr.on ?_)|((with_reducible refine Gr.hin ?_ ?_);rfl)|(with_reducible refine Gr.un ?_)|((with_reducible refine Gr.os ?_ ?_);rfl)|((with_reducible refine Gr.uc ?_ ?_);rfl))):
 JL n mod Ra live J b c (act n e) w:=⟨s,e,rfl,d,g,f,a⟩
end
section
variable{P:Program}{Q:Exit->Act->World->Prop}{n:Nat}{env:Nat->Value}{w:World}
theorem wc_rounds{c:Code}(m:Nat)(h:WC P c (Exit.then (Code.rounds P c Q m) Q) n env w):WC P (Code.loop c) Q n env w:=⟨wp_loop_rounds (m+1) h.out⟩
theorem UZ{c:Code}{m:Nat}(h:WC P c (Exit.then (Code.rounds P c Q m) Q) n env w):Exit.then (Code.rounds P c Q (m+1)) Q .normal (act n env) w:=h.out
end
theorem SH.cn{w0 w:World}{M K:BS}{hp:Nat->Chunk}(h:SH w0 M K w hp)(l:List (Nat×Chunk))(a:ZE hp l:=by repeat (first|exact U|refine⟨rfl,?_⟩)):SH w0 M K w (hset l):=h.canon l a
section
variable{α β σ ρ:Type}
theorem drop_lt{l:List α}{k:Nat}(h:decide ((k:Int)<(l.length:Int))=true):∃x,l[k]? =some x/\l.drop k=x::l.drop (k+1):=by
 have a:k<l.length:=by have:=of_decide_eq_true h;omega
 exact⟨l[k],List.getElem?_eq_getElem a,List.drop_eq_getElem_cons a⟩
theorem drop_ge{l:List α}{k:Nat}(h:decide ((k:Int)<(l.length:Int))=false):l.drop k=[]:=by
 have:=of_decide_eq_false h;exact List.drop_eq_nil_of_le V
theorem iM{body:α->σ->(σ->ρ)->ρ}{k:σ->ρ}{x:α}{l:List α}{s:σ}:each body k (x::l) s=body x s (each body k l):=rfl
theorem sI{body:α->σ->(σ->ρ)->ρ}{k:σ->ρ}{s:σ}:each body k [] s=k s:=rfl
theorem Cs{body:Int->α->σ->(σ->ρ)->ρ}{k:σ->ρ}{x:α}{l:List α}{s:σ}{i:Int}:iQ body k i (x::l) s=body i x s (iQ body k (i+1) l):=rfl
theorem Yg{body:Int->α->σ->(σ->ρ)->ρ}{k:σ->ρ}{s:σ}{i:Int}:iQ body k i [] s=k s:=rfl
theorem upto_lt{body:Int->σ->(σ->ρ)->ρ}{k:σ->ρ}{s:σ}{i:Int}{j m:Nat}(h:j<m):upto body k i (m-j) s=body i s (upto body k (i+1) (m-(j+1))):=by
 rw[show m-j=(m-(j+1))+1 by omega];rfl
theorem upto_ge{body:Int->σ->(σ->ρ)->ρ}{k:σ->ρ}{s:σ}{i:Int}{j m:Nat}(h:m<=j):upto body k i (m-j) s=k s:=by
 rw[show m-j=0 by omega];rfl
theorem o7{body:σ->(σ->Option β)->Option β}{m:Nat}{s:σ}{r:β}(h:again body m s=some r):∃a,m=a+1/\body s (again body a)=some r:=by
 cases m with
 |zero=>cases h
 |succ m=>exact⟨m,rfl,h⟩
theorem fe{l:List α}{k:Nat}{i:Int}{x:α}(a:i=(k:Int))(h:l[k]? =some x):l[i.toNat]? =some x:=by subst a;simpa using h
theorem iH{k:Nat}{i:Int}(a:i=(k:Int)):0<=i:=by omega
theorem fP{l:List α}{k:Nat}{i:Int}(b:l.length<=9223372036854775807)(c:i=(k:Int))(a:decide (i<(l.length:Int))=true):ko (i+1):=by
 have:=of_decide_eq_true a;exact⟨by omega,by omega⟩
end
open Go.RowKit
section
variable{P:Program}{ops:Array Oper}{C:World->Prop}{Q:Exit->Act->World->Prop}{n:Nat}{env:Nat->Value}{w w':World}{rest:List Oper}
 {d:Option Nat} {op:Op} {ty:TypeId} {pos:String} {af:Array Edge} {v:Value} {g:Option (Nat×Bool)} {T:TypeId} {ρ:Operand->Value}
def BndN(o:Option Value)(a b:Nat):Prop:=(o=none/\a=b)\/o=some (.int .i64 a)
theorem addr_zero(g:Nat):(⟨g,0,none⟩:Addr).add 0=⟨g,0,none⟩:=rfl
theorem Ab{x:Operand}{k:Option Operand}{e:Operand}{E:TypeId}{l b len cap:Nat}{ad:Option Addr}(m:SliceOf P T E l)(p:ρ x=.slice ad len cap)(o:ad=none\/∃g,ad=some ⟨g,0,none⟩)(j:BndN (k.map ρ) 0 0)(a:ρ e=.int .i64 b)(n:b<=cap):
    (execOp ρ ⟨d,.slice T x k (some e) none,ty,pos,af,g⟩).run P w=.ok (.value (.slice ad b cap)) w:=by
  obtain⟨i,f,h⟩:∃i,P.info? E=some i/\i.size=l:=by
    have:=m.info;cases e:P.info? E with
    |none=>simp[e]at this
    |some i=>simp[e]at this;exact⟨i,Z,this⟩
  have c:(Instr.sliceBounds true len cap (k.map ρ) ((some e).map ρ) none).run P w=.ok (0,b,cap) w:=by
    have q:(b:Int)<=(cap:Int):=by omega
    rcases j with⟨e1,_⟩|e1
    · simp[Instr.sliceBounds,e1,a,Instr.sliceBound,asIntOf,n]
    · simp[Instr.sliceBounds,e1,a,Instr.sliceBound,asIntOf,n]
  simp only[execOp,Instr.sliceAt,Instr.slice,underlying,p];simp only[Option.map_some,a]at c;rcases o with rfl|⟨g,rfl⟩<;>simp[m.desc,c,sizeOf,typeInfo,f,h,a,addr_zero]
theorem nY{x:Operand}{s c n:Option Operand}{E:TypeId}{k gg a b m len cap:Nat}(v:SliceOf P T E k)(A:ρ x=.slice (some ⟨gg,0,none⟩) len cap)(j:BndN (s.map ρ) a 0)(t:BndN (c.map ρ) b len)(u:(n.map ρ=none/\m=cap)\/(n.map ρ=some (.int .i64 m)/\c.map ρ=some (.int .i64 b)))
    (f:a<=b) (e:b<=m) (r:m<=cap):
    (execOp ρ ⟨d,.slice T x s c n,ty,pos,af,g⟩).run P w=.ok (.value (.slice (some (if m=a then⟨gg,0,none⟩else⟨gg,a*k,none⟩)) (b-a) (m-a))) w:=by
  obtain⟨i,p,q⟩:∃i,P.info? E=some i/\i.size=k:=by
    have:=v.info;cases c:P.info? E with
    |none=>simp[c]at this
    |some i=>simp[c]at this;exact⟨i,Z,this⟩
  have l:(Instr.sliceBounds true len cap (s.map ρ) (c.map ρ)<|n.map ρ).run P w=.ok (a,b,m) w:=by
    have B:(0:Int)<=(a:Int):=Int.natCast_nonneg a;have z:(0:Int)<=(b:Int):=Int.natCast_nonneg b;have h:b<=cap:=by omega
    have o:a<=m:=by omega
    rcases u with⟨g1,g2⟩|⟨g1,f1⟩
    · subst g2;rcases j with⟨e1,e2⟩|e1<;>rcases t with⟨f1,f2⟩|f1<;>(try subst e2)<;>(try subst f2)<;>
        simp[Instr.sliceBounds,e1,f1,g1,Instr.sliceBound,asIntOf,f,e,h]
    · rcases j with⟨e1,e2⟩|e1<;>(try subst e2)<;>
        simp[Instr.sliceBounds,e1,f1,g1,Instr.sliceBound,asIntOf,f,e,r,o]
  have y:(⟨gg,0,none⟩:Addr).add (a*k)=⟨gg,a*k,none⟩:=by
    unfold Addr.add;split
    · next hz=>rw[hz]
    · simp
  simp only[execOp,Instr.sliceAt,Instr.slice,underlying,A];simp[v.desc,l,sizeOf,typeInfo,p,q,y];split<;>rfl
structure Raw(w:World)(gg cap sz:Nat)(E:TypeId)(cur:List Value):Prop where
 blk:w.heap[gg]? =some (.cells cur.toArray E (0,0))
 len:cur.length=cap*sz
 le:cap<=maxLen
theorem addr_add(gg o k:Nat):(⟨gg,o,none⟩:Addr).add k=⟨gg,o+k,none⟩:=by
  unfold Addr.add;split
  · next hz=>rw[hz];rfl
  · rfl
theorem PT{x y:Operand}{E:TypeId}{b o gg cap a m c j:Nat}{e:List Value}{ad:Addr}(G:jY P T E b o)(r:Raw w gg cap b E e)(I:ev n env x=.slice (some ⟨gg,0,none⟩) a cap)(O:ev n env y=.slice (some ad) m c)
    (A:m=0\/ad=⟨gg,j*b,none⟩) (R:j+m<=cap) (t:a+m<=cap) (K:∀u∈(e.drop (j*b)).take (m*b),u.oneCell'=true)
    (h:∀w',bH (fun x=>x=gg) w w'->Raw w' gg cap b E (e.take (a*b)++(e.drop (j*b)).take (m*b)++e.drop (a*b+m*b))->WL P ops Q rest n (gm env d (.slice (some ⟨gg,0,none⟩) (a+m) cap)) w'):
    WL P ops Q (⟨d,.call {callee:=.builtin .append,args:= #[x,y],argTypes:= #[T,T]},ty,pos,af,none⟩::rest) n env w:=by
  obtain⟨i,z,J,S,B,N,L⟩:=G.info;have M:j*b+m*b<=cap*b:=by rw[<-Nat.add_mul];exact Nat.mul_le_mul_right _ R
  have s:a*b+m*b<=cap*b:=by rw[<-Nat.add_mul];exact Nat.mul_le_mul_right _ t
  have g:=r.len;have f:((e.drop<|j*b).take<|m*b).length=m*b:=by rw[List.length_take,List.length_drop];omega
  have p:∀k u,((e.drop<|j*b).take<|m*b)[k]? =some u->w.cell? (ad.add k)=some u:=by
    intro k u v;rcases A with rfl|rfl
    · simp at v
    · rw[addr_add];have C:k<m*b:=by
        rcases Nat.lt_or_ge k (m*b)with h|h
        · exact h
        · rw[List.getElem?_eq_none V]at v;cases v
      rw[List.getElem?_take,if_pos C,List.getElem?_drop]at v;simp[World.cell?,r.blk,v]
  have l:=run_append_room (P:=P) w T ty E i G.desc J gg a cap e.toArray r.blk ad m c _ (by rw[B];exact f) p K t (by rw[B,f];simpa[g]using s);have q:(execOp (ev n env) ⟨d,.call {callee:=.builtin .append,args:= #[x,y],argTypes:= #[T,T]},ty,pos,af,none⟩).run P w=.ok (.value<|.slice (some ⟨gg,0,none⟩) (a+m) cap) (uW w gg<|.cells (e.take (a*b)++(e.drop<|j*b).take (m*b)++e.drop (a*b+m*b)).toArray E (0,0)):=by
    rw[B,f,Gy r.blk]at l;simp only[execOp,resolve,invoke,builtin,Sem.run_bind,Sem.run_pure,Result.andThen_ok,List.map_toArray,List.map_cons,List.map_nil,I,O,l]
  refine F q<|h _ (bH.uW _ _ _) ⟨uw<|iB r.blk,?_,r.le⟩;rw[List.length_append,List.length_append,f,List.length_take,List.length_drop,g];omega
def ZJ(P:Program)(E:TypeId):Prop:=∃z,(P.info? E).map (·.zero)=some (some z)/\z.cells.all (·.oneCell')=true
theorem XN{z:Array Value}{k:Nat}(h:z.all (·.oneCell')=true):∀u∈(Builtin.zeroCells z k).toList,u.oneCell'=true:=by
  intro u c;simp only[Builtin.zeroCells,Array.toList_map,List.mem_map]at c;obtain⟨i,e,rfl⟩:=c;have b:i<k*z.size:=by simpa using e
  have d:0<z.size:=by
    rcases Nat.eq_zero_or_pos z.size with h0|h0
    · rw[h0,Nat.mul_zero]at b;omega
    · exact h0
  have a:i%z.size<z.size:=Nat.mod_lt _ d;rw[getElem!_pos z (i%z.size) a];exact(Array.all_eq_true.1 h) _ a
theorem TS{x:Operand}{E:TypeId}{a j gg cap m k c:Nat}{b:List Value}(I:jY P T E a j)(v:ZJ P E)(o:Raw w gg cap a E b)(J:ev n env x=.slice (some ⟨gg,m*a,none⟩) k c)(M:0<k)(y:m+k<=cap)
    (h:∀w' g,bH (fun x=>x=gg) w w'->Raw w' gg cap a E g->g.take (m*a)=b.take (m*a)->WL P ops Q rest n (gm env d (.tuple #[])) w'):
    WL P ops Q (⟨d,.call {callee:=.builtin .clear,args:= #[x],argTypes:= #[T]},ty,pos,af,none⟩::rest) n env w:=by
  obtain⟨i,z,G,C,L,K,u⟩:=I.info;obtain⟨s,p,q⟩:=v;have A:s=z:=by simp[G,C]at p;exact p.symm
  subst A;have B:m*a+k*a<=cap*a:=by rw[<-Nat.add_mul];exact Nat.mul_le_mul_right _ y
  have f:=o.len;have l:(Builtin.zeroCells s.cells k).toList.length=k*a:=by rw[Array.length_toList,size_zeroCells,u]
  have e:=run_storeCells_at (P:=P) gg (m*a) E (Builtin.zeroCells s.cells k).toList 0 b.toArray w o.blk (by rw[l];simpa[f]using B) (XN q);rw[Gy o.blk]at e;obtain⟨t,rfl⟩:∃t,k=t+1:=⟨k-1,by omega⟩;have r:(execOp (ev n env) ⟨d,.call {callee:=.builtin .clear,args:= #[x],argTypes:= #[T]},ty,pos,af,none⟩).run P w=.ok (.value<|.tuple #[]) (uW w gg<|.cells (b.take (m*a)++(Builtin.zeroCells s.cells<|t+1).toList++b.drop (m*a+(t+1)*a)).toArray E (0,0)):=by
    rw[l]at e;simp only[Nat.add_zero]at e;simp only[execOp,resolve,invoke,builtin,Builtin.clear_,underlying,zeroValue,typeInfo,Sem.run_bind,Sem.run_pure,Result.andThen_ok,List.map_toArray,List.map_cons,List.map_nil,J];simp[I.desc,G,C,e]
  refine F r<|h _ _ (bH.uW _ _ _) ⟨uw<|iB o.blk,?_,o.le⟩ ?_
  · rw[List.length_append,List.length_append,l,List.length_take,List.length_drop,f];omega
  · rw[List.append_assoc,List.take_append_of_le_length (by rw[List.length_take];omega),List.take_take,Nat.min_self]
end
theorem UD{α:Type}{R:kL α}{E:TypeId}{w:World}{A:BS}{v:Value}{l:List α}(h:cK R E w A v l)(j:0<l.length):
    ∃gg cap a,v=.slice (some ⟨gg,0,none⟩) l.length cap/\Raw w gg cap R.sz E a/\l.length<=cap/\∀i (h:i<l.length),R.rd w (fun b=>A b\/b=gg) ((a.drop (i*R.sz)).take R.sz) l[i]:=by
  obtain⟨xs,g,f⟩:=h;rcases g.2 with⟨rfl,hn⟩|⟨gg,cap,a,rfl,e1,e2,e3,e4,e5,e6⟩
  · omega
  refine⟨gg,cap,a.toList,Z,⟨by simpa using e2,by simpa using e5,e4⟩,e3,fun i e=>?_⟩;have c:(i+1)*R.sz<=l.length*R.sz:=Nat.mul_le_mul_right _ e;rw[Nat.add_mul]at c;have d:=f i e;rw[<-e6,List.drop_take,List.take_take,Nat.min_eq_left V]at d;exact d
theorem ZK{α:Type}{R:kL α}{w:World}{A:BS}{l:List α}{a:List Value}(h:∀i (h:i<l.length),R.rd w A ((a.drop (i*R.sz)).take R.sz) l[i]){j m:Nat}(n:j+m<=l.length):∀u∈(a.drop (j*R.sz)).take (m*R.sz),u.oneCell'=true:=by
 intro u f;obtain⟨k,d,rfl⟩:=List.getElem_of_mem f;have c:k<m*R.sz:=by rw[List.length_take]at d;omega
 have hp:=R.pos;have g:k / R.sz<m:=Nat.div_lt_of_lt_mul (by rw[Nat.mul_comm];exact c);refine R.one (h (j+k / R.sz) V) _ ?_;rw[List.mem_iff_getElem?];refine⟨k%R.sz,?_⟩;have b:k%R.sz<R.sz:=Nat.mod_lt _ hp;rw[List.getElem?_take,if_pos b,List.getElem?_drop,List.getElem_take,List.getElem_drop];have e:(j+k / R.sz)*R.sz+k%R.sz=j*R.sz+k:=by
  rw[Nat.add_mul,Nat.add_assoc,Nat.mul_comm (k / R.sz),Nat.div_add_mod]
 rw[e,List.getElem?_eq_getElem]
theorem raw_del{α:Type}{R:kL α}{E:TypeId}{w w':World}{A:BS}{l:List α}{gg cap i j:Nat}{c e:List Value}(r:Raw w' gg cap R.sz E e)(J:Raw w gg cap R.sz E c)(I:bH (fun x=>x=gg) w w')(p:i<=j)(N:j<=l.length)(L:l.length<=cap)
    (g:∀k (h:k<l.length),R.rd w (fun b=>A b\/b=gg) ((c.drop (k*R.sz)).take R.sz) l[k])
    (y:e.take ((i+(l.length-j))*R.sz)=c.take (i*R.sz)++(c.drop (j*R.sz)).take ((l.length-j)*R.sz)):
    cK R E w' A (.slice (some ⟨gg,0,none⟩) (i+(l.length-j)) cap) (l.take i++l.drop j):=by
  have d:(l.take i++l.drop j).length=i+(l.length-j):=by rw[List.length_append,List.length_take,List.length_drop];omega
  have C:=J.len;have K:l.length*R.sz<=cap*R.sz:=Nat.mul_le_mul_right _ L;have G:j*R.sz<=l.length*R.sz:=Nat.mul_le_mul_right _ N;have M:i*R.sz<=j*R.sz:=Nat.mul_le_mul_right _ p;have u:(l.length-j)*R.sz=l.length*R.sz-j*R.sz:=Nat.sub_mul _ _ _;have n:(c.take<|i*R.sz).length=i*R.sz:=by rw[List.length_take];omega
  refine⟨c.take (i*R.sz)++(c.drop<|j*R.sz).take ((l.length-j)*R.sz),⟨?_,.inr ⟨gg,cap,e.toArray,?_,Nat.zero_le _,r.blk,?_,r.le,?_,?_⟩⟩,?_⟩
  · rw[d,List.length_append,n,List.length_take,List.length_drop,Nat.add_mul];omega
  · rw[d]
  · rw[d];omega
  · simpa using r.len
  · rw[d];exact y
  · intro k s;rw[d]at s;have m:=fun cs a(h:R.rd w (fun b=>A b\/b=gg) cs a)=>R.go (A':=fun b=>A b\/b=gg) h I (fun x B _=>.inr B) fun _ h _=>h;by_cases t:k<i
    · have f:(k+1)*R.sz<=i*R.sz:=Nat.mul_le_mul_right _ t;rw[Nat.add_mul]at f;have o:=m _ _<|g k V;rw[List.getElem_append_left (by rw[List.length_take];omega),List.getElem_take,List.drop_append_of_le_length V,List.take_append_of_le_length (by rw[List.length_drop];omega),List.drop_take,List.take_take,Nat.min_eq_left V];exact o
    · have o:=m _ _<|g (j+(k-i)) V;have f:(k-i+1)*R.sz<=(l.length-j)*R.sz:=Nat.mul_le_mul_right _ V;rw[Nat.add_mul]at f;have v:i*R.sz<=k*R.sz:=Nat.mul_le_mul_right _ V;have q:(k-i)*R.sz=k*R.sz-i*R.sz:=Nat.sub_mul _ _ _;rw[List.getElem_append_right (by rw[List.length_take];omega)];have z:(l.drop j)[k-(l.take i).length]'(by rw[List.length_take,List.length_drop];omega)=l[j+(k-i)]'V:=by
        rw[List.getElem_drop];congr 1;rw[List.length_take];omega
      rw[z,List.drop_append,List.drop_eq_nil_of_le V,List.nil_append,n,<-q,List.drop_take,List.take_take,Nat.min_eq_left V,List.drop_drop,<-Nat.add_mul];exact o
theorem Raw.keep{w w':World}{gg cap b:Nat}{E:TypeId}{a:List Value}{N:BS}(h:Raw w gg cap b E a)(c:bH N w w')(hn:¬N gg):Raw w' gg cap b E a:=⟨c.blk h.blk hn,h.len,h.le⟩
section
variable{P:Program}{Q:Exit->Act->World->Prop}{n:Nat}{env:Nat->Value}{w w' w0:World}{M K:BS}{hp:Nat->Chunk}
theorem PU{id:Nat}(k:Nat){l:List Oper}(c:P.follows .mixedOrders=true)(d:Region.lexTailB .any l.toArray k=true)
  (e:∀b,Grow w b->WK P l.toArray b (fun a=>wpList P l.toArray Q (l.drop k) a b) (l.take k) n env):WC P (Code.region id l.toArray true) Q n env w:=
 ⟨wp_region_still_tail k c d (uy (e _ (Grow.drew w)).out)⟩
theorem SH.given{α:Type}{R:kL α}{E:TypeId}{v u:Value}{l d:List α}(h:SH w0 M K w hp)(i:Nat)(c:hp i=.own R E v l)(ho:cK R E w' (fun b=>M b\/rest hp i b) u d)(f:bH (ob v) w w')(hn:∀b,ob u b->b<w.heap.size->ob v b):SH w0 M K w' (bV hp i (.own R E u d)):=by
  refine h.step i f (fun b a _=>by rw[c];exact a) (fun b a e=>by rw[c];exact hn b a e) ?_;refine cK.go ho (bH.refl BE w') (fun _ h=>h.elim) (fun _ h=>h.elim) fun b a _=>?_;rcases a with a|a|a
  · exact .inl<|.inl a
  · exact .inl<|.inr a
  · exact .inr a
theorem SH.giveO{α:Type}{R:kL α}{E:TypeId}{v:Value}{l:List α}(h:SH w0 M K w hp)(i:Nat)(c:hp i=.own R E v l):cK R E w (fun b=>M b\/rest hp i b) v l:=
 cK.go (h.bF i c) (bH.refl BE w) (fun _ h=>h.elim) (fun _ h=>h.elim) (fun b a _=>.inl (a.imp id kP))
theorem SH.Jv{α β:Type}{R:kL α}{R':kL β}{E:TypeId}{v u:Value}{l:List α}{e:List β}(h:SH w0 M K w hp)(i j:Nat)(d:hp i=.rd R v l)(c:hp j=.own R' E u e):cz R w (fun b=>M b\/ob u b) v l:=
 (h.bI i d).sub (fun b a _=>a.elim .inl (fun a=>.inr ⟨j,by rw[c];exact a⟩)) (fun b a _=>a.elim .inl (fun a=>.inr ⟨j,by rw[c];exact a⟩))
theorem cz.XH{α β:Type}{R:kL α}{R':kL β}{E:TypeId}{v u:Value}{l:List α}{d:List β}{i:Nat}(h:cz R w (fun b=>SH.A M hp b\/ob u b) v l):cz R w (SH.A M (bV hp i (.own R' E u d))) v l:=by
  have c:∀b,SH.A M (bV hp i<|.own R' E u d) b->SH.A M hp b\/ob u b:=by
    rintro b(a|⟨j,a⟩)
    · exact .inl<|.inl a
    · by_cases e:j=i
      · subst e;rw[dh]at a;exact .inr a
      · rw[eZ e]at a;exact .inl (.inr ⟨j,a⟩)
  exact h.sub (fun b a _=>c b a) fun b a _=>c b a
theorem del_len{i j l cap a:Nat}{b:List Value}(g:b.length=cap*a)(d:i<=j)(m:j<=l)(f:l<=cap):
  ((b.take (i*a)++(b.drop (j*a)).take ((l-j)*a)++b.drop (i*a+(l-j)*a)).take ((i+(l-j))*a))=b.take (i*a)++(b.drop (j*a)).take ((l-j)*a):=by
 have h:i*a<=j*a:=Nat.mul_le_mul_right _ d;have n:j*a+(l-j)*a=l*a:=by rw[<-Nat.add_mul];congr 1;omega
 have k:l*a<=cap*a:=Nat.mul_le_mul_right _ f;have e:(b.take<|i*a).length=i*a:=by rw[List.length_take];omega
 have c:((b.drop<|j*a).take ((l-j)*a)).length=(l-j)*a:=by rw[List.length_take,List.length_drop];omega
 rw[Nat.add_mul,List.take_append_of_le_length (by rw[List.length_append,e,c];omega),List.take_of_length_le (by rw[List.length_append,e,c];omega)]
def del1{α:Type}(l:List α)(i j:Int):Option (List α):=if 0<=i/\i<j/\j<=l.length then some (l.take i.toNat++l.drop j.toNat)else none
theorem o_del{α:Type}{l r:List α}{i j:Int}(h:del1 l i j=some r):∃a b:Nat,i=a/\j=b/\a<b/\b<=l.length/\r=l.take a++l.drop b:=by
  unfold del1 at h;by_cases hp:0<=i/\i<j/\j<=l.length
  · rw[if_pos hp]at h;cases h;exact⟨i.toNat,j.toNat,by omega,by omega,by omega,by omega,Z⟩
  · rw[if_neg hp]at h;cases h
end
open Go.RowKit
def selK(K:Act->World->Prop)(Q:Exit->Act->World->Prop):Exit->Act->World->Prop
 | .normal,a,w=>K a w
 |e,a,w=>Q e a w
section
variable{P:Program}{ops:Array Oper}
variable{Q:Exit->Act->World->Prop}{n:Nat}{env:Nat->Value}{w w0:World}{M K:BS}{hp:Nat->Chunk}
structure WH(P:Program)(ops:Array Oper)(ws:World)(Q:Exit->Act->World->Prop)(fuel:Nat)(listed:Array Bool)(n:Nat)(env:Nat->Value)(w:World):Prop where
 out:wpAnyH P .any ops (NoPanic Q) (Grow ws) fuel listed (act n env) w
theorem sJ{id:Nat}{l:List Oper}(a:P.follows .mixedOrders=true)(b:SH w0 M K w hp)
  (h:∀w,SH w0 M K w hp->WH P l.toArray w Q l.length (Array.replicate l.length false) n env w):WC P (Code.region id l.toArray true) Q n env w:=
 ⟨wp_region_noPanic (wp_region_held (S:=Grow w.drew) a (h _ (b.grow (Grow.drew w))).out)⟩
theorem Yh{S S':World->Prop}(b:∀w,S' w->S w):∀(fuel:Nat) (listed:Array Bool) (a:Act) (w:World),wpAnyH P .any ops Q S' fuel listed a w->wpAnyH P .any ops Q S fuel listed a w
 |0,_,_,_,h=>h
 |fuel+1,_,_,_,h=>⟨h.1,fun i d=>wpOp_mono (fun a' w' c=>⟨b _ c.1,Yh b fuel _ a' w' c.2⟩) (h.2 i d)⟩
variable{d:Option Nat}{op:Op}{ty:TypeId}{pos:String}{af:Array Edge}{v:Value}{g:Option (Nat×Bool)}{i fuel:Nat}{listed:Array Bool}
theorem aY:Region.wanted ⟨d,op,ty,pos,af,none⟩ (yielded ops (act n env).tmps)=true:=rfl
theorem wh_first{ws:World}{o:Oper}(d:Grow ws w)(e:ops[i]? =some o)(c:Region.noSelect ops=true)(b:Region.free .any ops listed i=true)(a:(Region.ready .any ops listed).contains i=true)
  (f:YieldsIf P ops (Grow ws) o v (act n env)) (h:WH P ops ws Q fuel (listed.setIfInBounds i true) n (gm env o.dst v) w):WH P ops ws Q (fuel+1) listed n env w:=by
 refine⟨wpAnyH_take e c b a (fun _ _ _ h=>h) f d ?_⟩;rw[Dh];exact h.out
theorem wh_ok{ws:World}(i:Nat)(k:Grow ws w)(m:ops[i]? =some ⟨d,op,ty,pos,af,g⟩)(c:Region.wanted ⟨d,op,ty,pos,af,g⟩ (yielded ops (act n env).tmps)=true)(j:Region.noSelect ops=true)(e:Region.free .any ops listed i=true)(b:(Region.ready .any ops listed).contains i=true)
  (l:∀a,Grow ws a->(execOp (ev n env) ⟨d,op,ty,pos,af,g⟩).run P a=.ok (.value v) a) (h:WH P ops ws Q fuel (listed.setIfInBounds i true) n (gm env d v) w):WH P ops ws Q (fuel+1) listed n env w:=
 wh_first (o:=⟨d,op,ty,pos,af,g⟩) k m j e b (.inl ⟨c,fun a f=>by rw[gD];exact l a f⟩) h
theorem wh_done{ws:World}(a:Region.ready .any ops listed=[])(h:Q .normal (act n env) w):WH P ops ws Q fuel listed n env w:=⟨wpAnyH_done a (NoPanic.normal h) fuel⟩
def after(P:Program)(ops:Array Oper)(ws:World)(Q:Exit->Act->World->Prop)(fuel:Nat)(listed:Array Bool):Exit->Act->World->Prop:=
 selK (fun a' w'=>Grow ws w'/\wpAnyH P .any ops (NoPanic Q) (Grow ws) fuel listed a' w') (NoPanic Q)
theorem dN{ws:World}(a:Grow ws w)(h:WH P ops ws Q fuel listed n env w):after P ops ws Q fuel listed .normal (act n env) w:=⟨a,h.out⟩
theorem Fv{K:Act->World->Prop}{Q1:Exit->Act->World->Prop}(l:ops[i]? =some ⟨d,op,ty,pos,af,g⟩)(k:Region.wanted ⟨d,op,ty,pos,af,g⟩ (yielded ops (act n env).tmps)=true)
    (h:WL P ops (selK K Q1) [⟨d,op,ty,pos,af,none⟩] n env w):wpOp P ops Q1 i K (act n env) w:=by
  unfold wpOp;simp only[l,k,if_true];have b:=h.out;unfold wpList at b;rw[if_pos (show Region.wanted _ _=true from rfl)]at b;rcases b with b|⟨ha,hl⟩
  rotate_left
  · exact .inr ⟨ha,let ⟨a,w,h⟩:=hl;⟨a,w,h⟩⟩
  refine .inl ?_;unfold Oper.wp at b⊢;have e:(execOp (act n env).eval ⟨d,op,ty,pos,af,g⟩)=execOp (act n env).eval ⟨d,op,ty,pos,af,none⟩:=by unfold execOp;rfl
  rw[e];generalize (execOp (act n env).eval ⟨d,op,ty,pos,af,none⟩).run P w=r at b⊢;cases r with
  |ok nx w'=>
    cases nx with
    |value v=>exact b
    |skip=>exact b
    |defer d=>exact b
    |enter f args=>
      refine Calls.mono b fun e m j=>?_;cases e with
      |returned v=>exact j
      |panicked c=>exact j
      |outgrown=>exact j
    |row r args=>exact b
    |_=>exact b
  |halt x w'=>
    cases x<;>exact b
theorem wh_eff{ws:World}(i:Nat)(a:Region.ready .any ops listed=[i])(e:ops[i]? =some ⟨d,op,ty,pos,af,g⟩)(c:Region.wanted ⟨d,op,ty,pos,af,g⟩ (yielded ops (act n env).tmps)=true)
  (h:WL P ops (after P ops ws Q fuel (listed.setIfInBounds i true)) [⟨d,op,ty,pos,af,none⟩] n env w):WH P ops ws Q (fuel+1) listed n env w:=by
 refine⟨wpAnyH_all a zq3 fun k b=>?_⟩;obtain rfl:k=i:=by simpa using b
 exact Fv e c h
theorem EH{ws:World}{m:Option Nat}{c:Op}{e:TypeId}{a:String}{b:Array Edge}{o:Option (Nat×Bool)}(i j:Nat)(p:Region.ready .any ops listed=[i,j])(t:ops[i]? =some ⟨d,op,ty,pos,af,g⟩)(q:Region.wanted ⟨d,op,ty,pos,af,g⟩ (yielded ops (act n env).tmps)=true)
    (s:ops[j]? =some ⟨m,c,e,a,b,o⟩) (f:Region.wanted ⟨m,c,e,a,b,o⟩ (yielded ops (act n env).tmps)=true)
    (h:WL P ops (after P ops ws Q fuel (listed.setIfInBounds i true)) [⟨d,op,ty,pos,af,none⟩] n env w) (r:WL P ops (after P ops ws Q fuel (listed.setIfInBounds j true)) [⟨m,c,e,a,b,none⟩] n env w):WH P ops ws Q (fuel+1) listed n env w:=by
  refine⟨wpAnyH_all p zq3 fun k l=>?_⟩;rcases List.mem_cons.1 l with rfl|l
  · exact Fv t q h
  · obtain rfl:k=j:=by simpa using l
    exact Fv s f r
theorem wh_base{ws:World}(a:Grow ws w)(h:WH P ops w Q fuel listed n env w):WH P ops ws Q fuel listed n env w:=⟨Yh (fun _ h=>a.trans h) _ _ _ _ h.out⟩
variable{w':World}{rest:List Oper}{T:TypeId}{x y:Operand}
theorem xk{α:Type}{R:kL α}{E:TypeId}{l c:Nat}{a:Array (Nat×Operand)}{len:Nat}{vs:List Value}{xs:List α}(h:SH w0 M K w hp)(i:Nat)(r:jY P T E l c)(q:R.sz=l)
  (x:(a.toList.map fun p=>(p.1,ev n env p.2))=vs.zipIdx.map fun p=>(p.2,p.1)) (e:vs.length=len) (s:H8 R w (SH.A M hp) vs xs) (f:Nat.ble (len*l) 16777216=true)
  (k:∀w' u,SH w0 M K w' (bV hp i (.own R E u xs))->Grow w w'->(∀b,ob u b->w.heap.size<=b)->WL P ops Q rest n (gm env d u) w'):
  WL P ops Q (⟨d,.buildSlice T len a,ty,pos,af,none⟩::rest) n env w:=by
 obtain⟨u,w',t,o,v,m⟩:=run_bs (d:=d) (ty:=ty) (pos:=pos) (af:=af) (g:=none) r q x e s h.lt<|Nat.le_of_ble_eq_true f;exact F t<|k w' u (h.wK i o v fun b j=>Nat.le_of_eq<|m b j) o fun b j=>Nat.le_of_eq<|m b j
theorem bH.fresh{a b c:World}{N:BS}(h:Grow a b)(k:bH N b c)(hN:∀x,N x->a.heap.size<=x):Grow a c:=h.step k (fun x d e=>by have:=hN x d;omega)
end
open Go.RowKit Go.Deep
def xm{α:Type}(P:Program)(T:TypeId)(R:kL α):Prop:=
 ∀(a:Type) (enc:TypeId×Value->a) (w:World) (b:Nat->Bool) (c:Bool) (fuel:Nat) (cs:List Value) (x:DataW a×List MemPlace),DataW.trod enc P w 0 b c fuel T cs=some x->∃d,R.rd w BE cs d
theorem opens_int{P:Program}{T:TypeId}(d:P.underlying T=some (.int .i64)):xm P T di:=by
 intro a enc w b c fuel cs x h;obtain⟨n,rfl,_,e⟩:=DataW.trod_int d h;exact⟨n,Z⟩
theorem opens_bool{P:Program}{T:TypeId}(e:P.underlying T=some .bool):xm P T rBool:=by
 intro a enc w c d fuel cs x h;obtain⟨b,rfl,_⟩:=DataW.trod_bool e h;exact⟨b,Z⟩
theorem xn{α:Type}{P:Program}{T E:TypeId}{R:kL α}(X:P.underlying T=some (.slice E))(S:P.cellsOf E=R.sz)(h:xm P E R):xm P T (tK R):=by
  intro g enc w q A fuel cs x hx;rcases open_slice X hx with⟨rfl,rfl⟩|⟨a,len,cap,m,n,D,Pl,rfl,_,hl,hm,hmm,rfl,hel⟩
  · exact⟨[],_,Z,ed.nil⟩
  · have a0:len<=m:=by rw[hmm];split<;>omega
    have z:∀i,i<len->∃d:α,∃b o cells c r,a=⟨b,o,none⟩/\w.heap[b]? =some (.cells cells c r)/\R.rd w BE ((cells.toList.drop<|o+i*R.sz).take R.sz) d:=by
      intro i p;obtain⟨l,Q,h2⟩:=hel i V;obtain⟨d,hd⟩:=h g enc w q A n l _ h2;refine⟨d,?_⟩;rw[S]at Q;obtain⟨_,N,s⟩:=World.cells?_some Q;have hp:=R.pos;have G:a.spot=none:=by
        obtain⟨y,g1,_⟩:=hel 0 V;rw[S]at g1;obtain⟨_,O,t⟩:=World.cells?_some g1;have M:=t 0 hp;rw[Nat.zero_mul,add_add,Nat.zero_add]at M;have:∃v,y[0]? =some v:=⟨y[0]'V,List.getElem?_eq_getElem V⟩;obtain⟨v,K⟩:=this;rw[K]at M;have:=World.cell?_spot M;simpa[Addr.add]using this
      obtain⟨b,o,sp⟩:=a;simp only at G;subst G;have C:∀k,(⟨b,o,none⟩:Addr).add k=⟨b,o+k,none⟩:=by
        intro k;unfold Addr.add;split<;>simp_all
      have B:∀j,j<R.sz->w.cell? ⟨b,o+i*R.sz+j,none⟩=l[j]? :=by
        intro j I;have:=s j I;rw[add_add,C]at this;rw[<-this,Nat.add_assoc]
      have J:=B 0 hp;have K:l[0]? =some (l[0]'V):=List.getElem?_eq_getElem V;rw[K]at J;unfold World.cell? at J;cases u:w.heap[b]? with
      |none=>simp[u]at J
      |some ob=>
        cases ob with
        |cells cells c r=>
          refine⟨b,o,cells,c,r,Z,u,?_⟩;have e:(cells.toList.drop<|o+i*R.sz).take R.sz=l:=by
            apply List.ext_getElem?;intro j;rw[List.getElem?_take,List.getElem?_drop];by_cases I:j<R.sz
            · rw[if_pos I,<-B j I];simp[World.cell?,u]
            · rw[if_neg I,List.getElem?_eq_none V]
          rw[e];exact hd
        |_=>simp[u]at J
    obtain⟨f,hf⟩:∃f:(i:Nat)->i<len->α,∀i p,∃b o cells c r,a=⟨b,o,none⟩/\w.heap[b]? =some (.cells cells c r)/\R.rd w BE ((cells.toList.drop<|o+i*R.sz).take R.sz) (f i p):=
      ⟨fun i p=>Classical.choose (z i p),fun i p=>Classical.choose_spec (z i p)⟩
    refine⟨List.ofFn fun i:Fin len=>f i.val i.isLt,_,Z,some a,cap,by simp,by simpa using hl,hm,(fun h=>by cases h),?_⟩;intro i p;have L:i<len:=by simpa using p
    obtain⟨b,o,cells,c,r,rfl,u,hr⟩:=hf i L;refine⟨b,o,cells,c,r,Z,fun h=>h,u,?_⟩;simpa using hr
theorem zO{a:Type}{enc:TypeId×Value->a}{P:Program}{w:World}{b:Nat->Bool}{c:Bool}{T:TypeId}{j:Array Field}{fuel:Nat}{cs:List Value}{x:DataW a×List MemPlace}(k:P.underlying T=some (.struct j))(h:DataW.trod enc P w 0 b c fuel T cs=some x):
    cs.length=P.cellsOf T/\∃n:Nat,∀(i:Nat) (f:Field),j[i]? =some f->∃y:DataW a×List MemPlace,DataW.trod enc P w 0 b c n f.type ((cs.drop f.offset).take (P.cellsOf f.type))=some y:=by
  obtain⟨xs,n,_,_,l,d,m⟩:=DataW.trod_struct k h;refine⟨l,n,fun i f g=>?_⟩;have:=m i f g;have e:i<xs.length:=by
    rw[d];rcases Nat.lt_or_ge i j.size with h1|h1
    · exact h1
    · rw[Array.getElem?_eq_none h1]at g;cases g
  rw[List.getElem?_eq_getElem e]at this;exact⟨_,this⟩
theorem fH{α:Type}{a:Type}{enc:TypeId×Value->a}{P:Program}{w:World}{b:Nat->Bool}{c:Bool}{e:Array Field}{n:Nat}{cs:List Value}{R:kL α}{i:Nat}{f:Field}
  (h:∀(i:Nat) (f:Field),e[i]? =some f->∃y:DataW a×List MemPlace,DataW.trod enc P w 0 b c n (Field.type f) ((cs.drop f.offset).take (P.cellsOf f.type))=some y) (k:e[i]? =some f) (l:P.cellsOf f.type=R.sz) (j:xm P f.type R):
  ∃d,R.rd w BE ((cs.drop f.offset).take R.sz) d:=by
 obtain⟨y,g⟩:=h i f k;rw[l]at g;exact j a enc w b c n _ _ g
theorem cells_one{l:List Value}{o:Nat}{v:Value}(h:(l.drop o).take 1=[v]):l[o]? =some v:=by
 have:=congrArg (fun l=>l[0]?) h;simpa[List.getElem?_take,List.getElem?_drop]using this
theorem uz{α:Type}{l:List α}{n:Nat}(h:l.length=n+1):∃a t,l=a::t/\t.length=n:=by
 cases l with
 |nil=>simp at h
 |cons a t=>exact⟨a,t,rfl,by simpa using h⟩
theorem nobody{w:World}:∀b,BE b->b<w.heap.size:=fun _ h=>h.elim
open Go.RowKit Go.MapKept
def aget(z:Value)(jR:List (Int×Value))(k:Int):Value:=match jR with|[]=>z|p::r=>if k=p.1 then p.2 else aget z r k
def U0(jR:List (Int×Value))(k:Int)(v:Value):List (Int×Value):=match jR with|[]=>[(k,v)]|p::r=>if k=p.1 then(p.1,v)::r else p::U0 r k v
def ahas(jR:List (Int×Value))(k:Int):Bool:=match jR with|[]=>false|p::r=>if k=p.1 then true else ahas r k
def NS(jR:List (Int×Value))(k:Int)(i:Nat):Option (Nat×Value):=match jR with|[]=>none|p::r=>if k=p.1 then some (i,p.2)else NS r k (i+1)
theorem EI{jR:List (Int×Value)}{k:Int}:∀{a:List MapEntry} {i:Nat},a.map (fun e=>(e.key,e.val))=jR.map (fun p=>(Value.int .i64 p.1,p.2))->
    Instr.findNow (.int .i64) (.int .i64 k) a i=some (NS jR k i):=by
  induction jR with
  |nil=>intro a i h;cases a with|nil=>rfl|cons e r=>simp at h
  |cons p r ih=>
    intro a i h;cases a with
    |nil=>simp at h
    |cons e s=>
      simp only[List.map_cons,List.cons.injEq,Prod.mk.injEq]at h;obtain⟨⟨c,f⟩,d⟩:=h;unfold Instr.findNow NS;by_cases b:k=p.1
      · simp[Instr.sameNow,c,f,b]
      · have:(k==p.1)=false:=by simpa using b
        simp[Instr.sameNow,c,this,b,ih d]
theorem U1{z:Value}{k:Int}:∀{jR:List (Int×Value)} {i:Nat},aget z jR k=match NS jR k i with|some (_,v)=>v|none=>z
  |[],i=>rfl
  |p::r,i=>by
    unfold aget NS;by_cases a:k=p.1
    · simp[a]
    · simp only[a,if_false];exact U1
theorem Re{k:Int}{v:Value}:∀{jR:List (Int×Value)} {i:Nat},NS jR k i=none->U0 jR k v=jR++[(k,v)]
  |[],i,_=>rfl
  |p::r,i,h=>by
    unfold NS at h;unfold U0;by_cases a:k=p.1
    · simp[a]at h
    · simp only[a,if_false]at h⊢;rw[Re h];rfl
theorem Rf{k:Int}{v u:Value}:∀{jR:List (Int×Value)} {i j:Nat},NS jR k i=some (j,u)->i<=j/\∃p,jR[j-i]? =some p/\p.1=k/\U0 jR k v=jR.set (j-i) (k,v)
  |[],i,j,h=>by cases h
  |p::r,i,j,h=>by
    unfold NS at h;unfold U0;by_cases a:k=p.1
    · simp only[a,if_true,Option.some.injEq,Prod.mk.injEq]at h;obtain⟨rfl,_⟩:=h;refine⟨Nat.le_refl _,p,by simp,a.symm,?_⟩;simp[a]
    · simp only[a,if_false]at h⊢;obtain⟨e,q,c,d,b⟩:=Rf (v:=v) h;refine⟨by omega,q,?_,d,?_⟩
      · rw[show j-i=(j-(i+1))+1 by omega];simpa using c
      · rw[show j-i=(j-(i+1))+1 by omega,b];simp
section
variable{P:Program}{ops:Array Oper}{Q:Exit->Act->World->Prop}{n:Nat}{env:Nat->Value}{w w' w0:World}{M K:BS}{hp:Nat->Chunk}{rest:List Oper}
 {d:Option Nat} {op:Op} {ty:TypeId} {pos:String} {af:Array Edge} {v:Value} {g:Option (Nat×Bool)} {T:TypeId} {ρ:Operand->Value}
structure MapOf(P:Program)(T:TypeId)(z:Value):Prop where
  desc:∃K E,P.underlying T=some (.map K E)/\P.underlying K=some (.int .i64)/\(P.info? E).map (·.zero)=some (some z)
theorem r_makeMap:(execOp ρ ⟨d,.makeMap T none,ty,pos,af,g⟩).run P w=.ok (.value (.map (some w.heap.size))) (w.alloc (.map #[] 0)):=by
 simp[execOp,Instr.makeMap,World.alloc,-World.alloc_eq]
theorem ckInt{e:Bool}{K:TypeId}{k:Int}(a:P.underlying K=some (.int .i64)):(Instr.checkKey e 10000 K (.int .i64 k)).run P w=.ok () w:=
 run_checkKey a (by trivial) e 9999
theorem Jt.push{b:Array MapEntry}{c:Nat}(h:Jt b c)(k v:Value):Jt (b.push {key:=k,val:=v,born:=c}) (c+1):=by
  refine⟨fun e a=>?_,?_⟩
  · simp only[Array.toList_push,List.mem_append,List.mem_singleton]at a;rcases a with a|rfl
    · exact Nat.lt_succ_of_lt<|h.1 e a
    · exact Nat.lt_succ_self c
  · rw[Array.toList_push,List.map_append,List.nodup_append];refine⟨h.2,by simp,fun x d y f=>?_⟩;simp only[List.map_cons,List.map_nil,List.mem_singleton]at f;obtain⟨e,a,rfl⟩:=List.mem_map.1 d;have:=h.1 e a;omega
theorem Jt.modify{a:Array MapEntry}{c:Nat}(h:Jt a c)(j:Nat)(k v:Value):Jt (a.modify j fun e=>{e with key:=k,val:=v}) c:=by
  have e:(a.modify j fun e=>{e with key:=k,val:=v}).toList.map (·.born)=a.toList.map (·.born):=by
    apply List.ext_getElem?;intro i;simp only[List.getElem?_map,Array.getElem?_toList,Array.getElem?_modify];by_cases d:j=i
    · subst d;cases a[j]? <;>simp
    · simp[d]
  refine⟨fun x f=>?_,by rw[e];exact h.2⟩;have:x.born∈(a.modify j fun e=>{e with key:=k,val:=v}).toList.map (·.born):=List.mem_map.2 ⟨x,f,Z⟩;rw[e]at this;obtain⟨y,g,b⟩:=List.mem_map.1 this;rw[<-b];exact h.1 y g
theorem r_lookup{z:Value}{x y:Operand}{b:Nat}{k:Int}{jR:List (Int×Value)}(s:MapOf P T z)(o:ρ x=.map (some b))(A:ρ y=.int .i64 k)(f:Gx w b jR):
  (execOp ρ ⟨d,.lookup T x y false,ty,pos,af,g⟩).run P w=.ok (.value (aget z jR k)) w:=by
 obtain⟨K,E,t,j,h⟩:=s.desc;obtain⟨u,a,f,q,v⟩:=f;obtain⟨i,c,n⟩:∃i,P.info? E=some i/\i.zero=some z:=by
  cases c:P.info? E with
  |none=>simp[c]at h
  |some i=>simp[c]at h;exact⟨i,Z,h⟩
 have m:=EI (k:=k) (i:=0) q;have l:(getObj b).run P w=.ok (.map u a) w:=by simp[getObj,Sem.run,f]
 rw[U1 (z:=z) (k:=k) (jR:=jR) (i:=0)];simp only[execOp,Instr.lookup,underlying,o,A];have r:=fun e=>ckInt (P:=P) (w:=w) (e:=e) (K:=K) (k:=k) j;simp only[Sem.run_bind,run_program,Result.andThen_ok,t,Sem.run_pure,l,r,Instr.findKey,underlying,j,m];cases ha:NS jR k 0 with
 |none=>simp[zeroValue,typeInfo,c,n]
 |some p=>simp
theorem ZL{z:Value}{x y u:Operand}{b:Nat}{k:Int}{jR:List (Int×Value)}(hT:MapOf P T z)(M:ev n env x=.map (some b))(hy:ev n env y=.int .i64 k)(O:ev n env u=v)(c:Gx w b jR)
    (h:∀w',bH (fun x=>x=b) w w'->Gx w' b (U0 jR k v)->WL P ops Q rest n (gm env d undef) w'):
    WL P ops Q (⟨d,.mapUpdate T x y u,ty,pos,af,none⟩::rest) n env w:=by
  obtain⟨K,E,X,G,h3⟩:=hT.desc;obtain⟨f,a,c,s,t⟩:=c;have A:=EI (k:=k) (i:=0) s;have L:(getObj b).run P w=.ok (.map f a) w:=by simp[getObj,Sem.run,c]
  have m:=iB c;have R:=fun e=>ckInt (P:=P) (w:=w) (e:=e) (K:=K) (k:=k) G;have g:f.toList.length=jR.length:=by have:=congrArg List.length s;simpa using this
  cases ha:NS jR k 0 with
  |none=>
    refine zx (w':=uW w b<|.map (f.push {key:=.int .i64 k,val:=v,born:=a})<|a+1) ?_<|h _ (bH.uW _ _ _) ⟨_,_,uw m,?_,t.push _ _⟩
    · rw[ha]at A;simp only[execOp,Instr.mapUpdate,underlying,M,hy,O];simp only[Sem.run_bind,run_program,Result.andThen_ok,X,Sem.run_pure,L,R,Instr.findKey,underlying,G,A,run_setObj_map _ c];rfl
    · rw[Re ha];simp[s]
  |some p=>
    obtain⟨j,u0⟩:=p;obtain⟨_,q,B,J,hset⟩:=Rf (v:=v) ha;simp only[Nat.sub_zero]at B hset;have I:j<f.size:=by
      have r:j<jR.length:=by
        rcases Nat.lt_or_ge j jR.length with r|r
        · exact r
        · rw[List.getElem?_eq_none r]at B;cases B
      simpa[<-g]using r
    have o:f[j].key=.int .i64 k:=by
      have S:=congrArg (fun l=>l[j]?) s;simp[B,I]at S;rw[S.1,J]
    refine zx (w':=uW w b<|.map (f.modify j fun e=>{e with key:=.int .i64 k,val:=v}) a) ?_<|h _ (bH.uW _ _ _) ⟨_,_,uw m,?_,t.modify _ _ _⟩
    · rw[ha]at A;have C:(Instr.keyThatStays (.int .i64 k)<|.int .i64 k).run P w=.ok (.int .i64 k) w:=by simp[Instr.keyThatStays,Instr.sameBits]
      simp only[execOp,Instr.mapUpdate,underlying,M,hy,O];simp only[Sem.run_bind,run_program,Result.andThen_ok,X,Sem.run_pure,L,R,Instr.findKey,underlying,G,A,Array.getElem?_eq_getElem I,Option.map_some,Option.getD_some,o,C,run_setObj_map _ c];rfl
    · rw[hset,List.map_set,<-s];apply List.ext_getElem?;intro i;simp only[List.getElem?_map,Array.getElem?_toList,Array.getElem?_modify,List.getElem?_set,List.length_map,Array.length_toList];by_cases N:j=i
      · subst N;simp[I]
      · simp[N]
theorem wl_insert{z:Value}{x y u:Operand}{b:Nat}{k:Int}{jR:List (Int×Value)}(hT:MapOf P T z)(M:ev n env x=.map (some b))(hy:ev n env y=.int .i64 k)(O:ev n env u=v)(c:Gx w b jR)
    (h:∀w',bH (fun x=>x=b) w w'->Gx w' b (U0 jR k v)->WL P ops Q rest n (gm env d undef) w'):
    WL P ops Q (⟨d,.insert T x y u,ty,pos,af,none⟩::rest) n env w:=by
  obtain⟨K,E,X,G,h3⟩:=hT.desc;obtain⟨f,a,c,s,t⟩:=c;have A:=EI (k:=k) (i:=0) s;have L:(getObj b).run P w=.ok (.map f a) w:=by simp[getObj,Sem.run,c]
  have m:=iB c;have R:=fun e=>ckInt (P:=P) (w:=w) (e:=e) (K:=K) (k:=k) G;have g:f.toList.length=jR.length:=by have:=congrArg List.length s;simpa using this
  cases ha:NS jR k 0 with
  |none=>
    refine zx (w':=uW w b<|.map (f.push {key:=.int .i64 k,val:=v,born:=a})<|a+1) ?_<|h _ (bH.uW _ _ _) ⟨_,_,uw m,?_,t.push _ _⟩
    · rw[ha]at A;simp only[execOp,Instr.mapUpdate,underlying,M,hy,O];simp only[Sem.run_bind,run_program,Result.andThen_ok,X,Sem.run_pure,L,R,Instr.findKey,underlying,G,A,run_setObj_map _ c];rfl
    · rw[Re ha];simp[s]
  |some p=>
    obtain⟨j,u0⟩:=p;obtain⟨_,q,B,J,hset⟩:=Rf (v:=v) ha;simp only[Nat.sub_zero]at B hset;have I:j<f.size:=by
      have r:j<jR.length:=by
        rcases Nat.lt_or_ge j jR.length with r|r
        · exact r
        · rw[List.getElem?_eq_none r]at B;cases B
      simpa[<-g]using r
    have o:f[j].key=.int .i64 k:=by
      have S:=congrArg (fun l=>l[j]?) s;simp[B,I]at S;rw[S.1,J]
    refine zx (w':=uW w b<|.map (f.modify j fun e=>{e with key:=.int .i64 k,val:=v}) a) ?_<|h _ (bH.uW _ _ _) ⟨_,_,uw m,?_,t.modify _ _ _⟩
    · rw[ha]at A;have C:(Instr.keyThatStays (.int .i64 k)<|.int .i64 k).run P w=.ok (.int .i64 k) w:=by simp[Instr.keyThatStays,Instr.sameBits]
      simp only[execOp,Instr.mapUpdate,underlying,M,hy,O];simp only[Sem.run_bind,run_program,Result.andThen_ok,X,Sem.run_pure,L,R,Instr.findKey,underlying,G,A,Array.getElem?_eq_getElem I,Option.map_some,Option.getD_some,o,C,run_setObj_map _ c];rfl
    · rw[hset,List.map_set,<-s];apply List.ext_getElem?;intro i;simp only[List.getElem?_map,Array.getElem?_toList,Array.getElem?_modify,List.getElem?_set,List.length_map,Array.length_toList];by_cases N:j=i
      · subst N;simp[I]
      · simp[N]
theorem aidx_has{k:Int}:∀{jR:List (Int×Value)} {i:Nat},ahas jR k=(NS jR k i).isSome
  |[],i=>rfl
  |p::r,i=>by
    unfold ahas NS;by_cases a:k=p.1
    · simp[a]
    · simp only[a,if_false];exact aidx_has
theorem r_lookup2{z:Value}{x y:Operand}{b:Nat}{k:Int}{jR:List (Int×Value)}(s:MapOf P T z)(o:ρ x=.map (some b))(A:ρ y=.int .i64 k)(f:Gx w b jR):
  (execOp ρ ⟨d,.lookup T x y true,ty,pos,af,g⟩).run P w=.ok (.value (.tuple #[aget z jR k,.bool (ahas jR k)])) w:=by
 obtain⟨K,E,t,j,h⟩:=s.desc;obtain⟨u,a,f,q,v⟩:=f;obtain⟨i,c,n⟩:∃i,P.info? E=some i/\i.zero=some z:=by
  cases c:P.info? E with
  |none=>simp[c]at h
  |some i=>simp[c]at h;exact⟨i,Z,h⟩
 have m:=EI (k:=k) (i:=0) q;have l:(getObj b).run P w=.ok (.map u a) w:=by simp[getObj,Sem.run,f]
 rw[U1 (z:=z) (k:=k) (jR:=jR) (i:=0),aidx_has (i:=0)];simp only[execOp,Instr.lookup,underlying,o,A];have r:=fun e=>ckInt (P:=P) (w:=w) (e:=e) (K:=K) (k:=k) j;simp only[Sem.run_bind,run_program,Result.andThen_ok,t,Sem.run_pure,l,r,Instr.findKey,underlying,j,m];cases ha:NS jR k 0 with
 |none=>simp[zeroValue,typeInfo,c,n]
 |some p=>simp
def lk{α:Type}(k:Int):List (Int×α)->Option α
 |[]=>none
 |p::r=>if k=p.1 then some p.2 else lk k r
theorem UE{α:Type}{f:α->Value}{z:α}{k:Int}:∀(l:List (Int×α)),aget (f z) (l.map fun p=>(p.1,f p.2)) k=f ((lk k l).getD z)
  |[]=>rfl
  |p::r=>by
    show(if k=p.1 then f p.2 else aget _ _ k)=f ((if k=p.1 then some p.2 else lk k r).getD z);by_cases h:k=p.1
    · simp[h]
    · simp only[h,if_false];exact UE r
theorem ahas_lk{α:Type}{f:α->Value}{k:Int}:∀(l:List (Int×α)),ahas (l.map fun p=>(p.1,f p.2)) k=(lk k l).isSome
  |[]=>rfl
  |p::r=>by
    show(if k=p.1 then true else ahas _ k)=(if k=p.1 then some p.2 else lk k r).isSome;by_cases h:k=p.1
    · simp[h]
    · simp only[h,if_false];exact ahas_lk r
theorem r_lk2{α:Type}{f:α->Value}{zz:α}{z:Value}{x y:Operand}{b:Nat}{k:Int}{jR:List (Int×Value)}(l:List (Int×α))(h:SH w0 M K w hp)(i:Nat)(j:hp i=.mp b jR)(m:MapOf P T z)(c:ρ x=.map (some b))(n:ρ y=.int .i64 k)(a:z=f zz)(e:jR=l.map fun p=>(p.1,f p.2)):
  (execOp ρ ⟨d,.lookup T x y true,ty,pos,af,g⟩).run P w=.ok (.value (.tuple #[f ((lk k l).getD zz),.bool (lk k l).isSome])) w:=by
 have:=r_lookup2 (d:=d) (ty:=ty) (pos:=pos) (af:=af) (g:=g) m c n<|h.mpAt i j;rw[a,e,UE,ahas_lk]at this;exact this
theorem r_lk1{α:Type}{f:α->Value}{zz:α}{z:Value}{x y:Operand}{b:Nat}{k:Int}{jR:List (Int×Value)}(l:List (Int×α))(h:SH w0 M K w hp)(i:Nat)(j:hp i=.mp b jR)(m:MapOf P T z)(c:ρ x=.map (some b))(n:ρ y=.int .i64 k)(a:z=f zz)(e:jR=l.map fun p=>(p.1,f p.2)):
  (execOp ρ ⟨d,.lookup T x y false,ty,pos,af,g⟩).run P w=.ok (.value (f ((lk k l).getD zz))) w:=by
 have:=r_lookup (d:=d) (ty:=ty) (pos:=pos) (af:=af) (g:=g) m c n<|h.mpAt i j;rw[a,e,UE]at this;exact this
theorem MI(h:SH w0 M K w hp)(i:Nat)(k:∀w' b,SH w0 M K w' (bV hp i (.mp b []))->WL P ops Q rest n (gm env d (.map (some b))) w'):WL P ops Q (⟨d,.makeMap T none,ty,pos,af,none⟩::rest) n env w:=
 F r_makeMap (k _ _ (h.learn i (Grow.alloc _ _) (fun b a=>Nat.le_of_eq a.symm) ⟨#[],0,MH _ _,rfl,by simp[Jt]⟩))
theorem SH.mpSet{b:Nat}{jR wW:List (Int×Value)}(h:SH w0 M K w hp)(i:Nat)(c:hp i=.mp b jR)(d:bH (fun x=>x=b) w w')(e:Gx w' b wW):SH w0 M K w' (bV hp i (.mp b wW)):=
 h.step i d (fun x a _=>by rw[c];exact a) (fun x a _=>by rw[c];exact a) e
theorem uA{z:Value}{x y u:Operand}{b:Nat}{k:Int}{jR wW:List (Int×Value)}(h:SH w0 M K w hp)(i:Nat)(a:hp i=.mp b jR)(m:MapOf P T z)(e:ev n env x=.map (some b))(o:ev n env y=.int .i64 k)(g:ev n env u=v)(f:U0 jR k v=wW)
  (l:∀w',SH w0 M K w' (bV hp i (.mp b wW))->WL P ops Q rest n (gm env d undef) w'):WL P ops Q (⟨d,.insert T x y u,ty,pos,af,none⟩::rest) n env w:=
 wl_insert m e o g (h.mpAt i a) fun w' c j=>l w' (h.mpSet i a c (f▸j))
theorem KQ{z:Value}{x y u:Operand}{b:Nat}{k:Int}{jR wW:List (Int×Value)}(h:SH w0 M K w hp)(i:Nat)(a:hp i=.mp b jR)(m:MapOf P T z)(e:ev n env x=.map (some b))(o:ev n env y=.int .i64 k)(g:ev n env u=v)(f:U0 jR k v=wW)
  (l:∀w',SH w0 M K w' (bV hp i (.mp b wW))->WL P ops Q rest n (gm env d undef) w'):WL P ops Q (⟨d,.mapUpdate T x y u,ty,pos,af,none⟩::rest) n env w:=
 ZL m e o g (h.mpAt i a) fun w' c j=>l w' (h.mpSet i a c (f▸j))
end
theorem SH.Yi{w:World}{M K:BS}{hp:Nat->Chunk}{w0:World}{b:Nat}{cs:List Value}(h:SH w0 M K w hp)(i:Nat)(ho:∃E,w.heap[b]? =some (.cells cs.toArray E (0,0)))(hn:∀b,¬iC hp b):SH w0 M K w (bV hp i (.pt b 0 cs)):=by
 obtain⟨E,ho⟩:=ho;exact h.know i (fun _ h=>h) ⟨hn b,_,_,_,ho,by simp⟩
open Go.RowKit
def hasB(s:Str)(c:UInt8):Bool:=decide (0<=Go.Lib.indexByte s c)
section
variable{P:Program}{ops:Array Oper}{Q:Exit->Act->World->Prop}{n:Nat}{env:Nat->Value}{w:World}{rest:List Oper}
 {d:Option Nat} {ty:TypeId} {pos:String} {af:Array Edge} {v:Value} {x:Operand}
theorem MJ{f:FuncId}(c:List Value){xs:Array Operand}{q:Array TypeId}{args:List Value}{j dj:Nat}{b a:Bool}(i:Bool)(o:(ops[j]?).bind (·.dst)=some dj)(m:ev n env (.tmp dj)=gv i (.bool b))(u:PQ P f)(A:(i&&(b==a))=true->ev n env x=.func (.func f) #[] c.toArray)
    (p:(i&&(b==a))=true->xs.toList.map (ev n env)++c=args) (r:Calls P f args.toArray w (fun e w'=>Grow w w'/\e=.returned v))
    (k:∀w',Grow w w'->WL P ops Q rest n (gm env d (gv (i&&(b==a)) v)) w'):
    WL P ops Q (⟨d,.call {callee:=.value x,args:=xs,argTypes:=q},ty,pos,af,some (j,a)⟩::rest) n env w:=by
  by_cases g:(i&&(b==a))=true
  · have s:=gl g;have t:=gr g;rw[eO s]at m;have y:b=a:=by simpa using t
    subst y;refine TR o m<|bT u (A g) (by simpa using p g) r ?_;rintro e w'⟨z,rfl⟩;refine⟨_,Z,?_⟩;have:=k w' z;rw[eO g]at this;exact this
  · have l:(i&&(b==a))=false:=by simpa using g
    have h:=k w<|bH.refl _ _;rw[l]at h;cases i with
    |true=>exact bW o m (by simpa using l) h
    |false=>exact wl_offU o m h
theorem U2{f:FuncId}(a:List Value){xs:Array Operand}{i:Array TypeId}{args:List Value}{j dj:Nat}{b c:Bool}(o:(ops[j]?).bind (·.dst)=some dj)(q:ev n env (.tmp dj)=.bool b)(l:PQ P f)(m:(b==c)=true->ev n env x=.func (.func f) #[] a.toArray)
    (g:(b==c)=true->xs.toList.map (ev n env)++a=args) (p:Calls P f args.toArray w (fun e w'=>Grow w w'/\e=.returned v))
    (k:∀w',Grow w w'->WL P ops Q rest n (gm env d (gv (b==c) v)) w'):
    WL P ops Q (⟨d,.call {callee:=.value x,args:=xs,argTypes:=i},ty,pos,af,some (j,c)⟩::rest) n env w:=
  MJ a true o q l (fun h=>m (by simpa using h)) (fun h=>g (by simpa using h)) p (by simpa using k)
end
open Go.RowKit
section
variable{P:Program}{ops:Array Oper}{Q:Exit->Act->World->Prop}{n:Nat}{env:Nat->Value}{w w' w0:World}{M K:BS}{hp:Nat->Chunk}{rest:List Oper}
 {d:Option Nat} {op:Op} {ty:TypeId} {pos:String} {af:Array Edge} {v:Value} {g:Option (Nat×Bool)} {T:TypeId} {ρ:Operand->Value}
theorem r_cap{x:Operand}{T E:TypeId}{f:Nat}{a:Option Addr}{l c:Nat}(e:SliceOf P T E f)(b:ρ x=.slice a l c):
  (execOp ρ ⟨d,.call {callee:=.builtin .cap,args:= #[x],argTypes:= #[T]},ty,pos,af,g⟩).run P w=.ok (.value (.int .i64 c)) w:=by
 simp[execOp,resolve,invoke,builtin,Builtin.cap_,b,underlying,e.desc,goInt]
theorem Kz(w:World)(t r ty e:TypeId)(i:TypeInfo)(z:Value)(u:P.underlying t=some (.slice e))(q:P.underlying r=some (.int .i64))(y:P.info? e=some i)(x:i.zero=some z)(E:0<i.size)
  (b:Addr) (a c:Nat) (d:List Value) (m:d.length=a*i.size) (holds:∀j v,d[j]? =some v->w.cell? (b.add j)=some v)
  (n:Nat) (I:0<n) (G:c<a+n) (A:((a+n:Nat):Int)<=9223372036854775807) (s:Builtin.nextslicecap (a+n) c*i.bytes<=281474976710656) (B:n*i.bytes<=281474976710656):
  (Builtin.append_ #[t,r] ty #[.slice (some b) a c,.int .i64 n]).run P w=
   .ok (.slice (some ⟨w.heap.size,0,none⟩) (a+n) (grownCap w (a+n) c e))
    (w.drew.alloc (.cells (d.toArray++Builtin.zeroCells z.cells n++Builtin.zeroCells z.cells (grownCap w (a+n) c e-(a+n))) e)):=by
 have hn:¬(a+n<=c):=by omega
 have l:n≠0:=by omega
 have h:¬(9223372036854775807<((a:Int)+(n:Int))):=by omega
 have f:¬(281474976710656<Builtin.nextslicecap (a+n) c*i.bytes):=by omega
 have C:IntKind.i64.wrap (n:Int)=n:=by rw[IntKind.wrap_i64];omega
 have k:¬(281474976710656<(n:Int)*(i.bytes:Int)):=by
  rw[<-Int.natCast_mul];omega
 have g:¬((n:Int)<0):=by omega
 have p:¬(n*i.size=0):=Nat.mul_ne_zero l V;have o:=run_firstCells_some (P:=P) w.drew i.size a b a c d m (by simpa using holds);simp[Builtin.append_,run_underlying u,run_underlying q,sizeOf,typeInfo,zeroValue,y,x,asInt,asIntOf,C,hn,l,g,p,h,f,k,Question.forced,o,newRow,grownCap]
theorem wl_growRaw{x y:Operand}{E r:TypeId}{e c gg cap a k:Nat}{b:List Value}(L:jY P T E e c)(R:P.underlying r=some (.int .i64))(M:Raw w gg cap e E b)(X:ev n env x=.slice (some ⟨gg,0,none⟩) a cap)(hy:ev n env y=.int .i64 (k:Nat))(hs:0<e)(v:a<=cap)(hk:0<k)(O:cap<a+k)
    (hb:(a+k)*c<=140737488355328) (K:a+k<=maxLen)
    (h:∀w' g2 f g,Grow w w'->w.heap.size<=g2->a+k<=f->Raw w' g2 f e E g->g.take (a*e)=b.take (a*e)->WL P ops Q rest n (gm env d (.slice (some ⟨g2,0,none⟩) (a+k) f)) w'):
    WL P ops Q (⟨d,.call {callee:=.builtin .append,args:= #[x,y],argTypes:= #[T,r]},ty,pos,af,none⟩::rest) n env w:=by
  obtain⟨i,z,hi,S,G,m,t⟩:=L.info;have N:a*e<=cap*e:=Nat.mul_le_mul_right _ v;have J:=M.len;have o:(b.take<|a*e).length=a*e:=by rw[List.length_take];omega
  have holds:∀j u,(b.take<|a*e)[j]? =some u->w.cell? ((⟨gg,0,none⟩:Addr).add j)=some u:=by
    intro j u s;rw[addr_add,Nat.zero_add];rw[List.getElem?_take]at s;split at s
    · simp[World.cell?,M.blk,s]
    · cases s
  have B:((a+k:Nat):Int)<=9223372036854775807:=by simp only[maxLen]at K;omega
  have I:Builtin.nextslicecap (a+k) cap<=2*(a+k):=by
    exact nextslicecap_le V
  have q:Builtin.nextslicecap (a+k) cap*i.bytes<=281474976710656:=by
    have:=Nat.mul_le_mul_right i.bytes I;rw[Nat.mul_assoc,m]at this;rw[m];omega
  have A:k*i.bytes<=281474976710656:=by
    rw[m];have:k*c<=(a+k)*c:=Nat.mul_le_mul_right _ V;omega
  have l:=Kz (P:=P) w T r ty E i z L.desc R hi S V ⟨gg,0,none⟩ a cap (b.take (a*e)) (by rw[G];exact o) holds k hk O B q A;have p:(execOp (ev n env) ⟨d,.call {callee:=.builtin .append,args:= #[x,y],argTypes:= #[T,r]},ty,pos,af,none⟩).run P w=.ok (.value<|.slice (some ⟨w.heap.size,0,none⟩) (a+k)<|grownCap w (a+k) cap E) (w.drew.alloc<|.cells ((b.take<|a*e).toArray++Builtin.zeroCells z.cells k++Builtin.zeroCells z.cells (grownCap w (a+k) cap E-(a+k))) E):=by
    simp only[execOp,resolve,invoke,builtin,Sem.run_bind,Sem.run_pure,Result.andThen_ok,List.map_toArray,List.map_cons,List.map_nil,X,hy,l]
  have hge:=grownCap_ge w (a+k) cap E;have C:grownCap w (a+k) cap E<=maxLen:=grownCap_le_maxLen w (a+k) cap E K;refine F p<|h _ _ _ ((b.take<|a*e)++(Builtin.zeroCells z.cells k).toList++(Builtin.zeroCells z.cells<|grownCap w (a+k) cap E-(a+k)).toList) ?_ (Nat.le_refl _) hge ⟨?_,?_,C⟩ ?_
  · exact(Grow.drew w).trans<|Grow.alloc _ _
  · have:=heap_alloc_new w.drew<|.cells ((b.take<|a*e).toArray++Builtin.zeroCells z.cells k++Builtin.zeroCells z.cells (grownCap w (a+k) cap E-(a+k))) E;rw[show((b.take (a*e))++(Builtin.zeroCells z.cells k).toList++(Builtin.zeroCells z.cells (grownCap w (a+k) cap E-(a+k))).toList).toArray=((b.take (a*e)).toArray++Builtin.zeroCells z.cells k++Builtin.zeroCells z.cells (grownCap w (a+k) cap E-(a+k))) by apply Array.ext';simp];exact this
  · rw[List.length_append,List.length_append,o,Array.length_toList,Array.length_toList,size_zeroCells,size_zeroCells,t,<-Nat.add_mul,<-Nat.add_mul];congr 1;omega
  · rw[List.append_assoc,List.take_append_of_le_length V,List.take_of_length_le V]
theorem run_copyN(w:World)(dT p ty e:TypeId)(i:TypeInfo)(g o b f:Nat)(a:Addr)(d k:Nat)(c:Array Value)(t:TypeId)(cs:List Value)
  (u:P.underlying dT=some (.slice e)) (s:P.info? e=some i)
  (n:w.heap[g]? =some (.cells c t (0,0))) (hn:cs.length=Nat.min d b*i.size)
  (h:∀j v,cs[j]? =some v->w.cell? (a.add j)=some v) (l:o+cs.length<=c.size) (q:∀v∈cs,v.oneCell'=true):
  (Builtin.copy_ #[dT,p] ty #[.slice (some ⟨g,o,none⟩) b f,.slice (some a) d k]).run P w=
   .ok (goInt (Nat.min d b)) (w.setRow g (c.toList.take o++cs++c.toList.drop (o+cs.length)).toArray):=by
 have r:=run_loadCells_list (P:=P) w a cs h;have m:=run_storeCells_at P g o t cs 0 c w n (by simpa using l) q;simp[Builtin.copy_,run_underlying u,Builtin.lenOf,Builtin.firstCells,sizeOf,typeInfo,s,<-hn,r,m]
theorem Jw{x y:Operand}{E r:TypeId}{b g gg cap o dl dc m c:Nat}{a news:List Value}{ad:Addr}(A:jY P T E b g)(p:Raw w gg cap b E a)(B:ev n env x=.slice (some ⟨gg,o*b,none⟩) dl dc)(K:ev n env y=.slice (some ad) m c)
  (v:news.length=Nat.min m dl*b) (k:∀j u,news[j]? =some u->w.cell? (ad.add j)=some u) (G:∀u∈news,u.oneCell'=true) (q:o+Nat.min m dl<=cap)
  (h:∀w',bH (fun x=>x=gg) w w'->Raw w' gg cap b E (a.take (o*b)++news++a.drop (o*b+news.length))->WL P ops Q rest n (gm env d (.int .i64 (Nat.min m dl:Nat))) w'):
  WL P ops Q (⟨d,.call {callee:=.builtin .copy,args:= #[x,y],argTypes:= #[T,r]},ty,pos,af,none⟩::rest) n env w:=by
 obtain⟨i,z,C,L,s,J,I⟩:=A.info;have f:=p.len;have t:o*b+news.length<=cap*b:=by rw[v,<-Nat.add_mul];exact Nat.mul_le_mul_right _ q
 have e:=run_copyN (P:=P) w T r ty E i gg (o*b) dl dc ad m c a.toArray E news A.desc C p.blk (by rw[s];exact v) k (by simpa[f]using t) G;rw[Gy p.blk]at e;have l:(execOp (ev n env) ⟨d,.call {callee:=.builtin .copy,args:= #[x,y],argTypes:= #[T,r]},ty,pos,af,none⟩).run P w=.ok (.value<|.int .i64 (Nat.min m dl:Nat)) (uW w gg<|.cells (a.take (o*b)++news++a.drop (o*b+news.length)).toArray E (0,0)):=by
  simp only[execOp,resolve,invoke,builtin,Sem.run_bind,Sem.run_pure,Result.andThen_ok,List.map_toArray,List.map_cons,List.map_nil,B,K,e];rfl
 refine F l<|h _ (bH.uW _ _ _) ⟨uw<|iB p.blk,?_,p.le⟩;rw[List.length_append,List.length_append,List.length_take,List.length_drop,f];omega
structure OverFn(P:Program)(f:FuncId)(T B:TypeId):Prop where
 out:∀(args:Array Value) (w:World),(callFunc f args).run P w=((Extern.SlicesOverlaps.overlaps #[T,T] #[B] args).run P w).andThen fun v w'=>.ok (.value v) w'
theorem wl_overlaps{x:Operand}{xs:Array Operand}{t:Array TypeId}{f:FuncId}{E B:TypeId}{j e g1 g2 c2 o1 o2 m1 m2 k1 k2:Nat}{a c:List Value}{p:TypeId}(u:OverFn P f T B)(r:jY P T E j e)(l:w.heap[g1]? =some (.cells a.toArray p (0,0)))(q:Raw w g2 c2 j E c)(m:g1≠g2)(s:0<c2*j)
  (v:ev n env x=.func (.func f) #[] #[]) (k:xs.toList.map (ev n env)=[.slice (some ⟨g1,o1,none⟩) m1 k1,.slice (some ⟨g2,o2,none⟩) m2 k2])
  (h:WL P ops Q rest n (gm env d (.bool false)) w):
  WL P ops Q (⟨d,.call {callee:=.value x,args:=xs,argTypes:=t},ty,pos,af,none⟩::rest) n env w:=by
 obtain⟨i,z,y,G,o,C,A⟩:=r.info;have ho:=Lib.run_overlaps_apart (P:=P) w T B E r.desc j (fun w=>by simp[sizeOf,typeInfo,y,o]) ⟨g1,o1,none⟩ ⟨g2,o2,none⟩ m1 k1 m2 k2 m p E a.length c.length (by simp[World.shape?,l]) (by simp[World.shape?,q.blk]) (by rw[q.len];omega) (by simp[World.frozen?,l]) (by simp[World.frozen?,l]);have g:xs.map (ev n env)= #[.slice (some ⟨g1,o1,none⟩) m1 k1,.slice (some ⟨g2,o2,none⟩) m2 k2]:=by
  apply Array.ext';simpa using k
 have b:=u.out #[.slice (some ⟨g1,o1,none⟩) m1 k1,.slice (some ⟨g2,o2,none⟩) m2 k2] w;rw[ho]at b;refine F ?_ h;simp only[execOp,resolve,v,Deferred.ofValue,invoke];simp[g,b]
end
open Go.RowKit
section
variable{β:Type}
theorem ins_l1{C X:List β}{p s:Nat}(a:X.length=s)(hp:p<=C.length):(C.take p++X++C.drop (p+s)).take (p+s)=C.take p++X:=by
 have h:(C.take p++X).length=p+s:=by simp[a];omega
 rw[<-h,List.take_left]
theorem ins_l2{B a R:List β}{p q:Nat}(c:p<=B.length)(b:a.length=q):(B.take p++a++R).take (p+q)=B.take p++a:=by
 have h:(B.take p++a).length=p+q:=by simp[b];omega
 rw[<-h,List.take_left]
theorem ins_l3{C X a R:List β}{p s q:Nat}(b:X.length=s)(hp:p+s<=C.length)(d:a.length=q):
  ((C.take (p+s)++a++R).take p++X++(C.take (p+s)++a++R).drop (p+s)).take (p+s+q)=C.take p++X++a:=by
 have c:(C.take<|p+s).length=p+s:=by simp;omega
 have e:(C.take (p+s)++a++R).take p=C.take p:=by
  rw[List.append_assoc,List.take_append_of_le_length V,List.take_take,Nat.min_eq_left V]
 have f:(C.take (p+s)++a++R).drop (p+s)=a++R:=by
  rw[List.append_assoc];exact List.drop_left' c
 rw[e,f,<-List.append_assoc];have g:(C.take p++X++a).length=p+s+q:=by simp[b,d];omega
 rw[<-g,List.take_left]
end
theorem raw_ins{α:Type}{R:kL α}{E:TypeId}{w w':World}{A N:BS}{l:List α}{x:α}{gg g2 d i:Nat}{c m g:List Value}(z:Raw w' g2 d R.sz E m)(L:bH (fun y=>y=gg) w w')(v:g2<w.heap.size->g2=gg)(S:i<=l.length)(hc:l.length+1<=d)(T:l.length*R.sz<=c.length)
    (s:∀k (h:k<l.length),R.rd w (fun b=>A b\/b=gg) ((c.drop (k*R.sz)).take R.sz) l[k]) (M:R.rd w N g x) (hN:∀b,(A b\/b=gg)->b<w.heap.size->N b) (P:gg<w.heap.size)
    (Q:m.take (i*R.sz+R.sz+(l.length-i)*R.sz)=c.take (i*R.sz)++g++(c.drop (i*R.sz)).take ((l.length-i)*R.sz)):
    cK R E w' A (.slice (some ⟨g2,0,none⟩) (l.length+1) d) (l.take i++[x]++l.drop i):=by
  have e:(l.take i++[x]++l.drop i).length=l.length+1:=by simp;omega
  have q:=R.len M;have X:i*R.sz<=l.length*R.sz:=Nat.mul_le_mul_right _ S;have n:(l.length-i)*R.sz=l.length*R.sz-i*R.sz:=Nat.sub_mul _ _ _;have o:(c.take<|i*R.sz).length=i*R.sz:=by rw[List.length_take];omega
  have O:(l.length+1)*R.sz=i*R.sz+R.sz+(l.length-i)*R.sz:=by rw[Nat.add_mul,n];omega
  have t:∀cs a,R.rd w (fun b=>A b\/b=gg) cs a->R.rd w' (fun b=>A b\/ob (.slice (some ⟨g2,0,none⟩) (l.length+1) d) b) cs a:=fun cs a h=>
    R.go h L (fun b f _=>.inr f) (fun b f r=>f.elim .inl (fun f=>.inr (by have:b=g2:=f;subst this;exact v r)))
  have B:R.rd w' (fun b=>A b\/ob (.slice (some ⟨g2,0,none⟩) (l.length+1) d) b) g x:=
    R.go M L (fun b f r=>hN b (.inr f) r) (fun b f r=>hN b (f.elim .inl (fun f=>.inr (by have:b=g2:=f;subst this;exact v r))) r)
  refine⟨c.take (i*R.sz)++g++(c.drop<|i*R.sz).take ((l.length-i)*R.sz),⟨?_,.inr ⟨g2,d,m.toArray,?_,Nat.zero_le _,z.blk,?_,z.le,?_,?_⟩⟩,?_⟩
  · rw[e,O,List.length_append,List.length_append,o,q,List.length_take,List.length_drop,n];omega
  · rw[e]
  · rw[e];omega
  · simpa using z.len
  · rw[e,O];exact Q
  · intro k G;rw[e]at G;by_cases J:k<i
    · have p:(k+1)*R.sz<=i*R.sz:=Nat.mul_le_mul_right _ J;rw[Nat.add_mul]at p;have C:=t _ _<|s k V;have u:(l.take i++[x]++l.drop i)[k]'(by rw[e];omega)=l[k]'V:=by
        rw[List.getElem_append_left (by simp;omega),List.getElem_append_left (by simp;omega),List.getElem_take]
      rw[u,List.append_assoc,List.drop_append_of_le_length V,List.take_append_of_le_length (by rw[List.length_drop];omega),List.drop_take,List.take_take,Nat.min_eq_left V];exact C
    · by_cases I:k=i
      · subst I;have u:(l.take k++[x]++l.drop k)[k]'(by rw[e];omega)=x:=by
          rw[List.getElem_append_left (by simp;omega),List.getElem_append_right (by simp;omega)];simp
        rw[u,List.append_assoc];have K:(c.take (k*R.sz)++(g++(c.drop<|k*R.sz).take ((l.length-k)*R.sz))).drop (k*R.sz)=g++(c.drop<|k*R.sz).take ((l.length-k)*R.sz):=by
          exact List.drop_left' o
        rw[K,<-q,List.take_left];exact B
      · obtain⟨j,rfl⟩:∃j,k=i+1+j:=⟨k-i-1,by omega⟩;have C:=t _ _<|s (i+j) V;have u:(l.take i++[x]++l.drop i)[i+1+j]'(by rw[e];omega)=l[i+j]'V:=by
          rw[List.getElem_append_right (by simp;omega),List.getElem_drop];congr 1;simp;omega
        have h6:(c.take (i*R.sz)++g).length=i*R.sz+R.sz:=by rw[List.length_append,o,q]
        have K:(c.take (i*R.sz)++g++(c.drop<|i*R.sz).take ((l.length-i)*R.sz)).drop ((i+1+j)*R.sz)=((c.drop<|i*R.sz).take ((l.length-i)*R.sz)).drop (j*R.sz):=by
          rw[show(i+1+j)*R.sz=(c.take (i*R.sz)++g).length+j*R.sz by rw[h6,Nat.add_mul,Nat.add_mul,Nat.one_mul]];rw[List.drop_append];have:(c.take (i*R.sz)++g).drop ((c.take (i*R.sz)++g).length+j*R.sz)=[]:=List.drop_eq_nil_of_le V;rw[this,List.nil_append];congr 1;omega
        have p:(j+1)*R.sz<=(l.length-i)*R.sz:=Nat.mul_le_mul_right _ V;rw[Nat.add_mul]at p;rw[u,K,List.drop_take,List.take_take,Nat.min_eq_left V,List.drop_drop,<-Nat.add_mul];exact C
def ins1{α:Type}(l:List α)(i:Int)(m:List α):Option (List α):=if 0<=i/\i<=l.length then some (l.take i.toNat++m++l.drop i.toNat)else none
theorem o_ins{α:Type}{l r m:List α}{i:Int}(h:ins1 l i m=some r):∃a:Nat,i=a/\a<=l.length/\r=l.take a++m++l.drop a:=by
  unfold ins1 at h;by_cases hp:0<=i/\i<=l.length
  · rw[if_pos hp]at h;cases h;exact⟨i.toNat,by omega,by omega,Z⟩
  · rw[if_neg hp]at h;cases h
theorem MK{w:World}{gg cap d:Nat}{E:TypeId}{b:List Value}(c:Raw w gg cap d E b)(o k:Nat):∀j u,((b.drop o).take k)[j]? =some u->w.cell? ((⟨gg,o,none⟩:Addr).add j)=some u:=by
  intro j u a;rw[addr_add];rw[List.getElem?_take]at a;split at a
  · rw[List.getElem?_drop]at a;simp[World.cell?,c.blk,a]
  · cases a
theorem cK.srcO{α:Type}{R:kL α}{E:TypeId}{w:World}{A:BS}{v:Value}{l:List α}(h:cK R E w A v l):ed R w BE (fun b=>A b\/ob v b) v l:=by
  obtain⟨xs,c,d⟩:=h;rcases c.2 with⟨rfl,hn⟩|⟨g,cap,cur,rfl,e1,e2,e3,e4,e5,e6⟩
  · have:l=[]:=List.eq_nil_of_length_eq_zero hn;subst this;exact ed.nil
  · refine⟨some ⟨g,0,none⟩,cap,Z,e3,e4,(fun h=>by cases h),fun i a=>⟨g,0,cur,E,(0,0),Z,fun h=>h,e2,?_⟩⟩;have:=d i a;rw[<-e6,List.drop_take,List.take_take,Nat.min_eq_left ?_]at this
    · rw[Nat.zero_add];exact this
    · have:(i+1)*R.sz<=l.length*R.sz:=Nat.mul_le_mul_right _ a;rw[Nat.add_mul]at this;omega
section
variable{P:Program}{ops:Array Oper}{Q:Exit->Act->World->Prop}{n:Nat}{env:Nat->Value}{w:World}{rest:List Oper}
 {d:Option Nat} {ty:TypeId} {pos:String} {af:Array Edge} {v:Value} {T:TypeId} {x y:Operand}
theorem wl_appO{α:Type}{R:kL α}{E:TypeId}{e a:Nat}{A:BS}{u:Value}{l m:List α}(o:jY P T E e a)(f:R.sz=e)(s:cK R E w A v l)(B:ed R w BE A u m)(z:ev n env x=v)(C:ev n env y=u)
  (t:∀b,ob v b->A b) (p:(l.length+m.length)*a<=140737488355328) (i:l.length+m.length<=9223372036854775807)
  (k:∀w' c,cK R E w' A c (l++m)->bH (ob v) w w'->(∀b,ob c b->b<w.heap.size->ob v b)->WL P ops Q rest n (gm env d c) w'):
  WL P ops Q (⟨d,.call {callee:=.builtin .append,args:= #[x,y],argTypes:= #[T,T]},ty,pos,af,none⟩::rest) n env w:=by
 obtain⟨c,w',q,j,r,h⟩:=ZH (d:=d) (ty:=ty) (pos:=pos) (af:=af) (g:=none) o f z s C B t p i;exact F q<|k w' c j r h
end
theorem ins_av{α β:Type}{R:kL α}{R':kL β}{E d:TypeId}{w0 w:World}{M K:BS}{hp:Nat->Chunk}{i j:Nat}{v u:Value}{l:List α}{m:List β}(h:SH w0 M K w hp)(c:i≠j)(g:hp i=.own R E v l)(f:hp j=.own R' d u m):∀b,((M b\/rest hp i b)\/ob v b)->b<w.heap.size->(M b\/rest hp j b)\/ob u b:=by
  rintro b((a|⟨k,n,a⟩)|a)_
  · exact .inl<|.inl a
  · by_cases e:k=j
    · subst e;rw[f]at a;exact .inr a
    · exact .inl<|.inr ⟨k,e,a⟩
  · exact .inl (.inr ⟨i,c,by rw[g];exact a⟩)
open Go.RowKit
section
variable{P:Program}{ops:Array Oper}
variable{Q:Exit->Act->World->Prop}{n:Nat}{env:Nat->Value}{w w0:World}{M K:BS}{hp:Nat->Chunk}
structure UF(P:Program)(ops:Array Oper)(L:BS)(ws:World)(Q:Exit->Act->World->Prop)(fuel:Nat)(listed:Array Bool)(n:Nat)(env:Nat->Value)(w:World):Prop where
 out:wpAnyH P .any ops (NoPanic Q) (bH L ws) fuel listed (act n env) w
theorem jm{L:BS}{id:Nat}{l:List Oper}(a:P.follows .mixedOrders=true)(b:SH w0 M K w hp)
  (h:∀w,SH w0 M K w hp->UF P l.toArray L w Q l.length (Array.replicate l.length false) n env w):WC P (Code.region id l.toArray true) Q n env w:=
 ⟨wp_region_noPanic (wp_region_held (S:=bH L w.drew) a (h _ (b.grow (Grow.drew w))).out)⟩
variable{d:Option Nat}{op:Op}{ty:TypeId}{pos:String}{af:Array Edge}{v:Value}{g:Option (Nat×Bool)}{i fuel:Nat}{listed:Array Bool}
theorem whk_first{L:BS}{ws:World}{o:Oper}(d:bH L ws w)(e:ops[i]? =some o)(c:Region.noSelect ops=true)(b:Region.free .any ops listed i=true)(a:(Region.ready .any ops listed).contains i=true)
  (f:YieldsIf P ops (bH L ws) o v (act n env)) (h:UF P ops L ws Q fuel (listed.setIfInBounds i true) n (gm env o.dst v) w):UF P ops L ws Q (fuel+1) listed n env w:=by
 refine⟨wpAnyH_take e c b a (fun _ _ _ h=>h) f d ?_⟩;rw[Dh];exact h.out
theorem whk_ok{L:BS}{ws:World}(i:Nat)(k:bH L ws w)(m:ops[i]? =some ⟨d,op,ty,pos,af,g⟩)(c:Region.wanted ⟨d,op,ty,pos,af,g⟩ (yielded ops (act n env).tmps)=true)(j:Region.noSelect ops=true)(e:Region.free .any ops listed i=true)(b:(Region.ready .any ops listed).contains i=true)
  (l:∀a,bH L ws a->(execOp (ev n env) ⟨d,op,ty,pos,af,g⟩).run P a=.ok (.value v) a) (h:UF P ops L ws Q fuel (listed.setIfInBounds i true) n (gm env d v) w):UF P ops L ws Q (fuel+1) listed n env w:=
 whk_first (o:=⟨d,op,ty,pos,af,g⟩) k m j e b (.inl ⟨c,fun a f=>by rw[gD];exact l a f⟩) h
theorem whk_done{L:BS}{ws:World}(a:Region.ready .any ops listed=[])(h:Q .normal (act n env) w):UF P ops L ws Q fuel listed n env w:=⟨wpAnyH_done a (NoPanic.normal h) fuel⟩
def Rh(P:Program)(ops:Array Oper)(L:BS)(ws:World)(Q:Exit->Act->World->Prop)(fuel:Nat)(listed:Array Bool):Exit->Act->World->Prop:=
 selK (fun a' w'=>bH L ws w'/\wpAnyH P .any ops (NoPanic Q) (bH L ws) fuel listed a' w') (NoPanic Q)
theorem au{L:BS}{ws:World}(a:bH L ws w)(h:UF P ops L ws Q fuel listed n env w):Rh P ops L ws Q fuel listed .normal (act n env) w:=⟨a,h.out⟩
theorem whk_eff{L:BS}{ws:World}(i:Nat)(b:Region.ready .any ops listed=[i])(e:ops[i]? =some ⟨d,op,ty,pos,af,g⟩)(a:Region.wanted ⟨d,op,ty,pos,af,g⟩ (yielded ops (act n env).tmps)=true)
  (h:WL P ops (Rh P ops L ws Q fuel (listed.setIfInBounds i true)) [⟨d,op,ty,pos,af,none⟩] n env w):UF P ops L ws Q (fuel+1) listed n env w:=by
 refine⟨wpAnyH_all b zq3 fun k c=>?_⟩;obtain rfl:k=i:=by simpa using c
 exact Fv e a h
theorem iW{L:BS}{ws:World}{l:Option Nat}{e:Op}{c:TypeId}{a:String}{b:Array Edge}{o:Option (Nat×Bool)}(i j:Nat)(p:Region.ready .any ops listed=[i,j])(q:ops[i]? =some ⟨d,op,ty,pos,af,g⟩)(s:Region.wanted ⟨d,op,ty,pos,af,g⟩ (yielded ops (act n env).tmps)=true)
    (t:ops[j]? =some ⟨l,e,c,a,b,o⟩) (m:Region.wanted ⟨l,e,c,a,b,o⟩ (yielded ops (act n env).tmps)=true)
    (h:WL P ops (Rh P ops L ws Q fuel (listed.setIfInBounds i true)) [⟨d,op,ty,pos,af,none⟩] n env w) (r:WL P ops (Rh P ops L ws Q fuel (listed.setIfInBounds j true)) [⟨l,e,c,a,b,none⟩] n env w):UF P ops L ws Q (fuel+1) listed n env w:=by
  refine⟨wpAnyH_all p zq3 fun k f=>?_⟩;rcases List.mem_cons.1 f with rfl|f
  · exact Fv q s h
  · obtain rfl:k=j:=by simpa using f
    exact Fv t m r
end
theorem bH.Eh{a b c:World}{L N:BS}(h:bH L a b)(k:bH N b c)(hN:∀x,N x->a.heap.size<=x):bH L a c:=h.step k (fun x d e=>by have:=hN x d;omega)
theorem bH.same{a b c:World}{L:BS}(h:bH L a b)(k:bH L b c):bH L a c:=h.step k (fun _ d _=>d)
section
variable{P:Program}{ops:Array Oper}{Q:Exit->Act->World->Prop}{n:Nat}{env:Nat->Value}{w w' w0:World}{M K:BS}{hp:Nat->Chunk}{rest:List Oper}
 {d:Option Nat} {op:Op} {ty:TypeId} {pos:String} {af:Array Edge} {v:Value} {g:Option (Nat×Bool)} {T:TypeId} {ρ:Operand->Value} {x y:Operand}
theorem ZM{α:Type}{R:kL α}{E:TypeId}{J:Nat}{l:List α}{k:Int}{a a':α}{b off:Nat}{z u:Value}(h:SH w0 M K w hp)(i:Nat)(r:hp i=.own R E u l)(B:ob u b)(hs:R.sz=J)(s:l[k.toNat]? =some a)(hT:One P T z)(c:ev n env x=.pointer (some ⟨b,k.toNat*J+off,none⟩))
    (hy:ev n env y=v) (h1:v.oneCell'=true) (p:Nat.blt off J=true) (hset:∀cs,R.rd w (SH.A M hp) cs a->R.rd w (SH.A M hp) (cs.set off v) a')
    (kk:∀w',SH w0 M K w' (bV hp i (.own R E u (l.set k.toNat a')))->bH (ob u) w w'->WL P ops Q rest n (gm env d undef) w'):
    WL P ops Q (⟨d,.store T x y,ty,pos,af,none⟩::rest) n env w:=by
  subst hs;rw[Nat.blt_eq]at p;have m:k.toNat<l.length:=by
    rcases Nat.lt_or_ge k.toNat l.length with h|h
    · exact h
    · rw[List.getElem?_eq_none h]at s;cases s
  have I:l[k.toNat]=a:=by rw[List.getElem?_eq_getElem m]at s;exact Option.some.inj s
  generalize k.toNat=k at*;have e:∀b,ob u b->SH.A M hp b:=fun b B=>.inr ⟨i,by rw[r];exact B⟩;obtain⟨xs,O,q3⟩:=h.bF i r;rcases O.2 with⟨rfl,hn⟩|⟨g',cap,cur,rfl,e1,e2,e3,e4,e5,e6⟩
  · omega
  have t:b=g':=B;subst t;have N:(k+1)*R.sz<=l.length*R.sz:=Nat.mul_le_mul_right _ m;have X:l.length*R.sz<=cap*R.sz:=Nat.mul_le_mul_right _ e3;rw[Nat.add_mul]at N;have L:k*R.sz+off<cur.size:=by omega
  have f:=bH.uW w b<|.cells (cur.setIfInBounds (k*R.sz+off) v) E (0,0);refine zx (PN hT c e2 L hy h1) (kk _ (h.step i f (fun x c _=>by rw[r];exact c) (fun x c _=>by rw[r];exact c) ⟨xs.set (k*R.sz+off) v,⟨?_,.inr ⟨b,cap,cur.setIfInBounds (k*R.sz+off) v,?_,e1,?_,?_,e4,?_,?_⟩⟩,?_⟩) (f.weaken (fun x c _=>c)))
  · rw[List.length_set,List.length_set];exact O.1
  · rw[List.length_set]
  · rw[uw (iB e2)]
  · rw[List.length_set];exact e3
  · simpa using e5
  · rw[List.length_set,Array.toList_setIfInBounds,List.take_set,e6]
  · intro g G;have C:g<l.length:=by rwa[List.length_set]at G
    have q:=fun cs a(h:R.rd w (SH.A M hp) cs a)=>R.go (A':=fun x=>(M x\/(SH.av hp i (.own R E (.slice (some ⟨b,0,none⟩) l.length cap) (l.set k a'))) x)\/ob (.slice (some ⟨b,0,none⟩) l.length cap) x) h f (fun x c _=>e x c) (fun x c _=>by
      rcases c with(c|c|c)|c
      · exact .inl c
      · exact .inr<|kP c
      · exact e x c
      · exact e x c)
    have S:=fun j(hj:j<l.length)=>R.go (A':=SH.A M hp) (q3 j hj) (bH.refl BE w) (fun _ h=>h.elim) fun x c _=>.inl c;by_cases o:g=k
    · subst o;rw[List.getElem_set_self,Nz rfl];exact q _ _<|hset _<|I▸S g m
    · rw[List.getElem_set_ne (Ne.symm o),KP]
      · exact q _ _<|S g C
      · rcases Nat.lt_or_ge k g with h5|h5
        · left;have:(k+1)*R.sz<=g*R.sz:=Nat.mul_le_mul_right _ h5;rw[Nat.add_mul]at this;omega
        · right;have:(g+1)*R.sz<=k*R.sz:=Nat.mul_le_mul_right _ V;rw[Nat.add_mul]at this;omega
end
open Go.RowKit
section
variable{w0 w:World}{M K:BS}{hp:Nat->Chunk}{α:Type}{R:kL α}
theorem SH.gG(h:SH w0 M K w hp)(i:Nat):SH w0 M K w (bV hp i .no):=h.step i (bH.refl BE w) (fun _ h=>h.elim) (fun _ h=>h.elim) U
variable{P:Program}{T T2 ty:TypeId}{ρ:Operand->Value}{d:Option Nat}{pos:String}{af:Array Edge}{g:Option (Nat×Bool)}{x y:Operand}{v:Value}{A:BS}{o:Option α}
def PtrTo(P:Program)(T:TypeId):Prop:=∃E,P.underlying T=some (.pointer E)
theorem PtrTo.p(a:PtrTo P T):P.underlying T=some (.pointer (P.pointee T)):=by
 obtain⟨E,a⟩:=a;simp[Program.pointee,a]
end
open Go.RowKit
def Chunk.PV:Chunk->Prop
 | .sr .. =>False
 | .pt .. =>False
 | .two a b=>a.PV/\b.PV
 |_=>True
theorem Chunk.re{c:Chunk}{w:World}{M O j i:BS}(e:c.PV)(h:c.holds w M O)(d:∀b,j b\/i b->b<w.heap.size->M b\/O b):c.holds w j i:=by
 induction c with
 |no=>trivial
 |rd R v l=>exact ed.sub h d d
 |sr R v l=>exact e.elim
 |pt b o cs=>exact e.elim
 |blk b cs=>exact h
 |own R E v l=>exact cK.go h (bH.refl BE w) (fun _ h=>h.elim) (fun _ h=>h.elim) (fun b f g=>.inl (d b f g))
 |rp R v x=>exact R.go h (bH.refl BE w) (fun _ h=>h.elim) d
 |two a b iha ihb=>exact⟨iha e.1 h.1,ihb e.2 h.2.1,h.2.2⟩
 |eH S=>exact S.go h (bH.refl BE w) (fun _ h=>h.elim) (fun _ h=>h.elim) (fun b f g=>.inl (d b f g))
 |mp b jR=>exact h
section
variable{w0 w w':World}{M K:BS}{hp:Nat->Chunk}
theorem SH.pair(h:SH w0 M K w hp)(i j:Nat)(k:i≠j):SH w0 M K w (bV (bV hp j .no) i (.two (hp i) (hp j))):=by
  have c:∀x b,(bV (bV hp j .no) i (.two (hp i)<|hp j) x).own' b->(x=i/\((hp i).own' b\/(hp j).own' b))\/(x≠i/\x≠j/\(hp x).own' b):=by
    intro x b a;by_cases e:x=i
    · subst e;rw[dh]at a;exact .inl ⟨Z,a⟩
    · rw[eZ e]at a;by_cases f:x=j
      · subst f;rw[dh]at a;exact a.elim
      · rw[eZ f]at a;exact .inr ⟨e,f,a⟩
  have d:∀b,iC (bV (bV hp j .no) i<|.two (hp i)<|hp j) b->iC hp b:=by
    rintro b⟨x,l⟩;rcases c x b l with⟨_,h1|h1⟩|⟨_,_,h1⟩
    · exact⟨i,h1⟩
    · exact⟨j,h1⟩
    · exact⟨x,h1⟩
  refine⟨h.keep,h.ltM,fun x b a=>?_,fun x=>?_,fun x y g b l m=>?_,fun x b a=>?_⟩
  · rcases c x b a with⟨_,h1|h1⟩|⟨_,_,h1⟩
    · exact h.apM i b h1
    · exact h.apM j b h1
    · exact h.apM x b h1
  · by_cases e:x=i
    · subst e;rw[dh];exact⟨Chunk.sub (h.ok x) fun b a _=>d b a,Chunk.sub (h.ok j) fun b a _=>d b a,fun b a=>h.apart x j k b a⟩
    · rw[eZ e];by_cases f:x=j
      · subst f;rw[dh];trivial
      · rw[eZ f];exact Chunk.sub (h.ok x) (fun b a _=>d b a)
  · rcases c x b l with⟨e1,h1⟩|⟨e1,e1',h1⟩<;>rcases c y b m with⟨f,h2⟩|⟨f,e2',h2⟩
    · exact g<|e1.trans f.symm
    · rcases h1 with h1|h1
      · exact h.apart i y (fun e=>f e.symm) b h1 h2
      · exact h.apart j y (fun e=>e2' e.symm) b h1 h2
    · rcases h2 with h2|h2
      · exact h.apart x i e1 b h1 h2
      · exact h.apart x j e1' b h1 h2
    · exact h.apart x y g b h1 h2
  · rcases c x b a with⟨_,h1|h1⟩|⟨_,_,h1⟩
    · exact h.old i b h1
    · exact h.old j b h1
    · exact h.old x b h1
theorem SH.unpair{a c:Chunk}(h:SH w0 M K w hp)(i j:Nat)(r:i≠j)(q:hp i=.two a c)(t:hp j=.no):SH w0 M K w (bV (bV hp i a) j c):=by
  have k:∀x b,(bV (bV hp i a) j c x).own' b->(x=i/\a.own' b)\/(x=j/\c.own' b)\/(x≠i/\x≠j/\(hp x).own' b):=by
    intro x b d;by_cases e:x=j
    · subst e;rw[dh]at d;exact .inr (.inl ⟨Z,d⟩)
    · rw[eZ e]at d;by_cases f:x=i
      · subst f;rw[dh]at d;exact .inl ⟨Z,d⟩
      · rw[eZ f]at d;exact .inr (.inr ⟨f,e,d⟩)
  have o:∀b,a.own' b->(hp i).own' b:=fun b d=>by rw[q];exact .inl d
  have n:∀b,c.own' b->(hp i).own' b:=fun b d=>by rw[q];exact .inr d
  have l:∀b,iC (bV (bV hp i a) j c) b->iC hp b:=by
    rintro b⟨x,p⟩;rcases k x b p with⟨_,h1⟩|⟨_,h1⟩|⟨_,_,h1⟩
    · exact⟨i,o b h1⟩
    · exact⟨i,n b h1⟩
    · exact⟨x,h1⟩
  have g:=h.ok i;rw[q]at g;refine⟨h.keep,h.ltM,fun x b d=>?_,fun x=>?_,fun x y m b p s=>?_,fun x b d=>?_⟩
  · rcases k x b d with⟨_,h1⟩|⟨_,h1⟩|⟨_,_,h1⟩
    · exact h.apM i b<|o b h1
    · exact h.apM i b<|n b h1
    · exact h.apM x b h1
  · by_cases e:x=j
    · subst e;rw[dh];exact Chunk.sub g.2.1 (fun b d _=>l b d)
    · rw[eZ e];by_cases f:x=i
      · subst f;rw[dh];exact Chunk.sub g.1 (fun b d _=>l b d)
      · rw[eZ f];exact Chunk.sub (h.ok x) (fun b d _=>l b d)
  · rcases k x b p with⟨e1,h1⟩|⟨e1,h1⟩|⟨e1,e1',h1⟩<;>rcases k y b s with⟨f,h2⟩|⟨f,h2⟩|⟨f,e2',h2⟩
    · exact m<|e1.trans f.symm
    · exact g.2.2 b h1 h2
    · exact h.apart i y (fun e=>f e.symm) b (o b h1) h2
    · exact g.2.2 b h2 h1
    · exact m<|e1.trans f.symm
    · exact h.apart i y (fun e=>f e.symm) b (n b h1) h2
    · exact h.apart x i e1 b h1<|o b h2
    · exact h.apart x i e1 b h1<|n b h2
    · exact h.apart x y m b h1 h2
  · rcases k x b d with⟨_,h1⟩|⟨_,h1⟩|⟨_,_,h1⟩
    · exact h.old i b<|o b h1
    · exact h.old i b<|n b h1
    · exact h.old x b h1
theorem SH.lendC(h:SH w0 M K w hp)(i:Nat)(d:(hp i).PV):(hp i).holds w (fun b=>M b\/rest hp i b) (hp i).own'/\(∀b,(hp i).own' b->¬(M b\/rest hp i b))/\(∀b,(M b\/rest hp i b)->b<w.heap.size):=by
  refine⟨Chunk.re d (h.ok i) fun b a _=>?_,fun b a c=>?_,fun b a=>?_⟩
  · rcases a with(a|a)|a
    · exact .inl a
    · exact .inr<|kP a
    · exact .inr ⟨i,a⟩
  · rcases c with c|⟨j,hj,c⟩
    · exact h.apM i b a c
    · exact h.apart j i hj b c a
  · rcases a with a|⟨j,_,a⟩
    · exact Nat.lt_of_lt_of_le (h.ltM b a) h.keep.size
    · exact Chunk.lt (h.ok j) b a
theorem SH.givenC{C:Chunk}(h:SH w0 M K w hp)(i:Nat)(d:C.PV)(c:C.holds w' (fun b=>M b\/rest hp i b) C.own')(e:bH (hp i).own' w w')(hn:∀b,C.own' b->b<w.heap.size->(hp i).own' b):SH w0 M K w' (bV hp i C):=
  h.step i e (fun _ a _=>a) hn (Chunk.re d c (fun b a _=>by
    rcases a with a|a|a
    · exact .inl<|.inl a
    · exact .inl<|.inr a
    · exact .inr a))
theorem SH.xq{C:Chunk}(l:∀b,M b->b<w.heap.size)(m:C.holds w M C.own')(g:∀b,C.own' b->¬M b):SH w M C.own' w (bV hno 1 C):=by
  have a:∀b,iC (bV hno 1 C) b->C.own' b:=by
    rintro b⟨j,f⟩;by_cases e:j=1
    · subst e;rw[dh]at f;exact f
    · rw[eZ e]at f;exact f.elim
  refine⟨bH.refl _ _,l,fun i b c=>g b<|a b ⟨i,c⟩,fun i=>?_,fun i j k b c d=>?_,fun i b c _=>a b ⟨i,c⟩⟩
  · by_cases e:i=1
    · subst e;rw[dh];exact Chunk.sub m (fun b c _=>a b c)
    · rw[eZ e];trivial
  · by_cases e:i=1
    · have n:j≠1:=fun h=>k<|e.trans h.symm;rw[eZ n]at d;exact d.elim
    · rw[eZ e]at c;exact c.elim
theorem SH.outC{C:Chunk}(h:SH w0 M K w hp)(i:Nat)(d:hp i=C)(c:C.PV):C.holds w M C.own'/\bH K w0 w/\(∀b,C.own' b->b<w0.heap.size->K b):=by
 subst d;exact⟨Chunk.re c (h.ok i) fun b a _=>a.imp id fun a=>⟨i,a⟩,h.keep,h.old i⟩
end
structure Val where
 kind:Int
 n:Int
deriving DecidableEq
def bG:kL Val where
 sz:=2
 rd w A cs x:=cs=[.int .i64 x.kind,.int .i64 x.n]
 len:=by rintro w A cs x rfl;rfl
 one:=by rintro w A cs x rfl u hu;simp only[List.mem_cons,List.not_mem_nil,or_false]at hu;rcases hu with rfl|rfl<;>first|rfl
 pos:=by decide
 go:=fun h _ _ _=>h
structure Tok where
 kind:Int
 n:Int
deriving DecidableEq
def pY:kL Tok where
 sz:=2
 rd w A cs x:=cs=[.int .i64 x.kind,.int .i64 x.n]
 len:=by rintro w A cs x rfl;rfl
 one:=by rintro w A cs x rfl u hu;simp only[List.mem_cons,List.not_mem_nil,or_false]at hu;rcases hu with rfl|rfl<;>first|rfl
 pos:=by decide
 go:=fun h _ _ _=>h
structure il where
 from_:Int
 iX:Int
 co:Int
 aM:Int
 taken:Bool
 image:List Int
deriving DecidableEq
def eB:kL il where
 sz:=6
 rd w A cs x:=∃oI,cs=[.int .i64 x.from_,.int .i64 x.iX,.int .i64 x.co,.int .i64 x.aM,.bool x.taken,oI]/\cz di w A oI x.image
 len:=by rintro w A cs x ⟨oI,rfl,h0⟩;rfl
 one:=by rintro w A cs x ⟨oI,rfl,h0⟩ u hu;simp only[List.mem_cons,List.not_mem_nil,or_false]at hu;rcases hu with rfl|rfl|rfl|rfl|rfl|rfl<;>first|rfl|exact h0.one
 pos:=by decide
 go:=by rintro w A cs x w2 A2 K ⟨oI,rfl,h0⟩ hk hK hA;exact⟨_,Z,h0.go hk hK hA⟩
theorem Ct{w:World}{A:BS}{cs:List Value}{x:il}(h:eB.rd w A cs x):∃a,cs=[.int .i64 x.from_,.int .i64 x.iX,.int .i64 x.co,.int .i64 x.aM,.bool x.taken,a]/\cz di w A a x.image:=h
structure Co where
 lF:Int
 aM:Int
 image:List Int
 offered:Int
deriving DecidableEq
def EJ:kL Co where
 sz:=4
 rd w A cs x:=∃oI,cs=[.int .i64 x.lF,.int .i64 x.aM,oI,.int .i64 x.offered]/\cz di w A oI x.image
 len:=by rintro w A cs x ⟨oI,rfl,h0⟩;rfl
 one:=by rintro w A cs x ⟨oI,rfl,h0⟩ u hu;simp only[List.mem_cons,List.not_mem_nil,or_false]at hu;rcases hu with rfl|rfl|rfl|rfl<;>first|rfl|exact h0.one
 pos:=by decide
 go:=by rintro w A cs x w2 A2 K ⟨oI,rfl,h0⟩ hk hK hA;exact⟨_,Z,h0.go hk hK hA⟩
theorem lq{w:World}{A:BS}{cs:List Value}{x:Co}(h:EJ.rd w A cs x):∃a,cs=[.int .i64 x.lF,.int .i64 x.aM,a,.int .i64 x.offered]/\cz di w A a x.image:=h
structure Rec where
 kind:Int
 co:Int
 aM:Int
 place:Int
 says:List Int
 image:List Int
deriving DecidableEq
def Uq:kL Rec where
 sz:=6
 rd w A cs x:=∃TT,∃oI,cs=[.int .i64 x.kind,.int .i64 x.co,.int .i64 x.aM,.int .i64 x.place,TT,oI]/\cz di w A TT x.says/\cz di w A oI x.image
 len:=by rintro w A cs x ⟨TT,oI,rfl,h0,h1⟩;rfl
 one:=by rintro w A cs x ⟨TT,oI,rfl,h0,h1⟩ u hu;simp only[List.mem_cons,List.not_mem_nil,or_false]at hu;rcases hu with rfl|rfl|rfl|rfl|rfl|rfl<;>first|rfl|exact h0.one|exact h1.one
 pos:=by decide
 go:=by rintro w A cs x w2 A2 K ⟨TT,oI,rfl,h0,h1⟩ hk hK hA;exact⟨_,_,Z,h0.go hk hK hA,h1.go hk hK hA⟩
theorem Ri{w:World}{A:BS}{cs:List Value}{x:Rec}(h:Uq.rd w A cs x):∃a,∃b,cs=[.int .i64 x.kind,.int .i64 x.co,.int .i64 x.aM,.int .i64 x.place,a,b]/\cz di w A a x.says/\cz di w A b x.image:=h
theorem ed.mapR{α:Type}{R R':kL α}{w:World}{B A:BS}{v:Value}{l:List α}(e:R.sz=R'.sz)(h:∀cs x,x∈l->R.rd w A cs x->R'.rd w A cs x)(q:ed R w B A v l):ed R' w B A v l:=by
 obtain⟨a,cap,rfl,n,m,p,k⟩:=q;refine⟨a,cap,Z,n,m,p,fun i c=>?_⟩;obtain⟨b,o,cells,E,j,g,r,d,f⟩:=k i c;refine⟨b,o,cells,E,j,g,r,d,?_⟩;rw[<-e];exact h _ _ (List.getElem_mem c) f
structure cZ where
 kind:Int
 n:Int
 e:List Tok
 f:List Tok
 a:List cZ
 b:List cZ
def uB:Nat->{R:kL cZ // R.sz=6}
 |0=>⟨{sz:=6,rd:=fun _ _ _ _=>False,len:=fun h=>h.elim,one:=fun h=>h.elim,pos:=by decide,go:=fun h=>h.elim},rfl⟩
 |d+1=>⟨{
  sz:=6
  rd:=fun w A cs x=>∃j c i g,cs=[.int .i64 x.kind,.int .i64 x.n,j,c,i,g]/\cz pY w A j x.e/\cz pY w A c x.f/\cz (uB d).1 w A i x.a/\cz (uB d).1 w A g x.b
  len:=by rintro w A cs x ⟨j,c,i,g,rfl,_⟩;rfl
  one:=by rintro w A cs x ⟨j,c,i,g,rfl,q,p,r,o⟩ u s;simp only[List.mem_cons,List.not_mem_nil,or_false]at s;rcases s with rfl|rfl|rfl|rfl|rfl|rfl<;>first|rfl|exact q.one|exact p.one|exact r.one|exact o.one
  pos:=by decide
  go:=by rintro w A cs x v t K ⟨j,c,i,g,rfl,q,p,r,o⟩ k l m;exact⟨_,_,_,_,Z,q.go k l m,p.go k l m,r.go k l m,o.go k l m⟩},Z⟩
theorem KR:∀(d:Nat) {w:World} {A:BS} {cs:List Value} {x:cZ},(uB d).1.rd w A cs x->(uB (d+1)).1.rd w A cs x
 |0,_,_,_,_,h=>h.elim
 |d+1,_,_,_,_,h=>by
  obtain⟨j,a,f,b,rfl,g,e,i,c⟩:=h;exact⟨j,a,f,b,Z,g,e,i.mapR ((uB d).2.trans (uB<|d+1).2.symm) fun _ _ _ h=>KR d h,c.mapR ((uB d).2.trans (uB<|d+1).2.symm) fun _ _ _ h=>KR d h⟩
theorem Yj{d a:Nat}(b:d<=a){w:World}{A:BS}{cs:List Value}{x:cZ}(h:(uB d).1.rd w A cs x):(uB a).1.rd w A cs x:=by
 induction b with
 |refl=>exact h
 |step _ ih=>exact KR _ ih
def iI:kL cZ where
 sz:=6
 rd w A cs x:=∃d,(uB d).1.rd w A cs x
 len:=by rintro w A cs x ⟨d,h⟩;exact((uB d).1.len h).trans (uB d).2
 one:=by rintro w A cs x ⟨d,h⟩;exact(uB d).1.one h
 pos:=by decide
 go:=by rintro w A cs x w2 A2 K ⟨d,h⟩ hk hK hA;exact⟨d,(uB d).1.go h hk hK hA⟩
theorem max_of{P:Nat->Nat->Prop}(b:∀d a i,d<=a->P d i->P a i):∀n,(∀i,i<n->∃d,P d i)->∃d,∀i,i<n->P d i
  |0,_=>⟨0,fun i c=>absurd c (Nat.not_lt_zero _)⟩
  |n+1,h=>by
    obtain⟨d,g⟩:=max_of b n fun i c=>h i V;obtain⟨a,f⟩:=h n V;refine⟨max d a,fun i c=>?_⟩;by_cases e:i=n
    · subst e;exact b _ _ _ (Nat.le_max_right _ _) f
    · exact b _ _ _ (Nat.le_max_left _ _)<|g i V
theorem U3{w:World}{A:BS}{v:Value}{l:List cZ}(h:cz iI w A v l):∃d,∀k,d<=k->cz (uB k).1 w A v l:=by
 obtain⟨a,cap,rfl,s,r,t,q⟩:=h;have u:=max_of (P:=fun d i=>∀h:i<l.length,∃b o cells E c,a=some ⟨b,o,none⟩/\¬A b/\w.heap[b]? =some (.cells cells E c)/\(uB d).1.rd w A ((cells.toList.drop<|o+i*6).take 6) l[i])
  (fun d k i p hp h=>let ⟨b,o,cells,E,c,g,j,e,f⟩:=hp h;⟨b,o,cells,E,c,g,j,e,Yj p f⟩) l.length
  (fun i m=>by obtain⟨b,o,cells,E,c,g,j,e,d,f⟩:=q i m;exact⟨d,fun _=>⟨b,o,cells,E,c,g,j,e,f⟩⟩)
 obtain⟨d,p⟩:=u;refine⟨d,fun k n=>⟨a,cap,Z,s,r,t,fun i m=>?_⟩⟩;obtain⟨b,o,cells,E,c,g,j,e,f⟩:=p i m m;exact⟨b,o,cells,E,c,g,j,e,by rw[(uB k).2];exact Yj n f⟩
theorem Jy{w:World}{A:BS}{cs:List Value}{x:cZ}(h:iI.rd w A cs x):∃j c i g,cs=[.int .i64 x.kind,.int .i64 x.n,j,c,i,g]/\cz pY w A j x.e/\cz pY w A c x.f/\cz iI w A i x.a/\cz iI w A g x.b:=by
 obtain⟨d,h⟩:=h;cases d with
 |zero=>exact h.elim
 |succ d=>
  obtain⟨j,c,i,g,rfl,m,l,o,k⟩:=h;exact⟨j,c,i,g,Z,m,l,o.mapR (uB d).2 fun _ _ _ h=>⟨d,h⟩,k.mapR (uB d).2 fun _ _ _ h=>⟨d,h⟩⟩
theorem rStmt_mk{w:World}{A:BS}{cs:List Value}{x:cZ}(h:∃j c i g,cs=[.int .i64 x.kind,.int .i64 x.n,j,c,i,g]/\cz pY w A j x.e/\cz pY w A c x.f/\cz iI w A i x.a/\cz iI w A g x.b):iI.rd w A cs x:=by
 obtain⟨j,c,i,g,rfl,o,m,p,l⟩:=h;obtain⟨d,r⟩:=U3 p;obtain⟨q,k⟩:=U3 l;exact⟨max d q+1,j,c,i,g,Z,o,m,r _<|Nat.le_max_left _ _,k _<|Nat.le_max_right _ _⟩
structure iU where
 params:Int
 locals:Int
 body:List cZ
def lW:kL iU where
 sz:=3
 rd w A cs x:=∃TU,cs=[.int .i64 x.params,.int .i64 x.locals,TU]/\cz iI w A TU x.body
 len:=by rintro w A cs x ⟨TU,rfl,h0⟩;rfl
 one:=by rintro w A cs x ⟨TU,rfl,h0⟩ u hu;simp only[List.mem_cons,List.not_mem_nil,or_false]at hu;rcases hu with rfl|rfl|rfl<;>first|rfl|exact h0.one
 pos:=by decide
 go:=by rintro w A cs x w2 A2 K ⟨TU,rfl,h0⟩ hk hK hA;exact⟨_,Z,h0.go hk hK hA⟩
theorem Ac{w:World}{A:BS}{cs:List Value}{x:iU}(h:lW.rd w A cs x):∃a,cs=[.int .i64 x.params,.int .i64 x.locals,a]/\cz iI w A a x.body:=h
section
variable{α β σ ρ:Type}
theorem nM{l:List α}{i:Nat}:idx l (i:Int)=l[i]? :=by simp[idx]
theorem Cu{l:List α}{i:Nat}(h:i<l.length):idx l (i:Int)=some l[i]:=by rw[nM,List.getElem?_eq_getElem h]
theorem mG{p:Prop} [Decidable p]{x:Option β}(h:p):ic p x=x:=if_pos h
theorem sK{b:Nat}{a:List α}(h:a.length*b<=140737488355328)(c:a.length<=9223372036854775807):clone b a=some a:=by
 unfold clone;exact mG<|Room.mk (by simpa using h) (by simpa using c)
theorem sub_s{l:List α}{a b:Nat}(h:a<=b)(c:b<=l.length):sub? l (a:Int) (b:Int)=some ((l.take b).drop a):=by
 unfold sub? cut;rw[if_pos ⟨by omega,by omega,by omega⟩];simp
theorem del_s{l:List α}{a b:Nat}(h:a<b)(c:b<=l.length):del1 l (a:Int) (b:Int)=some (l.take a++l.drop b):=by
 unfold del1;rw[if_pos ⟨by omega,by omega,by omega⟩];simp
theorem one_at{l:List α}{n:Nat}(h:n<l.length):(l.take (n+1)).drop n=[l[n]]:=by
 rw[List.drop_take,List.drop_eq_getElem_cons h,show n+1-n=1 by omega];rfl
def all2(p:α->β->Bool):List α->List β->Bool
 |[],[]=>true
 |x::xs,y::ys=>p x y&&all2 p xs ys
 |_,_=>false
theorem Jz [DecidableEq α]{p:α->α->Bool}(hp:∀x y,p x y=decide (x=y)):∀(a b:List α),all2 p a b=decide (a=b)
 |[],[]=>by simp[all2]
 |[],_::_=>by simp[all2]
 |_::_,[]=>by simp[all2]
 |x::xs,y::ys=>by simp[all2,hp,Jz hp xs ys]
theorem Rj{body:Int->Unit->(Unit->Option Bool)->Option Bool}{c:Unit->Option Bool}(p:α->β->Bool)(a:List α)(b:List β)(k:a.length=b.length)(j:c ()=some true)
  (g:∀(i:Nat) x y nx,a[i]? =some x->b[i]? =some y->body (i:Int) () nx=bif p x y then nx ()else some false):upto body c 0 a.length ()=some (all2 p a b):=by
 have d:∀(m i:Nat),i+m=a.length->upto body c (i:Int) m ()=some (all2 p (a.drop i)<|b.drop i):=by
  intro m;induction m with
  |zero=>
   intro i h;rw[List.drop_eq_nil_of_le V,List.drop_eq_nil_of_le V];exact j
  |succ m ih=>
   intro i h;have f:i<a.length:=by omega
   have e:i<b.length:=by omega
   rw[List.drop_eq_getElem_cons f,List.drop_eq_getElem_cons e];show body (i:Int) () (upto body c ((i:Int)+1) m)=_;rw[g i a[i] b[i] _ (List.getElem?_eq_getElem f) (List.getElem?_eq_getElem e)];cases hp:p a[i] b[i]with
   |true=>simp only[cond_true,all2,hp,Bool.true_and];exact ih (i+1) V
   |false=>simp[all2,hp]
 simpa using d a.length 0 V
theorem NT{body:Int->α->Unit->(Unit->Option Bool)->Option Bool}{c:Unit->Option Bool}(p:α->β->Bool)(a:List α)(b:List β)(j:a.length=b.length)(g:c ()=some true)
  (f:∀(i:Nat) x y nx,b[i]? =some y->body (i:Int) x () nx=bif p x y then nx ()else some false):iQ body c 0 a ()=some (all2 p a b):=by
 have d:∀(l:List α) (i:Nat),i+l.length=b.length->iQ body c (i:Int) l ()=some (all2 p l<|b.drop i):=by
  intro l;induction l with
  |nil=>
   intro i h;rw[List.drop_eq_nil_of_le (by simp at h;omega)];exact g
  |cons x l ih=>
   intro i h;simp only[List.length_cons]at h;have e:i<b.length:=by omega
   rw[List.drop_eq_getElem_cons e];show body (i:Int) x () (iQ body c ((i:Int)+1) l)=_;rw[f i x b[i] _ (List.getElem?_eq_getElem e)];cases hp:p x b[i]with
   |true=>simp only[cond_true,all2,hp,Bool.true_and];exact ih (i+1) V
   |false=>simp[all2,hp]
 simpa using d a 0 V
theorem Yk{body:Int->Unit->(Unit->ρ)->ρ}{b:Unit->ρ}(p:α->Bool)(a:Int->ρ)(l:List α)(e:∀(i:Nat) x nx,l[i]? =some x->body (i:Int) () nx=bif p x then a i else nx ()):
  upto body b 0 l.length ()=match l.findIdx? p with|some n=>a (n:Int)|none=>b ():=by
 have c:∀(m i:Nat),i+m=l.length->upto body b (i:Int) m ()=match (l.drop i).findIdx? p with|some n=>a ((i+n:Nat):Int)|none=>b ():=by
  intro m;induction m with
  |zero=>intro i h;rw[List.drop_eq_nil_of_le V];rfl
  |succ m ih=>
   intro i h;have d:i<l.length:=by omega
   rw[List.drop_eq_getElem_cons d,List.findIdx?_cons];show body (i:Int) () (upto body b ((i:Int)+1) m)=_;rw[e i l[i] _ (List.getElem?_eq_getElem d)];cases hp:p l[i]with
   |true=>rfl
   |false=>
    simp only[cond_false,Bool.false_eq_true,if_false];have:=ih (i+1) V;rw[show((i+1:Nat):Int)=(i:Int)+1 from rfl]at this;rw[this];cases (l.drop (i+1)).findIdx? p with
    |none=>rfl
    |some n=>simp only[Option.map_some];congr 1;omega
 have:=c l.length 0 V;simp only[List.drop_zero,Nat.zero_add]at this;exact this
theorem del_s1{l:List α}{a:Nat}(h:a<l.length):del1 l (a:Int) ((a:Int)+1)=some (l.take a++l.drop (a+1)):=by
 have:=del_s (l:=l) (a:=a) (b:=a+1) V V;exact this
theorem dT{p:Prop} [Decidable p](h:p):decide p=true:=decide_eq_true h
theorem dF{p:Prop} [Decidable p](h:¬p):decide p=false:=decide_eq_false h
theorem gI{x:Int}{y:Option β}(b: -9223372036854775808<=x:=by omega)(a:x<=9223372036854775807:=by omega):ic (ko x) y=y:=mG (ko.mk b a)
end
open Go.RowKit
def fF:kL UInt8 where
 sz:=1
 rd _ _ cs x:=cs=[.int .u8 (x.toNat:Int)]
 len:=by rintro w A cs x rfl;rfl
 one:=by rintro w A cs x rfl u hu;simp at hu;subst hu;rfl
 pos:=by decide
 go:=fun h _ _ _=>h
def IsErr(v:Value)(b:Bool):Prop:=(b=false/\v=.nilIface)\/(b=true/\∃t p,v=.iface t p)
structure IfaceT(P:Program)(T:TypeId):Prop where
 desc:P.underlying T=some (.interface (P.methodsAt T))
def NB{α:Type}(a:Nat)(k:Int):Option (List α):=ic (0<=k/\k*a<=140737488355328) (some [])
section
variable{P:Program}{ops:Array Oper}{Q:Exit->Act->World->Prop}{n:Nat}{env:Nat->Value}{w w' w0:World}{M K:BS}{hp:Nat->Chunk}{rest:List Oper}
 {d:Option Nat} {op:Op} {ty:TypeId} {pos:String} {af:Array Edge} {v:Value} {g:Option (Nat×Bool)} {T:TypeId} {ρ:Operand->Value} {x y:Operand}
theorem Rk{a b:Str}{T2:TypeId}(c:ρ x=bB a)(e:ρ y=bB b):(execOp ρ ⟨d,.binOp .eql T x y T2,ty,pos,af,g⟩).run P w=.ok (.value (.bool (decide (a=b)))) w:=by
 simp[execOp,binOp,c,e,bB,Op.stringOp,eqGuard];rw[Bool.eq_iff_iff];simp
theorem NU{a b:Str}{T2:TypeId}(c:ρ x=bB a)(e:ρ y=bB b):(execOp ρ ⟨d,.binOp .neq T x y T2,ty,pos,af,g⟩).run P w=.ok (.value (.bool (decide (a≠b)))) w:=by
 simp[execOp,binOp,c,e,bB,Op.stringOp,eqGuard];rw[Bool.eq_iff_iff];simp
theorem rU{a b:Str}{T2:TypeId}(e:ρ x=bB a)(i:ρ y=bB b)(h:a.length+b.length<=9223372036854775807):(execOp ρ ⟨d,.binOp .add T x y T2,ty,pos,af,g⟩).run P w=.ok (.value (bB (a++b))) w:=by
 have c:=run_string_add_sum (P:=P) (w:=w) ⟨a.toArray⟩ ⟨b.toArray⟩ (by simpa[ByteArray.size]using h);have f:(⟨a.toArray⟩++⟨b.toArray⟩:ByteArray)=⟨(a++b).toArray⟩:=by
  apply ByteArray.ext;simp
 rw[f]at c;simp[execOp,binOp,e,i,bB,eqGuard,c]
theorem r_neqnilI{b:Bool}{T2:TypeId}(c:IfaceT P T)(a:ρ x=v)(f:IsErr v b)(e:ρ (.const .nilIface)=.nilIface):(execOp ρ ⟨d,.binOp .neq T x (.const .nilIface) T2,ty,pos,af,g⟩).run P w=.ok (.value (.bool b)) w:=by
  rcases f with⟨rfl,rfl⟩|⟨rfl,t,p,rfl⟩
  · simp[execOp,binOp,a,e,eqGuard,run_equal_nil_nil w T c.desc]
  · simp[execOp,binOp,a,e,eqGuard,run_equal_held_nil w T t p c.desc]
theorem r_eqlnilI{b:Bool}{T2:TypeId}(c:IfaceT P T)(a:ρ x=v)(f:IsErr v b)(e:ρ (.const .nilIface)=.nilIface):(execOp ρ ⟨d,.binOp .eql T x (.const .nilIface) T2,ty,pos,af,g⟩).run P w=.ok (.value (.bool !b)) w:=by
  rcases f with⟨rfl,rfl⟩|⟨rfl,t,p,rfl⟩
  · simp[execOp,binOp,a,e,eqGuard,run_equal_nil_nil w T c.desc]
  · simp[execOp,binOp,a,e,eqGuard,run_equal_held_nil w T t p c.desc]
theorem w_makeSl{α:Type}{R:kL α}{E:TypeId}{c:Nat}{k:Int}{z:Value}{a:α}(h:SH w0 M K w hp)(i:Nat)(C:jY P T E 1 c)(s:One P E z)(r:R.sz=1)(l:0<c)(S:ev n env x=.int .i64 k)(hy:ev n env y=.int .i64 k)
    (O:0<=k/\k*c<=140737488355328) (I:∀w A,R.rd w A [z] a)
    (kk:∀w' u,SH w0 M K w' (bV hp i (.own R E u (List.replicate k.toNat a)))->WL P ops Q rest n (gm env d u) w'):
    WL P ops Q (⟨d,.makeSlice T x y,ty,pos,af,none⟩::rest) n env w:=by
  obtain⟨h0,h1⟩:=O;obtain⟨m,rfl⟩:=Int.eq_ofNat_of_zero_le h0;obtain⟨j,z',t,X,o,g,G⟩:=C.info;have e:=s.info;rw[t]at e;simp only[Option.map_some,Option.some.injEq,Prod.mk.injEq]at e;have a1:m<=m*c:=Nat.le_mul_of_pos_right _ l;have J:m*c<=140737488355328:=by
    have:((m*c:Nat):Int)<=140737488355328:=by rw[Int.natCast_mul];exact h1
    omega
  obtain⟨w',N,ho,L⟩:=run_make_full (P:=P) w 0 T E j z 1 C.desc t e.1 o .i64 .i64 m (by rw[g,Nat.mul_comm];omega) (by unfold maxLen;omega) (Nat.zero_le _);have p:Grow w w':=(zy (v:=.slice none 0 0) L).weaken fun _ h _=>h.elim;have f:(execOp (ev n env) ⟨d,.makeSlice T x y,ty,pos,af,none⟩).run P w=.ok (.value<|.slice (some ⟨w.heap.size,0,none⟩) m m) w':=by
    simp only[execOp,Sem.run_bind,Sem.run_pure,Result.andThen_ok,S,hy,N]
  refine F f<|kk w' _<|h.wK i p ⟨(madeCells z.cells<|m*1).toList,?_,?_⟩ ?_
  · rw[r,List.length_replicate];exact ho
  · intro q B;simp only[List.length_replicate]at B;have a0:q<m:=B;rw[r,s.cell,toList_madeCells_one];have:(List.drop (q*1)<|List.replicate (m*1) z).take 1=[z]:=by
      rw[List.drop_replicate,List.take_replicate,show min 1 (m*1-q*1)=1 by omega];rfl
    rw[this];simp only[List.getElem_replicate];exact I _ _
  · intro b l;have:b=w.heap.size:=l;omega
theorem run_appS{E u:TypeId}{A:BS}{l s:Str}(o:jY P T E 1 1)(O:One P E (.int .u8 0))(B:P.underlying u=some .string)(R:ρ x=v)(hv:cK fF E w A v l)(hy:ρ y=bB s)
    (p:(l.length+s.length)*1<=140737488355328) (hm:l.length+s.length<=9223372036854775807):
    ∃h w',(execOp ρ ⟨d,.call {callee:=.builtin .append,args:= #[x,y],argTypes:= #[T,u]},ty,pos,af,g⟩).run P w=.ok (.value h) w'/\cK fF E w' A h (l++s)/\bH (ob v) w w'/\(∀b,ob h b->b<w.heap.size->ob v b):=by
  obtain⟨xs,ho,N⟩:=hv;obtain⟨i,z',n,a0,k,f,M⟩:=o.info;have c:=O.info;rw[n]at c;simp only[Option.map_some,Option.some.injEq,Prod.mk.injEq]at c;have e:(ByteArray.mk s.toArray).size=s.length:=by simp[ByteArray.size]
  obtain⟨h,w',m,h2,h3,X⟩:=Lib.run_append_own_string (P:=P) w 0 T u ty E i o.desc B n c.1 k f v l.length xs ho ⟨s.toArray⟩ (by rw[e];unfold maxLen;omega) (by rw[e];omega) (Nat.zero_le _);have Q:=zy h3;have z:xs.length=l.length:=by simpa[fF]using ho.1
  have r:(execOp ρ ⟨d,.call {callee:=.builtin .append,args:= #[x,y],argTypes:= #[T,u]},ty,pos,af,g⟩).run P w=.ok (.value h) w':=by
    simp only[execOp,resolve,invoke,builtin,Sem.run_bind,Sem.run_pure,Result.andThen_ok,List.map_toArray,List.map_cons,List.map_nil,R,hy];rw[show(Builtin.append_ #[T,u] ty #[v,bB s]).run P w=_ from m];rfl
  have G:Lib.strCells ⟨s.toArray⟩=s.map fun b=>Value.int .u8 (b.toNat:Int):=by simp[Lib.strCells]
  refine⟨h,w',r,⟨xs++Lib.strCells ⟨s.toArray⟩,?_,?_⟩,Q,?_⟩
  · rw[List.length_append,<-e];exact h2
  · intro q S;show List.take 1 (List.drop (q*1) _)=_;rw[Nat.mul_one,G];by_cases t:q<l.length
    · have:=N q t;have K:List.take 1 (List.drop (q*1) xs)=[.int .u8 (l[q].toNat:Int)]:=this;rw[Nat.mul_one]at K;rw[List.drop_append_of_le_length V,List.take_append_of_le_length (by rw[List.length_drop];omega),K,List.getElem_append_left t]
    · rw[List.length_append]at S;rw[List.getElem_append_right V,List.drop_append,List.drop_eq_nil_of_le V,List.nil_append,z,List.drop_eq_getElem_cons (by simp;omega)];simp
  · intro b p hl;rcases ho.2 with⟨rfl,hn⟩|⟨gg,cap,cur,rfl,_,hgg,hc,hcm,hcs',htake⟩
    · by_cases I:s.length=0
      · have C:s=[]:=List.eq_nil_of_length_eq_zero I;subst C;have:h=.slice none 0 0:=X.2 ⟨Z,e⟩;subst this;exact p
      · have a:=run_append_nil_string (P:=P) w T u ty E i (.int .u8 0) o.desc B n c.1 ⟨s.toArray⟩ V V (by rw[f];omega);rw[a]at m;cases m;simp[ob]at p;omega
    · by_cases J:l.length+s.length<=cap
      · have L:cur.size=cap:=by simpa[fF]using hcs'
        have a:=Lib.run_append_room_string (P:=P) w T u ty E i o.desc B n k gg l.length cap cur hgg ⟨s.toArray⟩ V V;rw[a]at m;cases m;exact p
      · have holds:∀j u,xs[j]? =some u->w.cell? ((⟨gg,0,none⟩:Addr).add j)=some u:=ho.cells (g:=gg) Z;have a:=Lib.run_append_grow_string (P:=P) w T u ty E i (.int .u8 0) o.desc B n c.1 ⟨gg,0,none⟩ l.length cap xs (by rw[k];simpa using z) holds ⟨s.toArray⟩ V V (by rw[f];exact growslice_fits V V);rw[a]at m;cases m;simp[ob]at p;omega
theorem r_b2s{E e:TypeId}{B A:BS}{l:Str}(h:P.underlying T=some (.slice E))(i:P.underlying E=some (.int .u8))(k:P.underlying e=some .string)(u:ρ x=v)(C:ed fF w B A v l):
    (execOp ρ ⟨d,.convert T e x,ty,pos,af,g⟩).run P w=.ok (.value (bB l)) w:=by
  obtain⟨a,cap,rfl,N,M,O,q⟩:=C;have m:(convert T e<|.slice a l.length cap).run P w=.ok (bB l) w:=by
    cases l with
    |nil=>
      cases a with
      |none=>
        rw[run_convert_bytes_string w T e E none _ _ h i k];simp[Conv.bytesToString,bB];rfl
      |some a=>
        exact run_convert_bytes_back w T e E a cap [] h i k fun j n=>absurd n<|Nat.not_lt_zero _
    |cons c r=>
      obtain⟨b,o,cells,L,K,rfl,_,_,_⟩:=q 0 zq3;refine run_convert_bytes_back w T e E ⟨b,o,none⟩ cap (c::r) h i k fun j n=>?_;obtain⟨b',I,f,J,y,t,_,G,s⟩:=q j n;cases t;have p:List.take 1 (List.drop (o+j*1) f.toList)=[.int .u8 ((c::r)[j].toNat:Int)]:=s;rw[Nat.mul_one]at p;have z:f.toList[o+j]? =some (.int .u8 ((c::r)[j].toNat:Int)):=by
        have:=congrArg (·[0]?) p;simpa[List.getElem?_take,List.getElem?_drop]using this
      rw[addr_add];simpa[World.cell?,G]using z
  simp only[execOp,Sem.run_bind,Sem.run_pure,u,m,Result.andThen_ok]
theorem ZN(s:Str)(a b:Nat):(ByteArray.mk s.toArray).extract a b=⟨((s.take b).drop a).toArray⟩:=by
 apply ByteArray.ext;simp[ByteArray.data_extract,List.drop_take]
theorem uC(s:Str):(ByteArray.mk s.toArray).size=s.length:=by simp[ByteArray.size]
def subs?(s:Str)(a b:Int):Option Str:=ic (0<=a/\a<=b/\b<=s.length) (some (cut s a b))
theorem r_sls{s:Str}{h l:Option Operand}{a b:Int}(f:P.underlying T=some .string)(r:ρ x=bB s)(m:Nw (h.map ρ) a 0)(j:Nw (l.map ρ) b s.length)(o:0<=a)(i:a<=b)(t:b<=s.length):
    (execOp ρ ⟨d,.slice T x h l none,ty,pos,af,g⟩).run P w=.ok (.value (bB (cut s a b))) w:=by
  obtain⟨a,rfl⟩:=Int.eq_ofNat_of_zero_le o;obtain⟨b,rfl⟩:=Int.eq_ofNat_of_zero_le<|Int.le_trans o i;have n:a<=b:=by omega
  have p:b<=s.length:=by omega
  have q:cut s (a:Int) (b:Int)=(s.take b).drop a:=by simp[cut]
  have k:(Instr.slice T (bB s) (h.map ρ) (l.map ρ) none).run P w=.ok (bB ((s.take b).drop a)) w:=by
    unfold bB;rcases m with⟨e1,e2⟩|e1<;>rcases j with⟨e3,e4⟩|e3
    · have e:a=0:=by omega
      have c:b=s.length:=by omega
      subst e c;rw[e1,e3,run_slice_string_all w T _ f,ZN,uC]
    · have e:a=0:=by omega
      subst e;rw[e1,e3,run_slice_string_to_if w T _ _ _ f,if_pos ⟨by omega,by rw[uC];omega⟩,ZN];simp
    · have c:b=s.length:=by omega
      subst c;rw[e1,e3,run_slice_string_from_if w T _ _ _ f,if_pos ⟨by omega,by rw[uC];omega⟩,ZN,uC];simp
    · rw[e1,e3,run_slice_string w T _ _ _ _ _ f V V (by rw[uC];omega),ZN];simp
  rw[q];simp only[execOp,Sem.run_bind,Sem.run_pure,r,Option.map_none,run_sliceAt_string w T _ _ _ _ f,k,Result.andThen_ok]
theorem r_slsE{s r:Str}{h i:Option Operand}{a b:Int}(l:r=cut s a b)(n:P.underlying T=some .string)(m:ρ x=bB s)(f:Nw (h.map ρ) a 0)(e:Nw (i.map ρ) b s.length)(k:0<=a)(c:a<=b)(j:b<=s.length):
  (execOp ρ ⟨d,.slice T x h i none,ty,pos,af,g⟩).run P w=.ok (.value (bB r)) w:=by
 subst l;exact r_sls n m f e k c j
theorem o_subs{s r:Str}{a b:Int}(h:subs? s a b=some r):0<=a/\a<=b/\b<=s.length/\r=cut s a b:=by
 obtain⟨c,d⟩:=bC h;exact⟨c.1,c.2.1,c.2.2,(Option.some.inj d).symm⟩
theorem U4{α:Type}{R:kL α}{E c:TypeId}{j a:Nat}{A:BS}{k:Nat}(l:jY P T E j a)(o:R.sz=j)(q:P.underlying c=some (.int .i64))(u:ev n env x=.slice none 0 0)(I:ev n env y=.int .i64 (k:Nat))(t:0<k)(B:0<a)
    (p:k*a<=140737488355328)
    (h:∀w' gg cap,Grow w w'->w.heap.size<=gg->gg<w'.heap.size->k<=cap->cK R E w' A (.slice (some ⟨gg,0,none⟩) 0 cap) ([]:List α)->WL P ops Q rest n (gm env d (.slice (some ⟨gg,0,none⟩) k cap)) w'):
    WL P ops Q (⟨d,.call {callee:=.builtin .append,args:= #[x,y],argTypes:= #[T,c]},ty,pos,af,none⟩::rest) n env w:=by
  obtain⟨i,z,v,s,C,f,e⟩:=l.info;have m:=R.pos;have G:k<=k*a:=Nat.le_mul_of_pos_right _ B;have r:=Lib.run_append_nil_zeros (P:=P) w T c ty E i z .i64 .i64 l.desc q v s k t V V (by rw[f];omega);have b:(execOp (ev n env) ⟨d,.call {callee:=.builtin .append,args:= #[x,y],argTypes:= #[T,c]},ty,pos,af,none⟩).run P w=.ok (.value<|.slice (some ⟨w.heap.size,0,none⟩) k<|grownCap w k 0 E) (w.drew.alloc<|.cells (Builtin.zeroCells z.cells k++Builtin.zeroCells z.cells (grownCap w k 0 E-k)) E):=by
    simp only[execOp,resolve,invoke,builtin,Sem.run_bind,Sem.run_pure,Result.andThen_ok,List.map_toArray,List.map_cons,List.map_nil,u,I,r]
  have hge:=grownCap_ge w k 0 E;have g:grownCap w k 0 E<=maxLen:=grownCap_le_maxLen w k 0 E (by unfold maxLen;omega);refine F b<|h _ _ _ ((Grow.drew w).trans<|Grow.alloc _ _) (Nat.le_refl _) ?_ hge ⟨[],⟨by simp,.inr ⟨w.heap.size,_,_,Z,Nat.zero_le _,heap_alloc_new w.drew _,Nat.zero_le _,g,?_,by simp⟩⟩,fun i h=>absurd h<|Nat.not_lt_zero _⟩
  · show w.heap.size<(w.drew.alloc _).heap.size;rw[alloc_size];exact Nat.lt_succ_self _
  · rw[Array.size_append,size_zeroCells,size_zeroCells,e,o,<-Nat.add_mul];congr 1;omega
end
open Go.RowKit
structure qj(P:Program)(g:Nat)(w:World):Prop where
 pow:Lib.TabIs P w "internal/strconv.uint64pow10" .u64 Lib.pow10Tab
 syn:∃t p,w.var? P "strconv.ErrSyntax" =some #[.iface t p]
 ran:∃t p,w.var? P "strconv.ErrRange" =some #[.iface t p]
 max:∃m,w.cell? ⟨g,0,none⟩=some (.int .i64 m)
 many:P.globals.size<=w.heap.size
 gmax:g<P.globals.size
 asc:∀q,P.globalNamed "strings.asciiSpace" =some q->Lib.TabIs P w "strings.asciiSpace" .u8 Lib.asciiSpaceTab
theorem U5{P:Program}{s:String}{i:Nat}(h:P.globalNamed s=some i):i<P.globals.size:=by
  unfold Program.globalNamed at h;split at h
  · rename_i g a;cases h;have:i∈(List.range P.globals.size).filter fun g=>(P.globals[g]?).any (·.name==s):=by rw[a];simp
    exact List.mem_range.1 (List.mem_filter.1 this).1
  · cases h
theorem bH.var{P:Program}{K:BS}{w w':World}{s:String}{cs:Array Value}(c:bH K w w')(d:∀b,K b->P.globals.size<=b)(h:w.var? P s=some cs):w'.var? P s=some cs:=by
 unfold World.var? at h⊢;cases hg:P.globalNamed s with
 |none=>simp[hg]at h
 |some g=>
  have e:=U5 hg;simp only[hg,Option.bind_some]at h⊢;cases hb:w.heap[g]? with
  |none=>simp[hb]at h
  |some o=>rw[c.blk hb (fun a=>absurd (d _ a) V)];rw[hb]at h;exact h
theorem qj.PW{P:Program}{g:Nat}{K:BS}{w w':World}(h:qj P g w)(a:bH K w w')(c:∀b,K b->P.globals.size<=b):qj P g w':=by
 obtain⟨r,⟨j,i,l⟩,⟨k,p,s⟩,⟨m,d⟩,t,n,f⟩:=h;refine⟨a.var c r,⟨j,i,a.var c l⟩,⟨k,p,a.var c s⟩,⟨m,?_⟩,Nat.le_trans t a.size,n,fun q e=>a.var c<|f q e⟩;unfold World.cell? at d⊢;cases hb:w.heap[g]? with
 |none=>simp[hb]at d
 |some o=>rw[a.blk hb (fun e=>absurd (c _ e) V)];rw[hb]at d;exact d
theorem qj.go{P:Program}{g:Nat}{w w':World}(h:qj P g w)(a:Grow w w'):qj P g w':=h.PW a (fun _ h=>h.elim)
theorem SH.yT{P:Program}{g:Nat}{w0 w:World}{M K:BS}{hp:Nat->Chunk}{C:Chunk}(h:SH w0 M K w hp)(e:qj P g w0)(c:∀b,K b->P.globals.size<=b)(i:Nat)(d:hp i=C):∀b,C.own' b->P.globals.size<=b:=by
  subst d;intro b a;rcases Nat.lt_or_ge b w0.heap.size with hl|hl
  · exact c b<|h.old i b a hl
  · exact Nat.le_trans e.many hl
theorem Grow.drewN(w:World)(k:Nat):Grow w (w.drewN k):=⟨rfl,rfl,rfl,Nat.le_refl _,fun _ _ _=>rfl⟩
theorem Grow.NB{w:World}{os:Array Obj}:Grow w (Sort.grow w os):=⟨rfl,rfl,rfl,by simp[Sort.grow],fun b _ a=>by simp[Sort.grow,Array.getElem?_append_left a]⟩
def KS(n:Int):Option Str:=ic (ko n) (some (Lib.itoa n))
def GA(s:Str):Option (Int×Bool):=ic (s.length<=281474976710656) (some (match Lib.atoiAll s with| .ok v=>(v,false)| .range=>(Lib.atoiSat s,true)|_=>(0,true)))
def parseS(s:Str):Option (Int×Bool):=ic (s.length<=281474976710656) (some (match Lib.parseIntB 64 s with| .ok v=>(v,false)| .range=>(Lib.intSat 64 s,true)|_=>(0,true)))
def U6(l:List Str)(a:Str):Option Str:=ic (l.length<=140737488355328/\(Lib.join l a).length<=140737488355328) (some (Lib.join l a))
def NV(s a:Str):Option (List Str):=ic (s.length<4294967281/\1<=a.length) (some (Lib.split s a))
def cutS(s a:Str):Option (Str×Str×Bool):=ic (s.length<4294967281) (some (Lib.cut s a))
section
variable{P:Program}{g:Nat}{w0:World}{f:FuncId}{M:BS}
theorem itoa_w(c:∀n,-9223372036854775808<=n->n<=9223372036854775807->∀w,Lib.TabIs P w "internal/strconv.uint64pow10" .u64 Lib.pow10Tab->Calls P f #[.int .i64 n] w fun e w'=>e=.returned (.string ⟨(Lib.itoa n).toArray⟩)/\∃k os,w'=Sort.grow (w.drewN k) os)
  (d:qj P g w0) {a:Int} {r:Str} (b:KS a=some r):Calls P f #[.int .i64 a] w0 (fun e w'=>Grow w0 w'/\e=.returned (bB r)):=by
 obtain⟨h,b⟩:=bC b;cases b;refine(c a h.1 h.2 w0 d.pow).mono ?_;rintro e w'⟨rfl,k,os,rfl⟩;exact⟨(Grow.drewN w0 k).trans Grow.NB,Z⟩
theorem bw_grow(w:World)(t:TypeId)(s:ByteArray):Grow w (Lib.bytesWorld w t s):=⟨rfl,rfl,rfl,by rw[Lib.bytesWorld_size];omega,fun b _ a=>Lib.bytesWorld_at_old w t _ b a⟩
theorem atoi_w{x a c:TypeId}{nm:ByteArray}(n:∀s:ByteArray,s.size<=9223372036854775806->∀v,Lib.atoiAll s.data.toList=.ok v->∀w,Calls P f #[.string s] w fun e w'=>e=.returned (.tuple #[.int .i64 v,.nilIface])/\(w'=w\/∃t,w'=Lib.bytesWorld w x t))
    (m:∀s:ByteArray,s.size<=281474976710656->∀e,Lib.atoiAll s.data.toList=e->(∀v,e≠ .ok v)->e≠ .range->∀d p w,w.var? P "strconv.ErrSyntax" =some #[.iface d p]->Calls P f #[.string s] w fun e w'=>∃N,e=.returned (.tuple #[.int .i64 0,.iface a (.pointer (some ⟨N,0,none⟩))])/\w.heap.size<=N/\w'.heap[N]? =some (.cells #[.string nm,.string s,.iface d p] c (0,0))/\Below w.heap.size w w')
    (q:∀s:ByteArray,s.size<=281474976710656->Lib.atoiAll s.data.toList=.range->∀d p w,w.var? P "strconv.ErrRange" =some #[.iface d p]->Calls P f #[.string s] w fun e w'=>∃N,e=.returned (.tuple #[.int .i64 (Lib.atoiSat s.data.toList),.iface a (.pointer (some ⟨N,0,none⟩))])/\w.heap.size<=N/\w'.heap[N]? =some (.cells #[.string nm,.string s,.iface d p] c (0,0))/\Below w.heap.size w w')
    (k:qj P g w0) {s:Str} {r:Int×Bool} (b:GA s=some r):Calls P f #[bB s] w0 (fun e w'=>Grow w0 w'/\∃u,e=.returned (.tuple #[.int .i64 r.1,u])/\IsErr u r.2):=by
  obtain⟨h,b⟩:=bC b;have o:=uC s;cases hq:Lib.atoiAll s with
  |ok v=>
    rw[hq]at b;cases b;refine(n ⟨s.toArray⟩ V v (by simpa using hq) w0).mono ?_;rintro e w'⟨rfl,l⟩;refine⟨?_,_,Z,.inl ⟨Z,Z⟩⟩;rcases l with rfl|⟨t,rfl⟩
    · exact bH.refl _ _
    · exact bw_grow _ _ _
  |range=>
    rw[hq]at b;cases b;obtain⟨t,p,j⟩:=k.ran;refine(q ⟨s.toArray⟩ V (by simpa using hq) t p w0 j).mono ?_;rintro e w'⟨N,rfl,_,_,i⟩;refine⟨Grow.of_below i,.iface a<|.pointer<|some ⟨N,0,none⟩,by simp,.inr ⟨Z,_,_,Z⟩⟩
  |_=>
    rw[hq]at b;cases b;obtain⟨t,p,j⟩:=k.syn;refine(m ⟨s.toArray⟩ V _ (by simpa using hq) (fun v=>by simp) zq3 t p w0 j).mono ?_;rintro e w'⟨N,rfl,_,_,i⟩;exact⟨Grow.of_below i,_,Z,.inr ⟨Z,_,_,Z⟩⟩
theorem rdStr_at{A B:BS}{a:Option Addr}{n c:Nat}{l:List Str}(t:ed sH w0 B A (.slice a n c) l)(q:0<l.length):∃f o,a=some ⟨f,o,none⟩/\f<w0.heap.size/\∀j x,l[j]? =some x->w0.cell? ⟨f,o+j,none⟩=some (bB x):=by
  obtain⟨a',cap,g,C,y,G,i⟩:=t;cases g;obtain⟨b,o,cells,E,w,rfl,_,r,_⟩:=i 0 q;refine⟨b,o,Z,iB r,fun j x u=>?_⟩;obtain⟨h,e⟩:=List.getElem?_eq_some_iff.1 u;obtain⟨b',z,d,I,m,g,_,v,p⟩:=i j h;cases g;have k:List.take 1 (List.drop (o+j*1) d.toList)=[bB l[j]]:=p;rw[Nat.mul_one]at k;have s:d.toList[o+j]? =some (bB l[j]):=by
    have:=congrArg (·[0]?) k;simpa[List.getElem?_take,List.getElem?_drop]using this
  rw[<-e];simpa[World.cell?,v]using s
theorem join_w(t:∀(a:Option Addr) (c:Nat) (b:ByteArray) (w:World),Calls P f #[.slice a 0 c,.string b] w fun e w'=>e=.returned (.string ⟨#[]⟩)/\w'=w)
    (u:∀(d o c:Nat) (xs:List ByteArray) (b:ByteArray) (w:World),(∀(j:Nat) x,xs[j]? =some x->w.cell? ⟨d,o+j,none⟩=some (.string x))->d<w.heap.size->xs.length<=140737488355328->xs.length<=c->(Lib.join (xs.map (·.data.toList)) b.data.toList).length<=140737488355328->
      Calls P f #[.slice (some ⟨d,o,none⟩) xs.length c,.string b] w fun e w'=>e=.returned (.string ⟨(Lib.join (xs.map (·.data.toList)) b.data.toList).toArray⟩)/\Below w.heap.size w w')
    {v:Value} {A B:BS} {l:List Str} {b r:Str} (n:ed sH w0 B A v l) (i:U6 l b=some r):Calls P f #[v,bB b] w0 (fun e w'=>Grow w0 w'/\e=.returned (bB r)):=by
  obtain⟨h,i⟩:=bC i;cases i;have k:=n;obtain⟨a,cap,rfl,k1,k2,C,E⟩:=n;cases l with
  |nil=>
    refine(t a cap _ w0).mono ?_;rintro e w'⟨rfl,rfl⟩;exact⟨bH.refl _ _,Z⟩
  |cons x l=>
    obtain⟨d,o,rfl,z,q⟩:=rdStr_at k zq3;have m:((x::l).map fun s=>(⟨s.toArray⟩:ByteArray)).map (·.data.toList)=x::l:=by simp[Function.comp_def]
    have:=u d o cap ((x::l).map fun s=>⟨s.toArray⟩) ⟨b.toArray⟩ w0 (fun j y g=>by
      rw[List.getElem?_map]at g;cases hq:(x::l)[j]? with
      |none=>rw[hq]at g;cases g
      |some s=>rw[hq]at g;cases g;exact q j s hq) z (by simpa using h.1) (by simpa using k1) (by rw[m];simpa using h.2)
    rw[m,List.length_map]at this;refine this.mono ?_;rintro e w'⟨rfl,p⟩;exact⟨Grow.of_below p,by simp[bB]⟩
theorem strs_rd{E:TypeId}{l:List ByteArray}{A:BS}{cells:Array Value}{cap:Nat}(w:World)(i:∀b,A b->b<w.heap.size)(d:l.length<=cap)(m:cap<=maxLen)(a:∀j (h:j<l.length),cells[j]? =some (.string l[j])):cz sH (w.alloc (.cells cells E)) A (.slice (some ⟨w.heap.size,0,none⟩) l.length cap) (l.map (·.data.toList)):=by
  refine⟨some ⟨w.heap.size,0,none⟩,cap,by simp,by simpa using d,m,(fun h=>by cases h),fun j k=>⟨w.heap.size,0,cells,E,(0,0),Z,?_,MH w _,?_⟩⟩
  · intro g;exact Nat.lt_irrefl _ (i _ g)
  · have e:j<l.length:=by simpa using k
    show List.take 1 (List.drop (0+j*1) cells.toList)=_;have f:=a j e;have c:j<cells.toList.length:=by
      rw[Array.length_toList];rcases Nat.lt_or_ge j cells.size with q|q
      · exact q
      · rw[Array.getElem?_eq_none q]at f;cases f
    rw[Nat.zero_add,Nat.mul_one,List.drop_eq_getElem_cons c];have:cells.toList[j]=.string l[j]:=by
      have:=f;rw[<-Array.getElem?_toList,List.getElem?_eq_getElem c]at this;exact Option.some.inj this
    rw[this];simp[bB]
theorem split_w{E:TypeId}(n:∀(s a:ByteArray) (m:Int) (w:World),s.size<4294967281->w.cell? ⟨g,0,none⟩=some (.int .i64 m)->1<=a.size->
  Calls P f #[.string s,.string a] w fun e w'=>e=.returned (.slice (some ⟨w.heap.size,0,none⟩) (Lib.countB s a+1) (Lib.countB s a+1))/\w'=w.alloc (.cells ((Lib.splitB a 0 (Lib.countB s a) s).map Value.string).toArray E))
  (i:∀b,M b->b<w0.heap.size) (q:qj P g w0) {s a:Str} {r:List Str} (c:NV s a=some r):Calls P f #[bB s,bB a] w0 (fun e w'=>Grow w0 w'/\∃u,e=.returned u/\cz sH w' M u r):=by
 obtain⟨h,c⟩:=bC c;cases c;obtain⟨m,o⟩:=q.max;refine(n ⟨s.toArray⟩ ⟨a.toArray⟩ m w0 (by rw[uC];exact h.1) o (by rw[uC];exact h.2)).mono ?_;rintro e w'⟨rfl,rfl⟩;refine⟨Grow.alloc _ _,_,Z,?_⟩;have d:=Lib.splitB_all ⟨a.toArray⟩ (by rw[uC];exact h.2) 0 _ ⟨s.toArray⟩ Z;have p:=Lib.splitB_data ⟨a.toArray⟩ 0 (Lib.countB ⟨s.toArray⟩ ⟨a.toArray⟩) ⟨s.toArray⟩;have t:Lib.countB ⟨s.toArray⟩ ⟨a.toArray⟩=Lib.count s a:=by simp[Lib.countB]
 have k:=Lib.countB_le ⟨a.toArray⟩ (by rw[uC];exact h.2) _ ⟨s.toArray⟩ (Nat.le_refl _);rw[uC]at k;have:=strs_rd (E:=E) (l:=Lib.splitB ⟨a.toArray⟩ 0 (Lib.countB ⟨s.toArray⟩ ⟨a.toArray⟩) ⟨s.toArray⟩) (cap:=Lib.countB ⟨s.toArray⟩ ⟨a.toArray⟩+1) (cells:=((Lib.splitB ⟨a.toArray⟩ 0 (Lib.countB ⟨s.toArray⟩ ⟨a.toArray⟩) ⟨s.toArray⟩).map Value.string).toArray) w0 i (by rw[d];exact Nat.le_refl _) (by unfold maxLen;omega) (fun j v=>by simp[v]);rw[d,p]at this;simpa[Lib.split,t]using this
theorem cut_w(c:∀(s a:ByteArray) (m:Int) (w:World),s.size<4294967281->w.cell? ⟨g,0,none⟩=some (.int .i64 m)->Calls P f #[.string s,.string a] w fun e w'=>e=.returned (.tuple #[.string ⟨(Lib.cut s.data.toList a.data.toList).1.toArray⟩,.string ⟨(Lib.cut s.data.toList a.data.toList).2.1.toArray⟩,.bool (Lib.cut s.data.toList a.data.toList).2.2])/\∃n,w'=w.drewN n)
  (i:qj P g w0) {s a:Str} {r:Str×Str×Bool} (b:cutS s a=some r):Calls P f #[bB s,bB a] w0 (fun e w'=>Grow w0 w'/\e=.returned (.tuple #[bB r.1,bB r.2.1,.bool r.2.2])):=by
 obtain⟨h,b⟩:=bC b;cases b;obtain⟨m,d⟩:=i.max;refine(c ⟨s.toArray⟩ ⟨a.toArray⟩ m w0 (by rw[uC];exact h) d).mono ?_;rintro e w'⟨rfl,n,rfl⟩;exact⟨Grow.drewN _ _,by simp[bB]⟩
end
open Go.RowKit
section
variable{P:Program}{ops:Array Oper}{Q:Exit->Act->World->Prop}{n:Nat}{env:Nat->Value}{w w' w0:World}{M K:BS}{hp:Nat->Chunk}{rest:List Oper}
 {d:Option Nat} {op:Op} {ty:TypeId} {pos:String} {af:Array Edge} {v:Value} {g:Option (Nat×Bool)} {T:TypeId} {ρ:Operand->Value} {x y:Operand} {i fuel:Nat} {listed:Array Bool}
theorem SH.lN{c:Chunk}(h:SH w0 M K w hp)(i:Nat)(e:hp i=c)(d:bH c.own' w w'):SH w0 M K w' (bV hp i .no):=
 h.step i d (fun b a _=>by rw[e];exact a) (fun b a=>a.elim) U
theorem SH.Fw{c e:Chunk}(h:SH w0 M K w hp)(i j:Nat)(a:i≠j)(g:hp i=c)(d:hp j=e)(f:bH (fun b=>c.own' b\/e.own' b) w w'):SH w0 M K w' (bV (bV (bV hp j .no) i (.two (hp i) (hp j))) i .no):=by
 refine(h.pair i j a).lN i (c:=.two (hp i)<|hp j) (dh _ _ _) ?_;rw[g,d];exact f
theorem jD{zs:List Value}(h:SH w0 M K w hp)(i:Nat)(a:vv P T zs)(k:∀w' b,SH w0 M K w' (bV hp i (.blk b zs))->Grow w w'->w.heap.size<=b->WL P ops Q rest n (gm env d (.pointer (some ⟨b,0,none⟩))) w'):WL P ops Q (⟨d,.alloc T,ty,pos,af,none⟩::rest) n env w:=
 F (r_allocN a) (k _ _ (h.newB i zs T) (Grow.alloc _ _) (Nat.le_refl _))
theorem eU{z:Value}{b o:Nat}{cs:List Value}(h:SH w0 M K w hp)(i:Nat)(a:List Value)(e:hp i=.blk b cs)(l:One P T z)(f:ev n env x=.pointer (some ⟨b,o,none⟩))(q:ev n env y=v)(ho:cs.set o v=a)(c:Nat.blt o cs.length=true)(p:v.oneCell'=true)
  (k:∀w',SH w0 M K w' (bV hp i (.blk b a))->bH (fun x=>x=b) w w'->WL P ops Q rest n (gm env d undef) w'):
  WL P ops Q (⟨d,.store T x y,ty,pos,af,none⟩::rest) n env w:=by
 obtain⟨E,m⟩:=h.yM i e;have:=h.putB i e a E;subst ho;have j:=PN (d:=d) (ty:=ty) (pos:=pos) (af:=af) (g:=none) l f m (by rw[Nat.blt_eq]at c;simpa using c) q p;refine zx j<|k _ ?_<|bH.uW _ _ _;simpa using this
theorem jZ{zs vs:List Value}{b o:Nat}{cs:List Value}(h:SH w0 M K w hp)(i:Nat)(a:List Value)(e:hp i=.blk b cs)(j:vv P T zs)(g:ev n env x=.pointer (some ⟨b,o,none⟩))(p:ev n env y=.agg vs.toArray)(f:vs.length=zs.length)(ho:Jr cs o vs=a)(l:Nat.ble (o+vs.length) cs.length=true)(m:∀v∈vs,v.oneCell'=true)
  (k:∀w',SH w0 M K w' (bV hp i (.blk b a))->bH (fun x=>x=b) w w'->WL P ops Q rest n (gm env d undef) w'):
  WL P ops Q (⟨d,.store T x y,ty,pos,af,none⟩::rest) n env w:=by
 obtain⟨E,c⟩:=h.yM i e;subst ho;exact zx (PO j g c p f (Nat.le_of_ble_eq_true l) m)<|k _ (h.putB i e _ E)<|bH.uW _ _ _
theorem mh{α:Type}{R:kL α}{E:TypeId}{p c:Nat}{u:Value}{l m:List α}(h:SH w0 M K w hp)(i:Nat)(f:hp i=.own R E v l)(G:ed R w BE (SH.A M hp) u m)(t:jY P T E p c)(q:R.sz=p)(C:ev n env x=v)(I:ev n env y=u)
    (a:(l.length+m.length)*c<=140737488355328) (r:l.length+m.length<=9223372036854775807)
    (k:∀w' e,SH w0 M K w' (bV hp i (.own R E e (l++m)))->bH (ob v) w w'->(∀b,ob e b->b<w.heap.size->ob v b)->WL P ops Q rest n (gm env d e) w'):
    WL P ops Q (⟨d,.call {callee:=.builtin .append,args:= #[x,y],argTypes:= #[T,T]},ty,pos,af,none⟩::rest) n env w:=by
  obtain⟨e,w',z,s,o,j⟩:=ZH (d:=d) (ty:=ty) (pos:=pos) (af:=af) (g:=none) t q C (h.bF i f) I G (fun b a=>.inr ⟨i,by rw[f];exact a⟩) a r;refine F z (k w' e (h.step i o (fun b a _=>by rw[f];exact a) (fun b a B=>by rw[f];exact j b a B) ?_) o j);refine cK.go s (bH.refl BE w') (fun _ h=>h.elim) (fun _ h=>h.elim) fun b a _=>?_;rcases a with a|a|a
  · exact .inl<|.inl a
  · exact .inl<|.inr<|kP a
  · exact .inr a
theorem UG{E u:TypeId}{l s:Str}(h:SH w0 M K w hp)(i:Nat)(c:hp i=.own fF E v l)(r:jY P T E 1 1)(j:One P E (.int .u8 0))(o:P.underlying u=some .string)(m:ev n env x=v)(A:ev n env y=bB s)
  (t:(l.length+s.length)*1<=140737488355328) (p:l.length+s.length<=9223372036854775807)
  (k:∀w' a,SH w0 M K w' (bV hp i (.own fF E a (l++s)))->bH (ob v) w w'->(∀b,ob a b->b<w.heap.size->ob v b)->WL P ops Q rest n (gm env d a) w'):
  WL P ops Q (⟨d,.call {callee:=.builtin .append,args:= #[x,y],argTypes:= #[T,u]},ty,pos,af,none⟩::rest) n env w:=by
 obtain⟨a,w',z,q,f,e⟩:=run_appS (d:=d) (ty:=ty) (pos:=pos) (af:=af) (g:=none) r j o m (h.giveO i c) A t p;exact F z<|k w' a (h.given i c q f e) f e
theorem fK{f:Func}{R:Ending->World->Prop}{u a:Tmp}{T:TypeId}{v2:Value}{zs vs:List Value}{b:Nat}(j:f.results= #[.cell a T,.tmp u])(g:ev n env (.tmp a)=.pointer (some ⟨b,0,none⟩))(m:ev n env (.tmp u)=v2)
  (o:SH w0 M K w hp) (i:Nat) (l:hp i=.blk b vs) (p:vv P T zs) (k:vs.length=zs.length) (h:R (.returned (.tuple #[.agg vs.toArray,v2])) w):bodyPost P f R .ret (act n env) w:=by
 refine⟨Z,_,?_,h⟩;have d:=congrFun (gD n env)<|.tmp u;have c:=congrFun (gD n env)<|.tmp a;rw[m]at d;rw[g]at c;simp only[Act.eval]at d c;rw[Array.getD_eq_getD_getElem?]at d c;have e:=AU (P:=P) o l p k Z;unfold results;rw[j];simp[d,c,asAddr,e]
theorem PX{g:Func}{R:Ending->World->Prop}{t u a:Tmp}{T:TypeId}{v2 v3:Value}{zs vs:List Value}{b:Nat}(o:g.results= #[.cell a T,.tmp t,.tmp u])(j:ev n env (.tmp a)=.pointer (some ⟨b,0,none⟩))(p:ev n env (.tmp t)=v2)(k:ev n env (.tmp u)=v3)
  (l:SH w0 M K w hp) (i:Nat) (r:hp i=.blk b vs) (m:vv P T zs) (q:vs.length=zs.length) (h:R (.returned (.tuple #[.agg vs.toArray,v2,v3])) w):bodyPost P g R .ret (act n env) w:=by
 refine⟨Z,_,?_,h⟩;have d:=congrFun (gD n env)<|.tmp t;have e:=congrFun (gD n env)<|.tmp u;have c:=congrFun (gD n env)<|.tmp a;rw[p]at d;rw[k]at e;rw[j]at c;simp only[Act.eval]at d e c;rw[Array.getD_eq_getD_getElem?]at d e c;have f:=AU (P:=P) l r m q Z;unfold results;rw[o];simp[d,e,c,asAddr,f]
theorem fin3{e:Func}{R:Ending->World->Prop}{t u a:Tmp}{v1 v2 v3:Value}(g:e.results= #[.tmp t,.tmp u,.tmp a])(i:ev n env (.tmp t)=v1)(f:ev n env (.tmp u)=v2)(j:ev n env (.tmp a)=v3)(h:R (.returned (.tuple #[v1,v2,v3])) w):bodyPost P e R .ret (act n env) w:=by
 refine⟨Z,_,?_,h⟩;have c:=congrFun (gD n env)<|.tmp t;have d:=congrFun (gD n env)<|.tmp u;have b:=congrFun (gD n env)<|.tmp a;rw[i]at c;rw[f]at d;rw[j]at b;simp only[Act.eval]at c d b;rw[Array.getD_eq_getD_getElem?]at c d b;unfold results;rw[g];simp[c,d,b]
theorem At.grow{b o:Nat}{cs:List Value}(h:At w b o cs)(e:Grow w w'):At w' b o cs:=by
 obtain⟨cells,E,a,d,c⟩:=h;exact⟨cells,E,a,e.blk d,c⟩
theorem wC{ws w:World}{v u:Value}(d:ws.heap.size<=w.heap.size)(e:∀b,ob v b->ws.heap.size<=b)(hn:∀b,ob u b->b<w.heap.size->ob v b):∀b,ob u b->ws.heap.size<=b:=
 fun b c=>Nat.le_of_not_lt fun a=>Nat.not_lt_of_le (e b (hn b c (Nat.lt_of_lt_of_le a d))) a
def EffOk(P:Program)(ops:Array Oper)(Q1:Nat->Exit->Act->World->Prop)(n:Nat)(env:Nat->Value)(w:World)(i:Nat):Prop:=
 ∃d op ty pos af g,ops[i]? =some ⟨d,op,ty,pos,af,g⟩/\Region.wanted ⟨d,op,ty,pos,af,g⟩ (yielded ops (act n env).tmps)=true/\WL P ops (Q1 i) [⟨d,op,ty,pos,af,none⟩] n env w
theorem Rl{Q1:Nat->Exit->Act->World->Prop}(i:Nat)(b:ops[i]? =some ⟨d,op,ty,pos,af,g⟩)(a:Region.wanted ⟨d,op,ty,pos,af,g⟩ (yielded ops (act n env).tmps)=true)(h:WL P ops (Q1 i) [⟨d,op,ty,pos,af,none⟩] n env w):EffOk P ops Q1 n env w i:=⟨_,_,_,_,_,_,b,a,h⟩
def EffAll(P:Program)(ops:Array Oper)(Q1:Nat->Exit->Act->World->Prop)(n:Nat)(env:Nat->Value)(w:World):List Nat->Prop
 |[]=>True
 |i::r=>EffOk P ops Q1 n env w i/\EffAll P ops Q1 n env w r
theorem U7{Q1:Nat->Exit->Act->World->Prop}:∀{l:List Nat},EffAll P ops Q1 n env w l->∀k∈l,EffOk P ops Q1 n env w k
  |i::r,⟨h1,h2⟩,k,hk=>by
    rcases List.mem_cons.1 hk with rfl|hk
    · exact h1
    · exact U7 h2 k hk
theorem whk_effs{L:BS}{ws:World}(l:List Nat)(b:Region.ready .any ops listed=l)(c:l≠[])
  (h:EffAll P ops (fun i=>Rh P ops L ws Q fuel (listed.setIfInBounds i true)) n env w l):UF P ops L ws Q (fuel+1) listed n env w:=by
 refine⟨wpAnyH_all b c fun k j=>?_⟩;obtain⟨d,op,ty,pos,af,g,e,a,f⟩:=U7 h k j;exact Fv e a f
end
open Go.RowKit Go.ChangeShapes
theorem opens_byte{P:Program}{T:TypeId}(g:P.underlying T=some (.int .u8)):xm P T fF:=by
 intro a enc w c d fuel cs x h;obtain⟨n,rfl,_,b⟩:=DataW.trod_int g h;simp only[Lit.wf,Bool.and_eq_true,decide_eq_true_eq]at b;have f:0<=n:=b.1;have i:n<=255:=b.2;refine⟨UInt8.ofNat n.toNat,?_⟩;show [Value.int .u8 n]=[.int .u8 ((UInt8.ofNat n.toNat).toNat:Int)];have:(UInt8.ofNat n.toNat).toNat=n.toNat:=by
  have e:n.toNat%256=n.toNat:=Nat.mod_eq_of_lt V;simpa[UInt8.toNat_ofNat']using e
 rw[this,Int.toNat_of_nonneg f]
theorem ZO{b:Type}{enc:TypeId×Value->b}{a:Assume}{C:Checked}{os:Os}{f:FuncId}{n:Func}{s:ChangeSpec}{l:List PathCond}{d fresh k again:Bool}{X:World->Array Value->Prop}
  (N:∀(w w':World) (args:Array Value),w.heap=w'.heap->X w args->X w' args)
  (own:ownKnob C.prog.godebug=none) (o:os.Started) (q:C.prog.inits.idxOf? f=none) (I:C.prog.funcs[f]? =some n)
  (p:∃(w:World) (g:Tape) (i:Input),w.os=os/\(w.forCall g i).Shaped C.prog/\i.vars=[]/\Input.okWide C.prog (w.forCall g i) .any w.heap.size f i/\
   ((s.pre enc C.prog n l d (w.forCall g i).memory i.args/\X (w.forCall g i).memory i.args)/\sizedMet enc C.prog n (OpenSpec.ofChange s) d (w.forCall g i).memory i.args)/\a.holds C.prog (lone (Frame.enter C.prog f i.args .normal) [] (w.forCall g i)))
  (m:∀(c:World) (r:Nat) (args:Array Value) (z A:List (DataW b)) (h:List MemPlace),
   (∀(j:Nat) t v,n.params[j]? =some t->args[j]? =some v->Value.okWide C.prog c .any r t v)->
   DataW.Whole enc C.prog n.params.toList s.vars d c args.toList z A h->
   l.all (PathCond.test C.prog ⟨n.params.toList,z,s.plain.varTypes C.prog,A⟩)=true->X c args->c.ShapedOpen C.prog->
   Calls C.prog f args c fun e K=>∃v,e=.returned v/\s.post enc C.prog n d fresh k again c args v K):
  ReturnsInHanded a C os f .any (fun w args=>(s.pre enc C.prog n l d w args/\X w args)/\sizedMet enc C.prog n (OpenSpec.ofChange s) d w args) (s.post enc C.prog n d fresh k again):=by
 refine returnsInHanded_of_calls own o q p ?_;intro w g i _ B _ E x _;obtain⟨_,_,_,J,y,_,_,_,_,u⟩:=E;have e:J=n:=Option.some.inj<|y.symm.trans I;subst e;obtain⟨⟨⟨z,A,h,O,P⟩,L⟩,_⟩:=x;have G:=DataW.Whole.of_heap (w':=w.forCall g i) (by rfl) O;refine(m (w.forCall g i) w.heap.size i.args z A h u G P (N _ _ _ (by rfl) L) B).mono fun e K⟨v,M,hp⟩=>?_;subst M;exact ChangeSpec.post_blind hp
def laidIn(w:World)(g:Nat)(a:Array Value):World:=
 {w with heap:=w.heap.modify g fun| .cells _ t fz=>.cells a t fz|o=>o}
def tabCells:DataW Unit->Array Value
 | .agg l=>(l.map fun| .lit (.int k z)=>Value.int k z|_=>Value.nilIface).toArray
 |_=> #[]
structure gN where
 safe:List UInt8
 wait:List UInt8
deriving DecidableEq
def rDisk:kL gN where
 sz:=2
 rd w A cs x:=∃Dv,∃Dw,cs=[Dv,Dw]/\cz fF w A Dv x.safe/\cz fF w A Dw x.wait
 len:=by rintro w A cs x ⟨Dv,Dw,rfl,h0,h1⟩;rfl
 one:=by rintro w A cs x ⟨Dv,Dw,rfl,h0,h1⟩ u hu;simp only[List.mem_cons,List.not_mem_nil,or_false]at hu;rcases hu with rfl|rfl<;>first|rfl|exact h0.one|exact h1.one
 pos:=by decide
 go:=by rintro w A cs x w2 A2 K ⟨Dv,Dw,rfl,h0,h1⟩ hk hK hA;exact⟨_,_,Z,h0.go hk hK hA,h1.go hk hK hA⟩
theorem rDisk_open{w:World}{A:BS}{cs:List Value}{x:gN}(h:rDisk.rd w A cs x):∃b,∃a,cs=[b,a]/\cz fF w A b x.safe/\cz fF w A a x.wait:=h
theorem puint_app(a:Nat)(c:UInt8):∀(l:Str),Lib.parseUint10 a (l++[c])=match Lib.parseUint10 a l with| .ok m=>Lib.parseUint10 m [c]|e=>e:=by
  intro l;induction l generalizing a with
  |nil=>simp[Lib.parseUint10]
  |cons b r ih=>
    simp only[List.cons_append,Lib.parseUint10];split
    · split
      · rfl
      · split
        · rfl
        · rw[ih];rfl
    · rfl
theorem ML{k:Nat}(h:k<10):(UInt8.ofNat (48+k)).toNat=48+k:=by
 have:(48+k)%256=48+k:=Nat.mod_eq_of_lt V;simpa[UInt8.toNat_ofNat']using this
theorem puint_dec:∀(u:Nat),u<18446744073709551616->Lib.parseUint10 0 (Lib.decDigits u)=.ok u:=by
  intro u;induction u using Nat.strongRecOn with
  |ind u ih=>
    intro b;rw[Lib.decDigits];split
    · rename_i h;simp only[Lib.parseUint10];rw[ML h,if_pos V,if_neg V,if_neg V];congr 1;omega
    · rename_i h;have a:u%10<10:=Nat.mod_lt _ zq1;rw[puint_app,ih (u / 10) V V];simp only[Lib.parseUint10];rw[ML a,if_pos V,if_neg V,if_neg V];congr 1;omega
theorem dec_head:∀(u:Nat),∃c r,Lib.decDigits u=c::r/\48<=c.toNat/\c.toNat<=57:=by
  intro u;induction u using Nat.strongRecOn with
  |ind u ih=>
    rw[Lib.decDigits];split
    · rename_i h;exact⟨_,[],Z,by rw[ML h];omega,by rw[ML h];omega⟩
    · rename_i h;obtain⟨c,r,a,d,b⟩:=ih (u / 10) V;exact⟨c,r++[UInt8.ofNat (48+u%10)],by rw[a];rfl,d,b⟩
theorem Yl:∀(u:Nat),∀c∈Lib.decDigits u,48<=c.toNat/\c.toNat<=57:=by
  intro u;induction u using Nat.strongRecOn with
  |ind u ih=>
    rw[Lib.decDigits];split
    · rename_i h;intro c a;simp only[List.mem_singleton]at a;subst a;rw[ML h];omega
    · rename_i h;have b:u%10<10:=Nat.mod_lt _ zq1;intro c a;rcases List.mem_append.1 a with a|a
      · exact ih (u / 10) V c a
      · simp only[List.mem_singleton]at a;subst a;rw[ML b];omega
theorem itoa_chars(n:Int):∀c∈Lib.itoa n,45<=c.toNat/\c.toNat<=57:=by
  intro c a;unfold Lib.itoa at a;split at a
  · rcases List.mem_cons.1 a with rfl|a
    · decide
    · have:=Yl _ c a;omega
  · have:=Yl _ c a;omega
theorem Ym{n:Int}{c:UInt8}(h:c.toNat<45):c∉Lib.itoa n:=fun a=>by have:=itoa_chars n c a;omega
theorem mag_dec{u:Nat}(h:u<18446744073709551616):Lib.parseMag (Lib.decDigits u)=.ok u:=by
 obtain⟨c,r,a,_,_⟩:=dec_head u;unfold Lib.parseMag;rw[if_neg (by rw[a];simp),puint_dec u h]
theorem atoi_itoa{n:Int}(h:ko n):Lib.atoiAll (Lib.itoa n)=.ok n:=by
  obtain⟨a,f⟩:=h;unfold Lib.itoa;split
  · rename_i hn;unfold Lib.atoiAll;simp only;rw[if_pos (.inr zq1),mag_dec V];simp only;rw[if_neg zq3,if_neg V];simp;omega
  · rename_i hn;obtain⟨c,r,e,b,d⟩:=dec_head n.toNat;rw[e];unfold Lib.atoiAll;simp only;rw[if_neg V,<-e,mag_dec V];simp only;rw[if_neg V,if_neg V,if_neg V];congr 1;omega
def numOf(w:Str):Option Int:=match Lib.atoiAll w with| .ok v=>if Lib.itoa v=w then some v else none|_=>none
theorem numOf_itoa{n:Int}(h:ko n):numOf (Lib.itoa n)=some n:=by simp[numOf,atoi_itoa h]
theorem numOf_some{w:Str}{n:Int}(h:numOf w=some n):w=Lib.itoa n/\ko n:=by
  unfold numOf at h;cases e:Lib.atoiAll w with
  |ok v=>
    rw[e]at h;simp only at h;split at h
    · rename_i a;cases h;have:=Lib.atoiAll_bounds e;exact⟨a.symm,this⟩
    · cases h
  |_=>rw[e]at h;cases h
theorem itoa_len{n:Int}(h:ko n):(Lib.itoa n).length<=21:=Lib.itoa_length_le n h.1 h.2
def jr(c:UInt8):Str->List Str
 |[]=>[[]]
 |b::r=>if b=c then []::jr c r else match jr c r with|x::xs=>(b::x)::xs|[]=>[[b]]
theorem E8(c:UInt8):∀(s:Str),jr c s≠[]
  |[]=>by simp[jr]
  |b::r=>by
    unfold jr;split
    · simp
    · split<;>simp
theorem KT{c:UInt8}:∀{x:Str},c∉x->jr c x=[x]
 |[],_=>rfl
 |b::r,h=>by
  have a:¬b=c:=fun e=>h (by rw[e];exact List.mem_cons_self);rw[jr,if_neg a,KT (x:=r) (fun e=>h (List.mem_cons_of_mem _ e))]
theorem zQ{c:UInt8}{r:Str}:∀{x:Str},c∉x->jr c (x++c::r)=x::jr c r
 |[],_=>by simp[jr]
 |b::x,h=>by
  have a:¬b=c:=fun e=>h (by rw[e];exact List.mem_cons_self);rw[List.cons_append,jr,if_neg a,zQ (x:=x) (fun e=>h (List.mem_cons_of_mem _ e))]
theorem idx1(c:UInt8):∀(s:Str),(Lib.index s [c]= -1/\c∉s)\/∃x r,s=x++c::r/\c∉x/\Lib.index s [c]=x.length
  |[]=>by left;exact⟨by simp[Lib.index],by simp⟩
  |b::l=>by
    by_cases h:b=c
    · subst h;right;exact⟨[],l,Z,by simp,by simp[Lib.index,List.isPrefixOf]⟩
    · have a:¬c=b:=fun e=>h e.symm;have hp:List.isPrefixOf [c] (b::l)=false:=by simp[List.isPrefixOf,a]
      rcases idx1 c l with⟨h1,h2⟩|⟨x,r,h1,h2,h3⟩
      · left;refine⟨by rw[Lib.index,hp,h1];simp,?_⟩;simp[h2,a]
      · right;refine⟨b::x,r,by rw[h1];rfl,by simp[h2,a],?_⟩;have:¬(Lib.index l [c]== -1)=true:=by rw[h3];simp
        rw[Lib.index,hp,if_neg zq3,if_neg this,h3];simp
theorem splitK_C(c:UInt8):∀(k:Nat) (s:Str),Lib.count s [c]=k->Lib.splitK [c] 0 k s=jr c s:=by
  intro k;induction k with
  |zero=>
    intro s a;rcases idx1 c s with⟨h1,h2⟩|⟨x,r,h1,h2,h3⟩
    · rw[KT h2];rfl
    · rw[Lib.count_hit zq3 h3]at a;omega
  |succ k ih=>
    intro s a;rcases idx1 c s with⟨h1,h2⟩|⟨x,r,h1,h2,h3⟩
    · rw[Lib.count_miss h1]at a;omega
    · have b:¬(Lib.index s [c]== -1)=true:=by rw[h3];simp
      rw[Lib.count_hit zq3 h3]at a;have d:s.drop (x.length+[c].length)=r:=by rw[h1];simp
      rw[Lib.splitK,if_neg b,h3];simp only[Int.toNat_natCast,Nat.add_zero];rw[d]at a⊢;rw[ih r V,h1,zQ h2,List.take_left]
theorem split_C(c:UInt8)(s:Str):Lib.split s [c]=jr c s:=splitK_C c _ s Z
def uD(c:UInt8)(l:List Str):Str:=Lib.join l [c]
theorem Ad(c:UInt8)(x:Str):uD c [x]=x:=Lib.join_one x [c]
theorem xu(c:UInt8)(x y:Str)(l:List Str):uD c (x::y::l)=x++c::uD c (y::l):=by
 unfold uD;rw[Lib.join_cons,Lib.join_cons];simp[Lib.joinTail]
theorem Ae(c:UInt8):∀(s:Str),uD c (jr c s)=s
  |[]=>Ad c []
  |b::r=>by
    have a:=Ae c r;unfold jr;split
    · rename_i h;subst h;cases e:jr b r with
      |nil=>exact absurd e (E8 b r)
      |cons y l=>rw[xu,<-e,a];rfl
    · split
      · rename_i x xs e;rw[e]at a;cases xs with
        |nil=>rw[Ad]at a⊢;rw[a]
        |cons y l=>rw[xu]at a⊢;rw[List.cons_append,a]
      · rename_i e;exact absurd e<|E8 c r
theorem TV(c:UInt8):∀(l:List Str),l≠[]->(∀x∈l,c∉x)->jr c (uD c l)=l
 |[],h,_=>absurd Z h
 |[x],_,h=>by rw[Ad];exact KT (h x zq3)
 |x::y::l,_,h=>by
  rw[xu,zQ (h x zq3),TV c (y::l) zq3 (fun z a=>h z (List.mem_cons_of_mem _ a))]
theorem JA(c:UInt8):∀(s:Str),(jr c s).length<=s.length+1
  |[]=>by simp[jr]
  |b::r=>by
    have a:=JA c r;unfold jr;split
    · simp;omega
    · split
      · rename_i x xs e;rw[e]at a;simp at a⊢;omega
      · simp
theorem Cv(c:UInt8):∀(s x:Str),x∈jr c s->x.length<=s.length/\c∉x
  |[],x,h=>by simp[jr]at h;subst h;simp
  |b::r,x,h=>by
    unfold jr at h;split at h
    · rcases List.mem_cons.1 h with rfl|h
      · simp
      · have:=Cv c r x h;exact⟨by simp;omega,this.2⟩
    · rename_i d;split at h
      · rename_i y f e;rcases List.mem_cons.1 h with rfl|h
        · have:=Cv c r y (by rw[e];exact List.mem_cons_self);refine⟨by simp;exact this.1,?_⟩;intro a;rcases List.mem_cons.1 a with a|a
          · exact d a.symm
          · exact this.2 a
        · have:=Cv c r x (by rw[e];exact List.mem_cons_of_mem _ h);exact⟨by simp;omega,this.2⟩
      · rename_i e;exact absurd e<|E8 c r
theorem Rm(c:UInt8)(m:Nat):∀(l:List Str),(∀x∈l,x.length<=m)->(uD c l).length<=l.length*(m+1)
 |[],_=>by simp[uD,Lib.join_nil]
 |[x],h=>by rw[Ad];have:=h x zq3;simp;omega
 |x::y::l,h=>by
  have b:=h x zq3;have d:=Rm c m (y::l) fun z a=>h z<|List.mem_cons_of_mem _ a;rw[xu,List.length_append,List.length_cons,List.length_cons,Nat.succ_mul];omega
def TW(c:UInt8)(s:Str):Option (List Int):=(jr c s).mapM numOf
theorem mapM_num_of{l:List Int}(h:∀x∈l,ko x):(l.map Lib.itoa).mapM numOf=some l:=by
 induction l with
 |nil=>rfl
 |cons x l ih=>
  rw[List.map_cons,List.mapM_cons,numOf_itoa (h x zq3),ih (fun y a=>h y (List.mem_cons_of_mem _ a))];rfl
theorem G9:∀{w:List Str} {l:List Int},w.mapM numOf=some l->w=l.map Lib.itoa/\∀x∈l,ko x
  |[],l,h=>by cases h;exact⟨Z,by simp⟩
  |x::w,l,h=>by
    rw[List.mapM_cons]at h;cases e:numOf x with
    |none=>rw[e]at h;cases h
    |some v=>
      rw[e]at h;cases e2:w.mapM numOf with
      |none=>rw[e2]at h;cases h
      |some m=>
        rw[e2]at h;cases h;obtain⟨b,f⟩:=G9 e2;obtain⟨c,d⟩:=numOf_some e;refine⟨by rw[List.map_cons,<-b,<-c],?_⟩;intro y a;rcases List.mem_cons.1 a with rfl|a
        · exact d
        · exact f y a
theorem nums_join{c:UInt8}(a:c.toNat<45){l:List Int}(b:l≠[])(h:∀x∈l,ko x):TW c (uD c (l.map Lib.itoa))=some l:=by
 unfold TW;rw[TV c _ (by simpa using b) (by intro x d;obtain⟨y,_,rfl⟩:=List.mem_map.1 d;exact Ym a)];exact mapM_num_of h
theorem join_nums{c:UInt8}{s:Str}{l:List Int}(h:TW c s=some l):s=uD c (l.map Lib.itoa)/\(∀x∈l,ko x)/\l≠[]:=by
 obtain⟨a,b⟩:=G9 h;refine⟨by rw[<-a,Ae],b,?_⟩;rintro rfl;exact E8 c s a
theorem U8{n:Int}(h:ko n):KS n=some (Lib.itoa n):=by unfold KS;rw[mG h]
theorem atoiS_eq{w:Str}(h:w.length<=281474976710656):GA w=some (match Lib.atoiAll w with| .ok v=>(v,false)| .range=>(Lib.atoiSat w,true)|_=>(0,true)):=by unfold GA;rw[mG h];all_goals (cases Lib.atoiAll w<;>rfl)
theorem parseS_eq{w:Str}(h:w.length<=281474976710656):parseS w=some (match Lib.atoiAll w with| .ok v=>(v,false)| .range=>(Lib.intSat 64 w,true)|_=>(0,true)):=by unfold parseS;rw[mG h,Lib.parseIntB_64];all_goals (cases Lib.atoiAll w<;>rfl)
theorem splitS_eq{s:Str}(c:UInt8)(h:s.length<4294967281):NV s [c]=some (jr c s):=by unfold NV;rw[mG ⟨h,Nat.le_refl _⟩,split_C]
theorem joinS_eq{l:List Str}(c:UInt8)(h:l.length<=140737488355328)(a:(uD c l).length<=140737488355328):U6 l [c]=some (uD c l):=by unfold U6;rw[mG ⟨h,a⟩];rfl
end Go.LX