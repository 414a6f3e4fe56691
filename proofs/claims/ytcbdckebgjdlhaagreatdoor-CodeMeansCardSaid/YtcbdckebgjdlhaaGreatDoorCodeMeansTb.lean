/-
  What the law CodeMeans needs of our own library and of the walks, no more.
-/
import Derived.KernelRfl
import Derived.Test.YtcbdckebgjdlhaaGreatDoorProg
import Derived.Lib.Slices
import Derived.Lib.Walk
import Derived.Shelf.Strings.OnBuilder
import Derived.Shelf.LaysM
import Derived.Shelf.Strconv.Itoa3
import Derived.Shelf.LaysC
import Derived.Shelf.Strconv.AtoiAll
import Derived.Shelf.Strconv.ErrVarAll
import Derived.Shelf.Strings.Split
import Derived.Shelf.Strings.Fields
import Derived.Shelf.Strings.BuilderX
import Derived.Test.YtcbdckebgjdlhaaGreatDoorCodeMeansTa
set_option linter.unusedSimpArgs false
set_option linter.unusedVariables false
set_option maxRecDepth 10000
namespace Go.LX
open Go.RowKit Go.Proofs Go.MapKept
def QB(w:World)(b:Nat)(eD:List (Bool×Value)):Prop:=
 ∃c a,w.heap[b]? =some (.map c a)/\c.toList.map (fun e=>(e.key,e.val))=eD.map (fun p=>(Value.bool p.1,p.2))/\AL c a
def VZ(z:Value)(eD:List (Bool×Value))(k:Bool):Value:=match eD with|[]=>z|p::r=>if k=p.1 then p.2 else VZ z r k
def Mq(eD:List (Bool×Value))(k:Bool)(v:Value):List (Bool×Value):=match eD with|[]=>[(k,v)]|p::r=>if k=p.1 then(p.1,v)::r else p::Mq r k v
def EU(eD:List (Bool×Value))(k:Bool)(i:Nat):Option (Nat×Value):=match eD with|[]=>none|p::r=>if k=p.1 then some (i,p.2)else EU r k (i+1)
theorem Gt{eD:List (Bool×Value)}{k:Bool}:∀{a:List MapEntry} {i:Nat},a.map (fun e=>(e.key,e.val))=eD.map (fun p=>(Value.bool p.1,p.2))->
    Instr.findNow .bool (.bool k) a i=some (EU eD k i):=by
  induction eD with
  |nil=>intro a i h;cases a with|nil=>rfl|cons e r=>simp at h
  |cons p r ih=>
    intro a i h;cases a with
    |nil=>simp at h
    |cons e s=>
      simp only[List.map_cons,List.cons.injEq,Prod.mk.injEq]at h;obtain⟨⟨c,f⟩,d⟩:=h;unfold Instr.findNow EU;by_cases b:k=p.1
      · simp[Instr.sameNow,c,f,b]
      · have:(k==p.1)=false:=by simpa using b
        simp[Instr.sameNow,c,this,b,ih d]
theorem Pf{z:Value}{k:Bool}:∀{eD:List (Bool×Value)} {i:Nat},VZ z eD k=match EU eD k i with|some (_,v)=>v|none=>z
  |[],i=>rfl
  |p::r,i=>by
    unfold VZ EU;by_cases a:k=p.1
    · simp[a]
    · simp only[a,if_false];exact Pf
theorem Mr{k:Bool}{v:Value}:∀{eD:List (Bool×Value)} {i:Nat},EU eD k i=none->Mq eD k v=eD++[(k,v)]
  |[],i,_=>rfl
  |p::r,i,h=>by
    unfold EU at h;unfold Mq;by_cases a:k=p.1
    · simp[a]at h
    · simp only[a,if_false]at h⊢;rw[Mr h];rfl
theorem Ms{k:Bool}{v u:Value}:∀{eD:List (Bool×Value)} {i j:Nat},EU eD k i=some (j,u)->i<=j/\∃p,eD[j-i]? =some p/\p.1=k/\Mq eD k v=eD.set (j-i) (k,v)
  |[],i,j,h=>by cases h
  |p::r,i,j,h=>by
    unfold EU at h;unfold Mq;by_cases a:k=p.1
    · simp only[a,if_true,Option.some.injEq,Prod.mk.injEq]at h;obtain⟨rfl,_⟩:=h;refine⟨Nat.le_refl _,p,by simp,a.symm,?_⟩;simp[a]
    · simp only[a,if_false]at h⊢;obtain⟨e,q,c,b,d⟩:=Ms (v:=v) h;refine⟨by omega,q,?_,b,?_⟩
      · rw[show j-i=(j-(i+1))+1 by omega];simpa using c
      · rw[show j-i=(j-(i+1))+1 by omega,d];simp
structure Mt(P:Program)(T:TypeId)(z:Value):Prop where
  desc:∃K E,P.underlying T=some (.map K E)/\P.underlying K=some .bool/\(P.info? E).map (·.zero)=some (some z)
def mpB(b:Nat)(eD:List (Bool×Value)):Pce where
 own:=fun x=>x=b
 P w _:=QB w b eD
 lt:=by rintro w A x ⟨es,c,h,_⟩ rfl;exact iq h
 go:=by rintro w w' A A' K ⟨es,c,h1,h2,h3⟩ hk _ hKo _;exact⟨es,c,hk.blk h1 fun h=>hKo b h Z,h2,h3⟩
section
variable{P:Program}{ops:Array Oper}{Q:Exit->Act->World->Prop}{n:Nat}{env:Nat->Value}{w w' w0:World}{M K:BS}{hp:Nat->Chunk}{rest:List Oper}
 {d:Option Nat} {op:Op} {ty:TypeId} {pos:String} {af:Array Edge} {v:Value} {g:Option (Nat×Bool)} {T:TypeId} {ρ:Operand->Value}
theorem ZK{e:Bool}{K:TypeId}{k:Bool}(a:P.underlying K=some .bool):(Instr.checkKey e 10000 K (.bool k)).run P w=.ok () w:=
 run_checkKey a (by trivial) e 9999
theorem Xh{z:Value}{x y:Operand}{b:Nat}{k:Bool}{eD:List (Bool×Value)}(t:Mt P T z)(o:ρ x=.map (some b))(s:ρ y=.bool k)(h:QB w b eD):
  (execOp ρ ⟨d,.lookup T x y false,ty,pos,af,g⟩).run P w=.ok (.value (VZ z eD k)) w:=by
 obtain⟨K,E,u,j,f⟩:=t.desc;obtain⟨q,a,h,r,A⟩:=h;obtain⟨i,c,l⟩:∃i,P.info? E=some i/\i.zero=some z:=by
  cases c:P.info? E with
  |none=>simp[c]at f
  |some i=>simp[c]at f;exact⟨i,Z,f⟩
 have n:=Gt (k:=k) (i:=0) r;have v:(getObj b).run P w=.ok (.map q a) w:=by simp[getObj,Sem.run,h]
 rw[Pf (z:=z) (k:=k) (eD:=eD) (i:=0)];simp only[execOp,Instr.lookup,underlying,o,s];have m:=fun e=>ZK (P:=P) (w:=w) (e:=e) (K:=K) (k:=k) j;simp only[Sem.run_bind,run_program,Result.andThen_ok,u,Sem.run_pure,v,m,Instr.findKey,underlying,j,n];cases ha:EU eD k 0 with
 |none=>simp[zeroValue,typeInfo,c,l]
 |some p=>simp
theorem Ub{z:Value}{x y u:Operand}{b:Nat}{k:Bool}{eD:List (Bool×Value)}(hT:Mt P T z)(L:ev n env x=.map (some b))(N:ev n env y=.bool k)(hu:ev n env u=v)(c:QB w b eD)
    (h:∀w',bG (fun x=>x=b) w w'->QB w' b (Mq eD k v)->WL P ops Q rest n (fq env d undef) w'):
    WL P ops Q (⟨d,.insert T x y u,ty,pos,af,none⟩::rest) n env w:=by
  obtain⟨K,E,S,G,h3⟩:=hT.desc;obtain⟨f,a,c,m,M⟩:=c;have t:=Gt (k:=k) (i:=0) m;have X:(getObj b).run P w=.ok (.map f a) w:=by simp[getObj,Sem.run,c]
  have o:=iq c;have J:=fun e=>ZK (P:=P) (w:=w) (e:=e) (K:=K) (k:=k) G;have g:f.toList.length=eD.length:=by have:=congrArg List.length m;simpa using this
  cases ha:EU eD k 0 with
  |none=>
    refine uE (w':=qM w b<|.map (f.push {key:=.bool k,val:=v,born:=a})<|a+1) ?_<|h _ (bG.qM _ _ _) ⟨_,_,rE o,?_,M.push _ _⟩
    · rw[ha]at t;simp only[execOp,Instr.mapUpdate,underlying,L,N,hu];simp only[Sem.run_bind,run_program,Result.andThen_ok,S,Sem.run_pure,X,J,Instr.findKey,underlying,G,t,run_setObj_map _ c];rfl
    · rw[Mr ha];simp[m]
  |some p=>
    obtain⟨j,u0⟩:=p;obtain⟨_,q,A,I,hset⟩:=Ms (v:=v) ha;simp only[Nat.sub_zero]at A hset;have C:j<f.size:=by
      have r:j<eD.length:=by
        rcases Nat.lt_or_ge j eD.length with r|r
        · exact r
        · rw[List.getElem?_eq_none r]at A;cases A
      simpa[<-g]using r
    have s:f[j].key=.bool k:=by
      have O:=congrArg (fun l=>l[j]?) m;simp[A,C]at O;rw[O.1,I]
    refine uE (w':=qM w b<|.map (f.modify j fun e=>{e with key:=.bool k,val:=v}) a) ?_<|h _ (bG.qM _ _ _) ⟨_,_,rE o,?_,M.modify _ _ _⟩
    · rw[ha]at t;have B:(Instr.keyThatStays (.bool k)<|.bool k).run P w=.ok (.bool k) w:=by simp[Instr.keyThatStays,Instr.sameBits]
      simp only[execOp,Instr.mapUpdate,underlying,L,N,hu];simp only[Sem.run_bind,run_program,Result.andThen_ok,S,Sem.run_pure,X,J,Instr.findKey,underlying,G,t,Array.getElem?_eq_getElem C,Option.map_some,Option.getD_some,s,B,run_setObj_map _ c];rfl
    · rw[hset,List.map_set,<-m];apply List.ext_getElem?;intro i;simp only[List.getElem?_map,Array.getElem?_toList,Array.getElem?_modify,List.getElem?_set,List.length_map,Array.length_toList];by_cases R:j=i
      · subst R;simp[C]
      · simp[R]
theorem Uc(h:SH w0 M K w hp)(i:Nat)(k:∀w' b,SH w0 M K w' (bN hp i (.dn (mpB b [])))->WL P ops Q rest n (fq env d (.map (some b))) w'):WL P ops Q (⟨d,.makeMap T none,ty,pos,af,none⟩::rest) n env w:=
 F O4 (k _ _ (h.learn i (Grow.alloc _ _) (fun b a=>Nat.le_of_eq a.symm) ⟨#[],0,Cu _ _,rfl,by simp[AL]⟩))
theorem Pg{z:Value}{x y u:Operand}{b:Nat}{k:Bool}{eD oD:List (Bool×Value)}(h:SH w0 M K w hp)(i:Nat)(a:hp i=.dn (mpB b eD))(o:Mt P T z)(f:ev n env x=.map (some b))(m:ev n env y=.bool k)(p:ev n env u=v)(l:Mq eD k v=oD)
  (j:∀w',SH w0 M K w' (bN hp i (.dn (mpB b oD)))->WL P ops Q rest n (fq env d undef) w'):WL P ops Q (⟨d,.insert T x y u,ty,pos,af,none⟩::rest) n env w:=
 Ub o f m p (h.RV i a) fun w' g e=>j w' (h.BH (S':=mpB b oD) i a (l▸e) g (fun _ c _=>c))
theorem r_lkB{z:Value}{x y:Operand}{b:Nat}{k:Bool}{a e f c:Int}(h:SH w0 M K w hp)(i:Nat)(m:hp i=.dn (mpB b [(true,.agg #[.int .i64 a,.int .i64 e]),(false,.agg #[.int .i64 f,.int .i64 c])]))(l:Mt P T z)(n:ρ x=.map (some b))(j:ρ y=.bool k):
  (execOp ρ ⟨d,.lookup T x y false,ty,pos,af,g⟩).run P w=.ok (.value (.agg #[.int .i64 (bif k then a else f),.int .i64 (bif k then e else c)])) w:=by
 have:=Xh (d:=d) (ty:=ty) (pos:=pos) (af:=af) (g:=g) l n j<|h.RV i m;rw[this];cases k<;>rfl
theorem Xi(zs:List Value)(m q:Nat)(c:q<m):((madeCells zs.toArray (m*zs.length)).toList.drop (q*zs.length)).take zs.length=zs:=by
  apply List.ext_getElem?;intro i;rw[List.getElem?_take];split
  · rename_i a;rw[List.getElem?_drop];have b:q*zs.length+i<m*zs.length:=by
      have:=Nat.mul_le_mul_right zs.length (show q+1<=m from c);rw[Nat.succ_mul]at this;omega
    have d:(q*zs.length+i)%zs.length=i:=by rw[Nat.mul_comm,Nat.mul_add_mod];exact Nat.mod_eq_of_lt a
    simp[madeCells,b,d,a]
  · rename_i a;rw[List.getElem?_eq_none V]
theorem wK{α:Type}{R:jN α}{E:TypeId}{c l:Nat}{k:Int}{zs:List Value}{x y:Operand}{a:α}(h:SH w0 M K w hp)(i:Nat)(C:pR P T E l c)(hz:xc P E zs)(B:R.sz=l)(r:0<c)(hx:ev n env x=.int .i64 k)(N:ev n env y=.int .i64 k)
    (hk:0<=k/\k*c<=140737488355328) (hl:zs.length=l) (ha:∀w A,R.rd w A zs a)
    (L:∀w' u,SH w0 M K w' (bN hp i (.own R E u (List.replicate k.toNat a)))->Grow w w'->(∀b,ob u b->w.heap.size<=b)->WL P ops Q rest n (fq env d u) w'):
    WL P ops Q (⟨d,.makeSlice T x y,ty,pos,af,none⟩::rest) n env w:=by
  obtain⟨X,h1⟩:=hk;obtain⟨m,rfl⟩:=Int.eq_ofNat_of_zero_le X;obtain⟨j,z',G,a0,s,z,S⟩:=C.info;have g:=hz.info;rw[G]at g;simp only[Option.map_some,Option.some.injEq,Prod.mk.injEq]at g;have O:m<=m*c:=Nat.le_mul_of_pos_right _ r;have a1:m*c<=140737488355328:=by
    have:((m*c:Nat):Int)<=140737488355328:=by rw[Int.natCast_mul];exact h1
    omega
  obtain⟨w',J,ho,hg⟩:=run_make_full (P:=P) w 0 T E j _ l C.desc G g.1 s .i64 .i64 m (by rw[z,Nat.mul_comm];omega) (by unfold maxLen;omega) (Nat.zero_le _);have p:Grow w w':=(Ep (v:=.slice none 0 0) hg).weaken fun _ h _=>h.elim;have o:(execOp (ev n env) ⟨d,.makeSlice T x y,ty,pos,af,none⟩).run P w=.ok (.value<|.slice (some ⟨w.heap.size,0,none⟩) m m) w':=by
    simp only[execOp,Sem.run_bind,Sem.run_pure,Result.andThen_ok,hx,N,J]
  have f:∀b,ob (.slice (some ⟨w.heap.size,0,none⟩) m m) b->w.heap.size<=b:=fun b r=>by
    have:b=w.heap.size:=r;omega
  refine F o<|L w' _ (h.DD i p ⟨(madeCells zs.toArray<|m*l).toList,?_,?_⟩ f) p f
  · rw[B];rw[List.length_replicate];exact ho
  · intro q I;simp only[List.length_replicate]at I;have t:q<m:=I;have e:((madeCells zs.toArray<|m*l).toList.drop<|q*R.sz).take R.sz=zs:=by rw[B,<-hl];exact Xi zs m q t
    rw[e];simp only[List.getElem_replicate];exact ha _ _
end
open Go.RowKit Go.Proofs
section
variable{α β:Type}{N:Li α β}{R:jN β}{E Es T:TypeId}{w0 w w':World}{M K A:BS}{hp:Nat->Chunk}{u u':Value}{us:List Value}{L:List α}{s:List β}{x:α}{k:Nat}
theorem Ph{a:Type}{l:List a}{z:a}{i:Int}(b:i=(k:Int))(h:l[i.toNat]? =some z):l[k]? =some z:=by subst b;simpa using h
theorem at_pd{a:Type}{l:List a}{z:a}{i:Int}(b:i=(k:Int))(h:l[k]? =some z):l[i.toNat]? =some z:=by subst b;simpa using h
theorem ZL{i:Int}(a:i=(k:Int)):i.toNat=k:=by subst a;simp
theorem SH.RZ(h:SH w0 M K w hp)(j q m:Nat)(n:hp j=.dn (aY R Es (hge k) us (L.map N.sub)))(o:hp q=.dn (Ir R k us (L.map N.sub)))(l:hp m=.own R Es u s)(a:j≠q)(c:j≠m)(f:q≠m)(b:L[k]? =some x)(d:us[k]? =some u')(i:N.sub x=s):
  SH w0 M K w (bN (bN (bN (bN (bN hp q (.dn (Ir R (k+1) (us.set k u) (L.map N.sub)))) j (.dn (aY R Es (hge k) (us.set k u) (L.map N.sub)))) m .no) j (.dn (aY R Es (hge (k+1)) (us.set k u) (L.map N.sub)))) j (.dn (aY R Es (hge (k+1)) (us.set k u) (L.map N.sub)))):=by
 have g:=h.pendPut (y:=x) j q m n o l a c f b d i;have e:(L.map N.sub).set k s=L.map N.sub:=by rw[<-i,<-List.map_set,ER b]
 rw[e,e,ER b]at g;exact g
end
theorem Cy{α:Type}{b:Nat}{a r:List α}(h:clone b a=some r):a=r:=by
 unfold clone at h;obtain⟨_,h⟩:=bg h;exact Option.some.inj h
theorem Ud{α β:Type}{N:Li α β}{w:World}{B A:BS}{v:Value}{L:List α}{us:List Value}(h:ik N.raw w B A v (L.zip us))(a:us.length=L.length):L.length<=9223372036854775807:=by
 have:=h.bZ;rwa[dU a]at this
theorem r_mul{P:Program}{w:World}{ρ:Operand->Value}{d:Option Nat}{ty:TypeId}{pos:String}{af:Array Edge}{g:Option (Nat×Bool)}{x y:Operand}{T T2:TypeId}{p q:Int}(b:ρ x=.int .i64 p)(a:ρ y=.int .i64 q)(h: -9223372036854775808<=p*q/\p*q<=9223372036854775807):
  (execOp ρ ⟨d,.binOp .mul T x y T2,ty,pos,af,g⟩).run P w=.ok (.value (.int .i64 (p*q))) w:=by
 simp[execOp,b,a,eqGuard,binOp,Op.intArith,Qn h.1 h.2]
open Go.RowKit Go.Proofs
theorem LF{cs vs:List Value}{o:Nat}(h:o+vs.length<=cs.length)(j:Nat):(Gl cs o vs)[j]? =if j<o then cs[j]? else if j<o+vs.length then vs[j-o]? else cs[j]? :=by
  unfold Gl;have b:(cs.take o).length=o:=by rw[List.length_take];omega
  by_cases a:j<o
  · rw[if_pos a,List.append_assoc,List.getElem?_append_left V,List.getElem?_take,if_pos a]
  · rw[if_neg a];by_cases c:j<o+vs.length
    · rw[if_pos c,List.append_assoc,List.getElem?_append_right V,b,List.getElem?_append_left V]
    · rw[if_neg c,List.getElem?_append_right (by rw[List.length_append,b];omega),List.length_append,b,List.getElem?_drop];congr 1;omega
theorem V3{cs vs:List Value}{o:Nat}(h:o+vs.length<=cs.length):(Gl cs o vs).length=cs.length:=by
 unfold Gl;simp only[List.length_append,List.length_take,List.length_drop];omega
theorem ZM{cs vs:List Value}{o n:Nat}(h:o+vs.length<=n)(hn:n<=cs.length):(Gl cs o vs).take n=Gl (cs.take n) o vs:=by
  apply List.ext_getElem?;intro j;have b:(cs.take n).length=n:=by rw[List.length_take];omega
  rw[List.getElem?_take,LF V,LF V,List.getElem?_take];by_cases a:j<n
  · rw[if_pos a,if_pos a]
  · rw[if_neg a,if_neg V,if_neg V,if_neg a]
theorem ZN{cs vs:List Value}{o:Nat}(h:o+vs.length<=cs.length):((Gl cs o vs).drop o).take vs.length=vs:=by
  apply List.ext_getElem?;intro j;rw[List.getElem?_take,List.getElem?_drop,LF h];by_cases a:j<vs.length
  · rw[if_pos a,if_neg V,if_pos V];congr 1;omega
  · rw[if_neg a,List.getElem?_eq_none V]
theorem Xj{cs vs:List Value}{o p s:Nat}(h:o+vs.length<=cs.length)(hp:p+s<=o\/o+vs.length<=p):((Gl cs o vs).drop p).take s=(cs.drop p).take s:=by
  apply List.ext_getElem?;intro j;rw[List.getElem?_take,List.getElem?_drop,LF h,List.getElem?_take,List.getElem?_drop];by_cases a:j<s
  · rw[if_pos a,if_pos a];by_cases b:p+j<o
    · rw[if_pos b]
    · rw[if_neg b,if_neg V]
  · rw[if_neg a,if_neg a]
section
variable{P:Program}{ops:Array Oper}{Q:Exit->Act->World->Prop}{n:Nat}{env:Nat->Value}{w w' w0:World}{M K:BS}{hp:Nat->Chunk}{rest:List Oper}
 {d:Option Nat} {op:Op} {ty:TypeId} {pos:String} {af:Array Edge} {v:Value} {g:Option (Nat×Bool)} {T:TypeId} {ρ:Operand->Value} {x y:Operand}
theorem zD{α:Type}{R:jN α}{E:TypeId}{X:Nat}{l:List α}{k:Int}{a a':α}{b:Nat}{zs vs:List Value}{u:Value}(h:SH w0 M K w hp)(i:Nat)(t:hp i=.own R E u l)(v:ob u b)(hs:R.sz=X)(hk:l[k.toNat]? =some a)(hT:xc P T zs)(c:ev n env x=.pointer (some ⟨b,k.toNat*X,none⟩))
    (hy:ev n env y=.agg vs.toArray) (hl:vs.length=zs.length) (J:zs.length=X) (hset:R.rd w (SH.A M hp) vs a')
    (kk:∀w',SH w0 M K w' (bN hp i (.own R E u (l.set k.toNat a')))->bG (ob u) w w'->WL P ops Q rest n (fq env d undef) w'):
    WL P ops Q (⟨d,.store T x y,ty,pos,af,none⟩::rest) n env w:=by
  subst hs;have N:k.toNat<l.length:=Jp hk;generalize k.toNat=k at*;have f:∀b,ob u b->SH.A M hp b:=fun b v=>.inr ⟨i,by rw[t];exact v⟩;obtain⟨xs,L,q3⟩:=h.dS i t;rcases L.2 with⟨rfl,hn⟩|⟨g',cap,cur,rfl,e1,e2,e3,e4,e5,e6⟩
  · omega
  have z:b=g':=v;subst z;have G:(k+1)*R.sz<=l.length*R.sz:=Nat.mul_le_mul_right _ N;have a1:l.length*R.sz<=cap*R.sz:=Nat.mul_le_mul_right _ e3;rw[Nat.add_mul]at G;have O:vs.length=R.sz:=hl.trans J;have B:cur.toList.length=cap*R.sz:=by simpa using e5
  have a0:xs.length=l.length*R.sz:=L.1;have q:k*R.sz+vs.length<=cur.toList.length:=by omega
  have m:k*R.sz+vs.length<=xs.length:=by omega
  have o:=bG.qM w b<|.cells (Gl cur.toList (k*R.sz) vs).toArray E (0,0);have S:=L8 (P:=P) (w:=w) (ρ:=ev n env) (d:=d) (ty:=ty) (pos:=pos) (af:=af) (g:=none) (cs:=cur.toList) (E:=E) hT c (by simpa using e2) hy hl q<|R.one hset;refine uE S (kk _ (h.step i o (fun x c _=>by rw[t];exact c) (fun x c _=>by rw[t];exact c) ⟨Gl xs (k*R.sz) vs,⟨?_,.inr ⟨b,cap,(Gl cur.toList (k*R.sz) vs).toArray,?_,e1,?_,?_,e4,?_,?_⟩⟩,?_⟩) (o.weaken (fun x c _=>c)))
  · rw[V3 m,List.length_set];exact L.1
  · rw[List.length_set]
  · rw[rE (iq e2)]
  · rw[List.length_set];exact e3
  · rw[List.size_toArray,V3 q];exact B
  · rw[List.length_set];show(Gl cur.toList (k*R.sz) vs).take (l.length*R.sz)=Gl xs (k*R.sz) vs;rw[ZM V V,e6]
  · intro p I;have C:p<l.length:=by rwa[List.length_set]at I
    have r:=fun cs a(h:R.rd w (SH.A M hp) cs a)=>R.go (A':=fun x=>(M x\/(SH.av hp i (.own R E (.slice (some ⟨b,0,none⟩) l.length cap) (l.set k a'))) x)\/ob (.slice (some ⟨b,0,none⟩) l.length cap) x) h o (fun x c _=>f x c) (fun x c _=>by
      rcases c with(c|c|c)|c
      · exact .inl c
      · exact .inr<|jO c
      · exact f x c
      · exact f x c)
    have hq:=fun j(hj:j<l.length)=>R.go (A':=SH.A M hp) (q3 j hj) (bG.refl BE w) (fun _ h=>h.elim) fun x c _=>.inl c;by_cases s:p=k
    · subst s;rw[List.getElem_set_self];have e:=ZN m;rw[O]at e;rw[e];exact r _ _ hset
    · rw[List.getElem_set_ne (Ne.symm s),Xj m]
      · exact r _ _<|hq p C
      · rcases Nat.lt_or_ge k p with h5|h5
        · right;have:(k+1)*R.sz<=p*R.sz:=Nat.mul_le_mul_right _ h5;rw[Nat.add_mul]at this;omega
        · left;have:(p+1)*R.sz<=k*R.sz:=Nat.mul_le_mul_right _ V;rw[Nat.add_mul]at this;omega
end
section
variable{α β:Type}{N:Li α β}{R:jN β}{E Es T:TypeId}{w0 w w':World}{M K A:BS}{hp:Nat->Chunk}{us:List Value}{L:List α}{x:α}{k:Nat}
theorem SH.qg(h:SH w0 M K w hp)(j m:Nat)(s:List β)(c:hp j=.dn (aY R Es hn us (L.map N.sub)))(b:hp m=.no)(a:j≠m)(d:L[k]? =some x)(e:N.sub x=s):
 ∃u,us[k]? =some u/\SH w0 M K w (bN (bN hp j (.dn (aY R Es (hat k) us (L.map N.sub)))) m (.own R Es u s)):=by subst e;exact h.dnOpen j m c b a d
theorem SH.mvOpenL{d:List Int}{b:Int}(h:SH w0 M K w hp)(j m:Nat)(s:List β)(f:hp j=.dn (aY R Es (hmv d) us (L.map N.sub)))(e:hp m=.no)(c:j≠m)(i:0<=b)(g:L[b.toNat]? =some x)(a:b∉d)(k:N.sub x=s):
 ∃u,us[b.toNat]? =some u/\SH w0 M K w (bN (bN hp j (.dn (aY R Es (hmv (d++[b])) us (L.map N.sub)))) m (.own R Es u s)):=by subst k;exact h.mvOpen j m f e c i g a
theorem SH.ZO(h:SH w0 M K w hp)(q:Nat)(s:List β)(c:hp q=.dn (Ir R k us (L.map N.sub)))(d:us.length=L.length)(b:L[k]? =some x)(a:N.sub x=s):∃u,us[k]? =some u/\fC R w (SH.A M hp) u s:=by subst a;exact h.rdpAt q c d b
end
open Go.RowKit Go.Proofs
def Chunk.flat:Chunk->Prop
 | .no=>True
 | .own R _ _ _=>∀w A A' cs x,R.rd w A cs x->R.rd w A' cs x
 | .two a b=>a.flat/\b.flat
 | .dn S=>∀w A A',S.P w A->S.P w A'
 |_=>False
theorem eP.flat{α:Type}{R:jN α}{E:TypeId}{w:World}{A A':BS}{v:Value}{l:List α}(c:∀w A A' cs x,R.rd w A cs x->R.rd w A' cs x)(h:eP R E w A v l):eP R E w A' v l:=by
 obtain⟨xs,b,d⟩:=h;exact⟨xs,b,fun i a=>c _ _ _ _ _<|d i a⟩
theorem Chunk.flatten{c:Chunk}{w:World}{M O e f:BS}(d:c.flat)(h:c.holds w M O):c.holds w e f:=by
 induction c with
 |no=>trivial
 |own R E v l=>exact eP.flat d h
 |two a b ha hb=>exact⟨ha d.1 h.1,hb d.2 h.2.1,h.2.2⟩
 |dn S=>exact d _ _ _ h
 |_=>exact d.elim
theorem fZ{β:Type}{R:jN β}{E:TypeId}{ho:Nat->Prop}{us:List Value}{ss:List (List β)}(c:∀w A A' cs x,R.rd w A cs x->R.rd w A' cs x):∀w A A',(aY R E ho us ss).P w A->(aY R E ho us ss).P w A':=by
 rintro w A A'⟨g,e,a⟩;exact⟨g,fun i u s b d f=>eP.flat c<|e i u s b d f,a⟩
theorem ik.toBE{α:Type}{R:jN α}{w:World}{B A:BS}{v:Value}{l:List α}(h:ik R w B A v l):ik R w BE BE v l:=
 ik.go h (bG.refl BE w) (fun _ h=>h.elim) (fun _ h=>h.elim) (fun _ h=>h.elim) (fun _ h=>h.elim)
section
variable{α β:Type}{N:Li α β}{R:jN β}{E Es T:TypeId}{w0 w w':World}{M K A:BS}{hp:Nat->Chunk}{v u u':Value}{us us':List Value}{L L':List α}
theorem SH.QC{R':jN α}(h:SH w0 M K w hp)(i j:Nat)(c:hp i=.own N.raw E v (L.zip us))(d:hp j=.dn (aY R Es hn us (L.map N.sub)))(b:i≠j)(a:R'.sz=N.sz)(e:∀w A x u,fC R w A u (N.sub x)->R'.rd w A (N.enc x u) x):ik R' w BE BE v L:=
 ik.toBE ((h.ES i j c d b a e).fH i (bX _ _ _))
theorem SH.gotCF{C:Chunk}{O:BS}(h:SH w0 M K w hp)(i:Nat)(d:Grow w w')(c:C.Io)(a:C.flat)(e:C.holds w' BE O)(hn:∀b,C.own' b->w.heap.size<=b):SH w0 M K w' (bN hp i C):=
 h.Ua i d c (Chunk.flatten a e) hn
end
section
variable{P:Program}{Q:Exit->Act->World->Prop}{n:Nat}{env:Nat->Value}{w w' w0:World}{M K:BS}{hp:Nat->Chunk}
theorem Iu{k:Func}{R:Ending->World->Prop}{t u g a:Tmp}{T:TypeId}{v2 v3 v4:Value}{zs vs:List Value}{b:Nat}(q:k.results= #[.cell a T,.tmp t,.tmp u,.tmp g])(r:ev n env (.tmp a)=.pointer (some ⟨b,0,none⟩))(v:ev n env (.tmp t)=v2)(m:ev n env (.tmp u)=v3)(o:ev n env (.tmp g)=v4)
  (l:SH w0 M K w hp) (i:Nat) (s:hp i=.blk b vs) (p:xc P T zs) (x:vs.length=zs.length) (h:R (.returned (.tuple #[.agg vs.toArray,v2,v3,v4])) w):bodyPost P k R .ret (act n env) w:=by
 refine⟨Z,_,?_,h⟩;have c:=congrFun (iK n env)<|.tmp t;have f:=congrFun (iK n env)<|.tmp u;have d:=congrFun (iK n env)<|.tmp g;have e:=congrFun (iK n env)<|.tmp a;rw[v]at c;rw[m]at f;rw[o]at d;rw[r]at e;simp only[Act.eval]at c f e d;rw[Array.getD_eq_getD_getElem?]at c f e d;have j:=DI (P:=P) l s p x Z;unfold results;rw[q];simp[c,f,e,d,asAddr,j]
end
section
variable{α β:Type}{R:jN α}{E:TypeId}{w0 w:World}{M K:BS}{hp:Nat->Chunk}{v:Value}{l:List α}{C:Chunk}
theorem SH.QD(h:SH w0 M K w hp)(i j:Nat)(c:i≠j)(f:hp j=.own R E v l)(d:hp i=C):fC R w (fun b=>BE b\/C.own' b) v l:=
 (h.ownSr i j c f d).sub (fun b a _=>a.elim (fun e=>e.elim) id) (fun b a _=>a.elim (fun e=>e.elim) .inr)
theorem SH.Cz(h:SH w0 M K w hp)(i j:Nat)(d:hp j=.rd R v l)(c:hp i=C):fC R w (fun b=>BE b\/C.own' b) v l:=
 (h.yh i j d c).sub (fun b a _=>a.elim (fun e=>e.elim) .inr) (fun b a _=>a.elim (fun e=>e.elim) .inr)
theorem Er{C:Chunk}:∀b,C.own' b->¬BE b:=fun _ _ h=>h
end
structure GG where
 said:Bool
 n:Int
 QE:Bool
structure aF where
 f:List dw
 said:List Int
 left:Int
 cells:List (List Val)
 deep:Int
 failed:Bool
 short:Bool
open Go Go.RowKit Go.Proofs
section
variable{P:Program}{ops:Array Oper}{Q:Exit->Act->World->Prop}{rest:List Oper}{n:Nat}{env:Nat->Value}{w w0:World}{M K:BS}{hp:Nat->Chunk}{d:Option Nat}{ty:TypeId}{pos:String}{af:Array Edge}{x y:Operand}{T:TypeId}{v:Value}
theorem mI{i:Int}(a:ev n env x=.int .i64 i)(h:WL P ops Q rest n (fq env d (.int .i64 i)) w):WL P ops Q (⟨d,.move x,ty,pos,af,none⟩::rest) n env w:=F (bM a) h
theorem mB{i:Bool}(a:ev n env x=.bool i)(h:WL P ops Q rest n (fq env d (.bool i)) w):WL P ops Q (⟨d,.move x,ty,pos,af,none⟩::rest) n env w:=F (bM a) h
theorem mP{i:Option Addr}(a:ev n env x=.pointer i)(h:WL P ops Q rest n (fq env d (.pointer i)) w):WL P ops Q (⟨d,.move x,ty,pos,af,none⟩::rest) n env w:=F (bM a) h
theorem mV(v:Value)(a:ev n env x=v)(h:WL P ops Q rest n (fq env d v) w):WL P ops Q (⟨d,.move x,ty,pos,af,none⟩::rest) n env w:=F (bM a) h
theorem aI{i:Int}(a:ev n env x=.int .i64 i)(h:WL P ops Q rest n (fq env d (.int .i64 i)) w):WL P ops Q (⟨d,.assign x,ty,pos,af,none⟩::rest) n env w:=F (lM a) h
theorem aB{i:Bool}(a:ev n env x=.bool i)(h:WL P ops Q rest n (fq env d (.bool i)) w):WL P ops Q (⟨d,.assign x,ty,pos,af,none⟩::rest) n env w:=F (lM a) h
theorem aP{i:Option Addr}(a:ev n env x=.pointer i)(h:WL P ops Q rest n (fq env d (.pointer i)) w):WL P ops Q (⟨d,.assign x,ty,pos,af,none⟩::rest) n env w:=F (lM a) h
theorem aV(v:Value)(a:ev n env x=v)(h:WL P ops Q rest n (fq env d v) w):WL P ops Q (⟨d,.assign x,ty,pos,af,none⟩::rest) n env w:=F (lM a) h
theorem lB{z:Value}{b o:Nat}{cs:List Value}(h:SH w0 M K w hp)(i:Nat)(a:One P T z)(e:(hp i,ev n env x,cs[o]?)=(Chunk.blk b cs,Value.pointer (some ⟨b,o,none⟩),some v))(k:WL P ops Q rest n (fq env d v) w):WL P ops Q (⟨d,.load T x,ty,pos,af,none⟩::rest) n env w:=by
 injection e with e1 e2;injection e2 with e2 e3;exact F (df h i e1 a e2 e3) k
theorem vR{zs vs:List Value}{b o:Nat}{cs:List Value}(h:SH w0 M K w hp)(i:Nat)(a:xc P T zs)(e:(hp i,ev n env x,(cs.drop o).take zs.length,vs.length)=(Chunk.blk b cs,Value.pointer (some ⟨b,o,none⟩),vs,zs.length))(k:WL P ops Q rest n (fq env d (.agg vs.toArray)) w):WL P ops Q (⟨d,.load T x,ty,pos,af,none⟩::rest) n env w:=by
 injection e with e1 e2;injection e2 with e2 e3;injection e3 with e3 e4;exact F (AO h i e1 a e2 e3 e4) k
theorem dM{b o k off:Nat}(a:eO P T k off)(c:ev n env x=.pointer (some ⟨b,o,none⟩))(h:WL P ops Q rest n (fq env d (.pointer (some ⟨b,o+off,none⟩))) w):WL P ops Q (⟨d,.fieldAddr T x k,ty,pos,af,none⟩::rest) n env w:=F (aH a c) h
theorem w_stA{zs:List Value}{b:Nat}{cs:List Value}(h:SH w0 M K w hp)(i:Nat)(vs:List Value)(c:xc P T zs)(e:(hp i,ev n env x,ev n env y,vs.length,cs.length)=(Chunk.blk b cs,Value.pointer (some ⟨b,0,none⟩),Value.agg vs.toArray,zs.length,vs.length))(a:∀v∈vs,v.oneCell'=true)
  (k:∀w',SH w0 M K w' (bN hp i (.blk b vs))->WL P ops Q rest n (fq env d undef) w'):WL P ops Q (⟨d,.store T x y,ty,pos,af,none⟩::rest) n env w:=by
 injection e with e1 e2;injection e2 with e2 e3;injection e3 with e3 e4;injection e4 with e4 e5;refine w_stN h i vs e1 c e2 e3 e4 ?_ (by rw[Nat.ble_eq];omega) a k;unfold Gl;simp[e5]
theorem bW{f:FuncId}{first captured:Array Value}{xs:Array Operand}{i:Array TypeId}{args:List Value}(h:SH w0 M K w hp)(b:Ih P f)(c:ev n env x=.func (.func f) first captured)
  (a:first.toList++xs.toList.map (ev n env)++captured.toList=args) (j:Calls P f args.toArray w (fun e w'=>Grow w w'/\e=.returned v)) (k:∀w',SH w0 M K w' hp->WL P ops Q rest n (fq env d v) w'):
  WL P ops Q (⟨d,.call {callee:=.value x,args:=xs,argTypes:=i},ty,pos,af,none⟩::rest) n env w:=
 cO b c a j (by rintro _ w' ⟨g,rfl⟩;exact⟨_,Z,k w' (h.grow g)⟩)
theorem V4{α:Type}{R:jN α}{l:List α}{f:FuncId}{first captured:Array Value}{xs:Array Operand}{p:Array TypeId}{args:List Value}{a:Value->Value}(h:SH w0 M K w hp)(i:Nat)(m:Ih P f)(o:ev n env x=.func (.func f) first captured)
  (j:first.toList++xs.toList.map (ev n env)++captured.toList=args) (b:Calls P f args.toArray w (fun e w'=>Grow w w'/\∃u,e=.returned (a u)/\fC R w' (SH.A M hp) u l)) (k:∀w' u,SH w0 M K w' (bN hp i (.rd R u l))->WL P ops Q rest n (fq env d (a u)) w'):
  WL P ops Q (⟨d,.call {callee:=.value x,args:=xs,argTypes:=p},ty,pos,af,none⟩::rest) n env w:=
 cO m o j b (by rintro _ w' ⟨g,u,rfl,c⟩;exact⟨_,Z,k w' u (h.L6 i g c)⟩)
theorem vS{α:Type}{R:jN α}{E:TypeId}{l:List α}{f:FuncId}{first captured:Array Value}{xs:Array Operand}{q:Array TypeId}{args:List Value}{a:Value->Value}(h:SH w0 M K w hp)(i:Nat)(o:Ih P f)(p:ev n env x=.func (.func f) first captured)
  (m:first.toList++xs.toList.map (ev n env)++captured.toList=args) (c:Calls P f args.toArray w (fun e w'=>Grow w w'/\∃u,e=.returned (a u)/\eP R E w' (SH.A M hp) u l/\(∀b,ob u b->w.heap.size<=b))) (k:∀w' u,SH w0 M K w' (bN hp i (.own R E u l))->WL P ops Q rest n (fq env d (a u)) w'):
  WL P ops Q (⟨d,.call {callee:=.value x,args:=xs,argTypes:=q},ty,pos,af,none⟩::rest) n env w:=
 cO o p m c (by rintro _ w' ⟨g,u,rfl,j,r⟩;exact⟨_,Z,k w' u (h.DD i g j r)⟩)
end
section
variable{w w' w0:World}{M K:BS}{hp:Nat->Chunk}{C:Chunk}
theorem SH.fF(h:SH w0 M K w hp)(i:Nat)(a:(hp i).Io):(hp i).holds w M (hp i).own'/\bG K w0 w/\(∀b,(hp i).own' b->b<w0.heap.size->K b):=h.outS i Z a
theorem SH.eT(h:SH w0 M K w hp)(i:Nat)(a:(hp i).Io):(hp i).holds w (fun b=>M b\/rest hp i b) (hp i).own'/\(∀b,(hp i).own' b->¬(M b\/rest hp i b))/\(∀b,(M b\/rest hp i b)->b<w.heap.size):=h.lendS i Z a
theorem SH.jE(h:SH w0 M K w hp)(i:Nat)(a:C.holds w' (fun b=>M b\/rest hp i b) C.own')(c:C.Io)(d:bG (hp i).own' w w')(hn:∀b,C.own' b->b<w.heap.size->(hp i).own' b):SH w0 M K w' (bN hp i C):=h.back i Z c a d hn
end
section
variable{σ ρ α:Type}{b:Int->σ->(σ->ρ)->ρ}{bx:Int->α->σ->(σ->ρ)->ρ}{be:α->σ->(σ->ρ)->ρ}{K:σ->ρ}{s:σ}{r:ρ}{i c:Int}{k:Nat}{L:List α}
theorem Cf(f:i=(k:Int))(e:decide (i<c)=true)(a:upto b K i (c.toNat-k) s=r):∃d,upto b K (i+1) (c.toNat-(k+1))=d/\b i s d=r:=by
 rw[upto_lt (by have:=of_decide_eq_true e;omega)]at a;exact⟨_,Z,a⟩
theorem Gu(d:i=(k:Int))(e:decide (i<c)=false)(a:upto b K i (c.toNat-k) s=r):K s=r:=by
 rw[upto_ge (by have:=of_decide_eq_false e;omega)]at a;exact a
theorem Gv(a:i=(k:Int))(e:decide (i<c)=true)(b:c<=9223372036854775807):jY (i+1):=by
 have:=of_decide_eq_true e;exact jY.mk V V
theorem Oy(a:i=(k:Int))(e:decide (i<c)=true):c.toNat-(k+1)<c.toNat-k:=by
 have:=of_decide_eq_true e;omega
theorem lQ(a:i=(k:Int))(e:decide (i<(L.length:Int))=true)(b:each be K (L.drop k) s=r):∃x c,L[k]? =some x/\each be K (L.drop (k+1))=c/\be x s c=r:=by
 obtain⟨x,d,f⟩:=VP<|a▸e;rw[f,oW]at b;exact⟨x,_,d,Z,b⟩
theorem qI(a:i=(k:Int))(e:decide (i<(L.length:Int))=false)(b:each be K (L.drop k) s=r):K s=r:=by
 rw[VQ (a▸e),Il]at b;exact b
theorem Cg(a:i=(k:Int))(e:decide (i<(L.length:Int))=true)(b:gF bx K i (L.drop k) s=r):∃x c,L[k]? =some x/\gF bx K (i+1) (L.drop (k+1))=c/\bx i x s c=r:=by
 obtain⟨x,d,f⟩:=VP<|a▸e;rw[f,AQ]at b;exact⟨x,_,d,Z,b⟩
theorem Gw(a:i=(k:Int))(e:decide (i<(L.length:Int))=false)(b:gF bx K i (L.drop k) s=r):K s=r:=by
 rw[VQ (a▸e),WX]at b;exact b
theorem vI(a:i=(k:Int))(e:decide (i<(L.length:Int))=true):L.length-(k+1)<L.length-k:=by
 have:=of_decide_eq_true e;omega
end
abbrev qJ(M:BS)(w:World):Prop:=∀b,M b->b<w.heap.size
open Go Go.RowKit Go.Proofs
section
variable{P:Program}{ops:Array Oper}{Q:Exit->Act->World->Prop}{rest:List Oper}{n:Nat}{env:Nat->Value}{w w0:World}{M K:BS}{hp:Nat->Chunk}{d:Option Nat}{ty:TypeId}{pos:String}{af:Array Edge}{x y:Operand}{T T2:TypeId}{v:Value}
theorem pY{k:Int}{p:Value}(i:IxOk P T v k p)(e:(ev n env x,ev n env y)=(v,Value.int .i64 k))(h:WL P ops Q rest n (fq env d p) w):WL P ops Q (⟨d,.indexAddr T x y,ty,pos,af,none⟩::rest) n env w:=by
 injection e with e1 e2;exact F (i _ _ _ _ _ _ _ _ _ e1 e2) h
theorem dA{p q:Int}{k:IntKind}(e:(ev n env x,ev n env y)=(Value.int k p,Value.int k q))(h:WL P ops Q rest n (fq env d (.bool (decide (p=q)))) w):WL P ops Q (⟨d,.binOp .eql T x y T2,ty,pos,af,none⟩::rest) n env w:=by
 injection e with e1 e2;exact F (rC e1 e2) h
theorem qE{p q:Int}{k:IntKind}(e:(ev n env x,ev n env y)=(Value.int k p,Value.int k q))(h:WL P ops Q rest n (fq env d (.bool (decide (p≠q)))) w):WL P ops Q (⟨d,.binOp .neq T x y T2,ty,pos,af,none⟩::rest) n env w:=by
 injection e with e1 e2;exact F (wH e1 e2) h
theorem iV{p q:Int}(e:(ev n env x,ev n env y)=(Value.int .i64 p,Value.int .i64 q))(h:WL P ops Q rest n (fq env d (.bool (decide (p<q)))) w):WL P ops Q (⟨d,.binOp .lss T x y T2,ty,pos,af,none⟩::rest) n env w:=by
 injection e with e1 e2;exact F (ym e1 e2) h
theorem fD{p q:Int}(e:(ev n env x,ev n env y)=(Value.int .i64 p,Value.int .i64 q))(a:jY (p+q))(h:WL P ops Q rest n (fq env d (.int .i64 (p+q))) w):WL P ops Q (⟨d,.binOp .add T x y T2,ty,pos,af,none⟩::rest) n env w:=by
 injection e with e1 e2;exact F (LZ e1 e2 a) h
theorem gQ{i:Nat}{vs:List Value}(e:(ev n env x,vs[i]?)=(Value.tuple vs.toArray,some v))(h:WL P ops Q rest n (fq env d v) w):WL P ops Q (⟨d,.extract x i,ty,pos,af,none⟩::rest) n env w:=by
 injection e with e1 e2;exact F (uF e1 e2) h
theorem jF{α:Type}{R:jN α}{E:TypeId}{b:Nat}{l:List α}(h:SH w0 M K w hp)(i:Nat)(a:SliceOf P T E b)(e:(hp i,ev n env x)=(Chunk.sr R v l,v))(k:WL P ops Q rest n (fq env d (.int .i64 l.length)) w):WL P ops Q (⟨d,.call {callee:=.builtin .len,args:= #[x],argTypes:= #[T]},ty,pos,af,none⟩::rest) n env w:=by
 injection e with e1 e2;exact F (iH a e2<|h.l7 i e1) k
theorem ng{α:Type}{R:jN α}{E:TypeId}{b:Nat}{l:List α}(h:SH w0 M K w hp)(i:Nat)(a:SliceOf P T E b)(e:(hp i,ev n env x)=(Chunk.rd R v l,v))(k:WL P ops Q rest n (fq env d (.int .i64 l.length)) w):WL P ops Q (⟨d,.call {callee:=.builtin .len,args:= #[x],argTypes:= #[T]},ty,pos,af,none⟩::rest) n env w:=by
 injection e with e1 e2;exact F (iH a e2<|h.rD i e1) k
theorem uI{j dj b' o:Nat}{b a:Bool}{z:Value}{cs:List Value}(h:SH w0 M K w hp)(i:Nat)(c:One P T z)(e:((ops[j]?).bind (·.dst),ev n env (.tmp dj),hp i,ev n env x,cs[o]?)=(some dj,Value.bool b,Chunk.blk b' cs,gv (b==a) (.pointer (some ⟨b',o,none⟩)),some v))
    (k:WL P ops Q rest n (fq env d (gv (b==a) v)) w):WL P ops Q (⟨d,.load T x,ty,pos,af,some (j,a)⟩::rest) n env w:=by
  injection e with e1 e2;injection e2 with e2 e3;injection e3 with e3 e4;injection e4 with e4 e5;exact aO e1 e2 (fun q=>df h i e3 c (e4.trans<|ed q) e5) k
theorem vT{j dj b' o f off:Nat}{b a:Bool}(c:eO P T f off)(e:((ops[j]?).bind (·.dst),ev n env (.tmp dj),ev n env x)=(some dj,Value.bool b,Value.pointer (some ⟨b',o,none⟩)))
    (k:WL P ops Q rest n (fq env d (gv (b==a) (.pointer (some ⟨b',o+off,none⟩)))) w):WL P ops Q (⟨d,.fieldAddr T x f,ty,pos,af,some (j,a)⟩::rest) n env w:=by
  injection e with e1 e2;injection e2 with e2 e3;exact aO e1 e2 (fun q=>aH c e3) k
end
theorem cst{P:Program}{f:FuncId}{a:Func}{c:Code}{args:List Value}{R:Ending->World->Prop}{n:Nat}{w:World}(b:P.funcs[f]? =some a)(hn:a.ntmps=n)(e:(a.body,Nat.ble args.length n)=(some c,true))
  (h:WC P c (bodyPost P a R) n (Jk args) w):Calls P f args.toArray w R:=by
 injection e with e1 e2;exact RI b e1 hn (Nat.le_of_ble_eq_true e2) h
open Go Go.RowKit Go.Proofs
def V5(a:List (Nat×Nat))(cs:List Value):List (Nat×Value)->Option (List Value)
 |[]=>some cs
 |(i,v)::r=>match a[i]? with
  |some (off,1)=>if off<cs.length then V5 a (cs.set off v) r else none
  |_=>none
theorem R3{a:List (Nat×Nat)}:∀{pv:List (Nat×Value)} {cs out:List Value},(∀v∈pv.map (·.2),v.oneCell'=true)->V5 a cs pv=some out->Qr a cs pv out
  |[],cs,out,_,h=>Option.some.inj h
  |(i,v)::r,cs,out,ho,h=>by
    unfold V5 at h;split at h
    · rename_i off e;split at h
      · rename_i c;refine⟨off,1,[v],e,jw<|ho v zq3,Z,by omega,?_⟩;rw[show Gl cs off [v]=cs.set off v by unfold Gl;rw[List.set_eq_take_append_cons_drop,if_pos c];simp];exact R3 (fun x b=>ho x<|List.mem_cons_of_mem _ b) h
      · cases h
    · cases h
section
variable{P:Program}{ops:Array Oper}{Q:Exit->Act->World->Prop}{rest:List Oper}{n:Nat}{env:Nat->Value}{w w0:World}{M K:BS}{hp:Nat->Chunk}{d:Option Nat}{op:Op}{ty:TypeId}{pos:String}{af:Array Edge}{x y c:Operand}{T T2:TypeId}{v:Value}{j dj:Nat}{b b0 r:Bool}{i:Int}
theorem jf{zs out:List Value}{b:List (Nat×Nat)}{a:Array (Nat×Operand)}{pv:List (Nat×Value)}(c:Struct P T zs b)(e:(a.toList.map fun p=>(p.1,ev n env p.2),V5 b zs pv)=(pv,some out))(ho:∀v∈pv.map (·.2),v.oneCell'=true)
    (h:WL P ops Q rest n (fq env d (.agg out.toArray)) w):WL P ops Q (⟨d,.build T a,ty,pos,af,none⟩::rest) n env w:=by
  injection e with e1 e2;exact F (Ac c e1<|R3 ho e2) h
theorem Y1(a:b0=true)(e:(ev n env c,ev n env x)=(Value.bool b0,Value.bool r))(h:WL P ops Q rest n (fq env d (.bool r)) w):WL P ops Q (⟨d,.pick c x y,ty,pos,af,none⟩::rest) n env w:=by
 injection e with e1 e2;exact F (mG (b:=true) (by rw[e1,a]) e2) h
theorem Y2(a:b0=false)(e:(ev n env c,ev n env y)=(Value.bool b0,Value.bool r))(h:WL P ops Q rest n (fq env d (.bool r)) w):WL P ops Q (⟨d,.pick c x y,ty,pos,af,none⟩::rest) n env w:=by
 injection e with e1 e2;exact F (mG (b:=false) (by rw[e1,a]) e2) h
theorem Bz(a:b0=false)(e:((ops[j]?).bind (·.dst),ev n env (.tmp dj),(false==b))=(some dj,Value.bool b0,false))(h:WL P ops Q rest n (fq env d undef) w):WL P ops Q (⟨d,op,ty,pos,af,some (j,b)⟩::rest) n env w:=by
  injection e with e1 e2;injection e2 with e2 e3;exact jy e1 (by rw[e2,a]) e3 h
theorem Y3(a:b0=true)(e:((ops[j]?).bind (·.dst),ev n env (.tmp dj),(true==b))=(some dj,Value.bool b0,false))(h:WL P ops Q rest n (fq env d undef) w):WL P ops Q (⟨d,op,ty,pos,af,some (j,b)⟩::rest) n env w:=by
  injection e with e1 e2;injection e2 with e2 e3;exact jy e1 (by rw[e2,a]) e3 h
theorem oN(a:b0=b)(e:((ops[j]?).bind (·.dst),ev n env (.tmp dj))=(some dj,Value.bool b0))(h:WL P ops Q (⟨d,op,ty,pos,af,none⟩::rest) n env w):WL P ops Q (⟨d,op,ty,pos,af,some (j,b)⟩::rest) n env w:=by
  injection e with e1 e2;exact KU e1 (by rw[e2,a]) h
theorem Jh{a:Bool}(e:((ops[j]?).bind (·.dst),ev n env (.tmp dj),ev n env x)=(some dj,Value.bool b,Value.int .i64 i))(h:WL P ops Q rest n (fq env d (gv (b==a) (.int .i64 i))) w):WL P ops Q (⟨d,.move x,ty,pos,af,some (j,a)⟩::rest) n env w:=by
  injection e with e1 e2;injection e2 with e2 e3;exact aO e1 e2 (fun _=>bM e3) h
theorem Xk{a:Bool}(e:((ops[j]?).bind (·.dst),ev n env (.tmp dj),ev n env x)=(some dj,Value.bool b,Value.bool r))(h:WL P ops Q rest n (fq env d (gv (b==a) (.bool r))) w):WL P ops Q (⟨d,.move x,ty,pos,af,some (j,a)⟩::rest) n env w:=by
  injection e with e1 e2;injection e2 with e2 e3;exact aO e1 e2 (fun _=>bM e3) h
theorem EW{zs vs:List Value}{a o k:Nat}{cs:List Value}(h:SH w0 M K w hp)(i:Nat)(b:xc P T zs)(e:(hp i,ev n env x,(cs.drop k).take zs.length,vs.length,Nat.ble (k+zs.length) cs.length)=(Chunk.pt a o cs,Value.pointer (some ⟨a,o+k,none⟩),vs,zs.length,true))(q:WL P ops Q rest n (fq env d (.agg vs.toArray)) w):WL P ops Q (⟨d,.load T x,ty,pos,af,none⟩::rest) n env w:=by
 injection e with e1 e2;injection e2 with e2 e3;injection e3 with e3 e4;injection e4 with e4 e5;exact F (Za h i e1 b e2 e3 e4<|Nat.le_of_ble_eq_true e5) q
theorem vJ{L:BS}{ws:World}{u:Value}(a:bG L ws w)(g:∀b,ob u b->w.heap.size<=b):∀b,ob u b->ws.heap.size<=b:=fun b c=>Nat.le_trans a.size (g b c)
end
section
variable{P:Program}{ops:Array Oper}{Q:Exit->Act->World->Prop}{n:Nat}{env:Nat->Value}{w ws:World}{d:Option Nat}{op:Op}{ty:TypeId}{pos:String}{af:Array Edge}{fuel:Nat}{listed:Array Bool}{v:Value}{L:BS}
theorem iJ(i:Nat)(f:Grow ws w)(c:ops[i]? =some ⟨d,op,ty,pos,af,none⟩)(e:∀b,Grow ws b->(execOp (ev n env) ⟨d,op,ty,pos,af,none⟩).run P b=.ok (.value v) b)(h:WH P ops ws Q fuel (listed.setIfInBounds i true) n (fq env d v) w)(a:(Region.noSelect ops&&(Region.free .any ops listed i&&(Region.ready .any ops listed).contains i))=true:=by kernel_rfl):WH P ops ws Q (fuel+1) listed n env w:=by
 simp only[Bool.and_eq_true]at a;exact wh_ok i f c dE a.1 a.2.1 a.2.2 e h
theorem bF(i:Nat)(f:bG L ws w)(c:ops[i]? =some ⟨d,op,ty,pos,af,none⟩)(e:∀b,bG L ws b->(execOp (ev n env) ⟨d,op,ty,pos,af,none⟩).run P b=.ok (.value v) b)(h:Mf P ops L ws Q fuel (listed.setIfInBounds i true) n (fq env d v) w)(a:(Region.noSelect ops&&(Region.free .any ops listed i&&(Region.ready .any ops listed).contains i))=true:=by kernel_rfl):Mf P ops L ws Q (fuel+1) listed n env w:=by
 simp only[Bool.and_eq_true]at a;exact Zo i f c dE a.1 a.2.1 a.2.2 e h
end
section
variable{P:Program}{ops:Array Oper}{w:World}{Q1:Act->Prop}{rest:List Oper}{n:Nat}{env:Nat->Value}{d:Option Nat}{ty:TypeId}{pos:String}{af:Array Edge}{x:Operand}
theorem kI{i:Int}(a:ev n env x=.int .i64 i)(h:WK P ops w Q1 rest n (fq env d (.int .i64 i))):WK P ops w Q1 (⟨d,.move x,ty,pos,af,none⟩::rest) n env:=aG (bM a) h
theorem kB{i:Bool}(a:ev n env x=.bool i)(h:WK P ops w Q1 rest n (fq env d (.bool i))):WK P ops w Q1 (⟨d,.move x,ty,pos,af,none⟩::rest) n env:=aG (bM a) h
end
abbrev EX(w:World)(M:BS)(C:Chunk):Prop:=Chunk.holds w M (Chunk.own' C) C
abbrev TI(C':Chunk)(w:World)(C:Chunk):Prop:=∀b,Chunk.own' C' b->b<w.heap.size->Chunk.own' C b
open Go Go.RowKit Go.Proofs
section
variable{P:Program}{ops:Array Oper}{Q:Exit->Act->World->Prop}{n:Nat}{env:Nat->Value}{w ws:World}{d:Option Nat}{ty:TypeId}{pos:String}{af:Array Edge}{fuel:Nat}{listed:Array Bool}{v:Value}{L:BS}{T:TypeId}{x:Operand}
theorem Lm(i:Nat)(f:Grow ws w){k off b o:Nat}(a:eO P T k off)(e:(ops[i]?,ev n env x)=(some ⟨d,.fieldAddr T x k,ty,pos,af,none⟩,Value.pointer (some ⟨b,o,none⟩)))(h:WH P ops ws Q fuel (listed.setIfInBounds i true) n (fq env d (.pointer (some ⟨b,o+off,none⟩))) w)(c:(Region.noSelect ops&&(Region.free .any ops listed i&&(Region.ready .any ops listed).contains i))=true:=by kernel_rfl):WH P ops ws Q (fuel+1) listed n env w:=by
 injection e with e1 e2;exact iJ i f e1 (fun _ _=>aH a e2) h c
theorem ib(i:Nat)(f:bG L ws w){k off b o:Nat}(a:eO P T k off)(e:(ops[i]?,ev n env x)=(some ⟨d,.fieldAddr T x k,ty,pos,af,none⟩,Value.pointer (some ⟨b,o,none⟩)))(h:Mf P ops L ws Q fuel (listed.setIfInBounds i true) n (fq env d (.pointer (some ⟨b,o+off,none⟩))) w)(c:(Region.noSelect ops&&(Region.free .any ops listed i&&(Region.ready .any ops listed).contains i))=true:=by kernel_rfl):Mf P ops L ws Q (fuel+1) listed n env w:=by
 injection e with e1 e2;exact bF i f e1 (fun _ _=>aH a e2) h c
theorem Lp(i:Nat)(b:Grow ws w)(v:Value)(e:(ops[i]?,ev n env x)=(some ⟨d,.move x,ty,pos,af,none⟩,v))(h:WH P ops ws Q fuel (listed.setIfInBounds i true) n (fq env d v) w)(a:(Region.noSelect ops&&(Region.free .any ops listed i&&(Region.ready .any ops listed).contains i))=true:=by kernel_rfl):WH P ops ws Q (fuel+1) listed n env w:=by
 injection e with e1 e2;exact iJ i b e1 (fun _ _=>bM e2) h a
theorem ll(i:Nat)(b:bG L ws w)(v:Value)(e:(ops[i]?,ev n env x)=(some ⟨d,.move x,ty,pos,af,none⟩,v))(h:Mf P ops L ws Q fuel (listed.setIfInBounds i true) n (fq env d v) w)(a:(Region.noSelect ops&&(Region.free .any ops listed i&&(Region.ready .any ops listed).contains i))=true:=by kernel_rfl):Mf P ops L ws Q (fuel+1) listed n env w:=by
 injection e with e1 e2;exact bF i b e1 (fun _ _=>bM e2) h a
theorem wh_a(i:Nat)(b:Grow ws w)(v:Value)(e:(ops[i]?,ev n env x)=(some ⟨d,.assign x,ty,pos,af,none⟩,v))(h:WH P ops ws Q fuel (listed.setIfInBounds i true) n (fq env d v) w)(a:(Region.noSelect ops&&(Region.free .any ops listed i&&(Region.ready .any ops listed).contains i))=true:=by kernel_rfl):WH P ops ws Q (fuel+1) listed n env w:=by
 injection e with e1 e2;exact iJ i b e1 (fun _ _=>lM e2) h a
theorem BK(i:Nat)(b:bG L ws w)(v:Value)(e:(ops[i]?,ev n env x)=(some ⟨d,.assign x,ty,pos,af,none⟩,v))(h:Mf P ops L ws Q fuel (listed.setIfInBounds i true) n (fq env d v) w)(a:(Region.noSelect ops&&(Region.free .any ops listed i&&(Region.ready .any ops listed).contains i))=true:=by kernel_rfl):Mf P ops L ws Q (fuel+1) listed n env w:=by
 injection e with e1 e2;exact bF i b e1 (fun _ _=>lM e2) h a
end
section
variable{P:Program}{ops:Array Oper}{Q:Exit->Act->World->Prop}{rest:List Oper}{n:Nat}{env:Nat->Value}{w w0:World}{M K:BS}{hp:Nat->Chunk}{d:Option Nat}{ty:TypeId}{pos:String}{af:Array Edge}{x y:Operand}{T:TypeId}
theorem bS{zs vs:List Value}{b:Nat}{cs:List Value}(h:SH w0 M K w hp)(i:Nat)(c:xc P T zs)(e:(hp i,ev n env x,ev n env y,vs.length,cs.length)=(Chunk.blk b cs,Value.pointer (some ⟨b,0,none⟩),Value.agg vs.toArray,zs.length,vs.length))(a:∀v∈vs,v.oneCell'=true)
 (k:∀w',SH w0 M K w' (bN hp i (.blk b vs))->WL P ops Q rest n (fq env d undef) w'):WL P ops Q (⟨d,.store T x y,ty,pos,af,none⟩::rest) n env w:=w_stA h i vs c e a k
theorem SH.pr(h:SH w0 M K w hp)(i j:Nat)(a:i≠j:=by decide):SH w0 M K w (bN (bN hp j .no) i (.two (hp i) (hp j))):=h.pair i j a
theorem SH.un{a c:Chunk}(h:SH w0 M K w hp)(i j:Nat)(d:hp i=.two a c)(e:hp j=.no)(b:i≠j:=by decide):SH w0 M K w (bN (bN hp i a) j c):=h.Zt i j b d e
end
open Go Go.RowKit Go.Proofs
theorem kR{L:BS}{w:World}:bG L w w:=bG.refl L w
theorem bL{vs:List Value}(e:vs.all Value.oneCell'=true):∀v∈vs,v.oneCell'=true:=fun v h=>List.all_eq_true.1 e v h
section
variable{P:Program}{ops:Array Oper}{Q:Exit->Act->World->Prop}{n:Nat}{env:Nat->Value}{w:World}{fuel:Nat}{listed:Array Bool}{L:BS}
theorem jA(h:∀ws,bG L ws w->Mf P ops L ws Q fuel listed n env w):Mf P ops L w Q fuel listed n env w:=h w (bG.refl _ _)
theorem CB(h:∀ws,Grow ws w->WH P ops ws Q fuel listed n env w):WH P ops w Q fuel listed n env w:=h w (bG.refl _ _)
end
section
variable{P:Program}{ops:Array Oper}{Q:Exit->Act->World->Prop}{rest:List Oper}{n:Nat}{env:Nat->Value}{w w0:World}{M K:BS}{hp:Nat->Chunk}{d:Option Nat}{ty:TypeId}{pos:String}{af:Array Edge}{x:Operand}{v:Value}
theorem vK{f:FuncId}{first captured:Array Value}{xs:Array Operand}{i:Array TypeId}{args:List Value}(h:SH w0 M K w hp)(b:Ih P f)(c:ev n env x=.func (.func f) first captured)
  (a:first.toList++xs.toList.map (ev n env)++captured.toList=args) (j:Calls P f args.toArray w (fun e w'=>Grow w w'/\e=.returned v)) (k:∀w',Grow w w'->SH w0 M K w' hp->WL P ops Q rest n (fq env d v) w'):
  WL P ops Q (⟨d,.call {callee:=.value x,args:=xs,argTypes:=i},ty,pos,af,none⟩::rest) n env w:=
 cO b c a j (by rintro _ w' ⟨g,rfl⟩;exact⟨_,Z,k w' g (h.grow g)⟩)
theorem ZP{α:Type}{R:jN α}{l:List α}{f:FuncId}{first captured:Array Value}{xs:Array Operand}{p:Array TypeId}{args:List Value}{a:Value->Value}(h:SH w0 M K w hp)(i:Nat)(m:Ih P f)(o:ev n env x=.func (.func f) first captured)
  (j:first.toList++xs.toList.map (ev n env)++captured.toList=args) (b:Calls P f args.toArray w (fun e w'=>Grow w w'/\∃u,e=.returned (a u)/\fC R w' (SH.A M hp) u l)) (k:∀w' u,Grow w w'->SH w0 M K w' (bN hp i (.rd R u l))->WL P ops Q rest n (fq env d (a u)) w'):
  WL P ops Q (⟨d,.call {callee:=.value x,args:=xs,argTypes:=p},ty,pos,af,none⟩::rest) n env w:=
 cO m o j b (by rintro _ w' ⟨g,u,rfl,c⟩;exact⟨_,Z,k w' u g (h.L6 i g c)⟩)
theorem CE{α:Type}{R:jN α}{E:TypeId}{l:List α}{f:FuncId}{first captured:Array Value}{xs:Array Operand}{r:Array TypeId}{args:List Value}{a:Value->Value}(h:SH w0 M K w hp)(i:Nat)(p:Ih P f)(q:ev n env x=.func (.func f) first captured)
  (o:first.toList++xs.toList.map (ev n env)++captured.toList=args) (j:Calls P f args.toArray w (fun e w'=>Grow w w'/\∃u,e=.returned (a u)/\eP R E w' (SH.A M hp) u l/\(∀b,ob u b->w.heap.size<=b))) (k:∀w' u,Grow w w'->(∀b,ob u b->w.heap.size<=b)->SH w0 M K w' (bN hp i (.own R E u l))->WL P ops Q rest n (fq env d (a u)) w'):
  WL P ops Q (⟨d,.call {callee:=.value x,args:=xs,argTypes:=r},ty,pos,af,none⟩::rest) n env w:=
 cO p q o j (by rintro _ w' ⟨g,u,rfl,m,c⟩;exact⟨_,Z,k w' u g c (h.DD i g m c)⟩)
end
open Go Go.RowKit Go.Proofs
abbrev pT(b:Nat):Value:=.pointer (some ⟨b,0,none⟩)
abbrev nS:Value:=.slice none 0 0
def fchk(P:Program)(f:FuncId):Bool:=match P.funcs[f]? with
 |some fn=> !(fn.name== "runtime.NumGoroutine")&& !fn.body.isNone
 |none=>false
theorem fo{P:Program}{f:FuncId}(h:fchk P f=true:=by kernel_rfl):Ih P f:=by
  unfold fchk at h;split at h
  · rename_i a e;simp only[Bool.and_eq_true,Bool.not_eq_true']at h;exact⟨a,e,h.1,h.2⟩
  · cases h
section
variable{P:Program}{ops:Array Oper}{Q:Exit->Act->World->Prop}{n:Nat}{env:Nat->Value}{w ws:World}{d:Option Nat}{op:Op}{ty:TypeId}{pos:String}{af:Array Edge}{fuel:Nat}{listed:Array Bool}{L:BS}
theorem dI(i:Nat)(b:ops[i]? =some ⟨d,op,ty,pos,af,none⟩)(h:WL P ops (Mg P ops L ws Q fuel (listed.setIfInBounds i true)) [⟨d,op,ty,pos,af,none⟩] n env w)(a:Region.ready .any ops listed=[i]:=by kernel_rfl):Mf P ops L ws Q (fuel+1) listed n env w:=whk_eff i a b dE h
theorem Iw(i:Nat)(b:ops[i]? =some ⟨d,op,ty,pos,af,none⟩)(h:WL P ops (after P ops ws Q fuel (listed.setIfInBounds i true)) [⟨d,op,ty,pos,af,none⟩] n env w)(a:Region.ready .any ops listed=[i]:=by kernel_rfl):WH P ops ws Q (fuel+1) listed n env w:=wh_eff i a b dE h
theorem lS(h:Q .normal (act n env) w)(a:Region.ready .any ops listed=[]:=by kernel_rfl):Mf P ops L ws Q fuel listed n env w:=Zp a h
theorem R4(h:Q .normal (act n env) w)(a:Region.ready .any ops listed=[]:=by kernel_rfl):WH P ops ws Q fuel listed n env w:=wh_done a h
end
open Go Go.RowKit Go.Proofs
def Chunk.ZQ:Chunk->Prop
 | .no=>True
 | .blk _ _=>True
 | .own R _ _ _=>∀w A A' cs x,R.rd w A cs x->R.rd w A' cs x
 | .two a b=>a.ZQ/\b.ZQ
 | .dn S=>∀w A A',S.P w A->S.P w A'
 |_=>False
theorem Chunk.iX{c:Chunk}{w:World}{M O e f:BS}(d:c.ZQ)(h:c.holds w M O):c.holds w e f:=by
 induction c with
 |no=>trivial
 |blk b vs=>exact h
 |own R E v l=>exact eP.flat d h
 |two a b ha hb=>exact⟨ha d.1 h.1,hb d.2 h.2.1,h.2.2⟩
 |dn S=>exact d _ _ _ h
 |_=>exact d.elim
section
variable{P:Program}{ops:Array Oper}{Q:Exit->Act->World->Prop}{n:Nat}{env:Nat->Value}{w w' w0:World}{M K:BS}{hp:Nat->Chunk}{rest:List Oper}
 {d:Option Nat} {op:Op} {ty:TypeId} {pos:String} {af:Array Edge} {v:Value} {g:Option (Nat×Bool)} {T:TypeId} {ρ:Operand->Value} {x y:Operand}
theorem own_mk{α:Type}{R:jN α}{E:TypeId}{w:World}{A:BS}{d cap:Nat}{a:List Value}{l:List α}(e:Raw w d cap R.sz E a)(f:l.length<=cap)
    (m:∀i (h:i<l.length),R.rd w (fun b=>A b\/b=d) ((a.drop (i*R.sz)).take R.sz) l[i]):eP R E w A (.slice (some ⟨d,0,none⟩) l.length cap) l:=by
  have c:=e.len;have j:l.length*R.sz<=cap*R.sz:=Nat.mul_le_mul_right _ f;refine⟨a.take<|l.length*R.sz,⟨?_,.inr ⟨d,cap,a.toArray,Z,Nat.zero_le _,e.blk,f,e.le,by simpa using c,Z⟩⟩,fun i g=>?_⟩
  · rw[List.length_take];omega
  · have k:(i+1)*R.sz<=l.length*R.sz:=Nat.mul_le_mul_right _ g;rw[Nat.add_mul]at k;rw[List.drop_take,List.take_take,Nat.min_eq_left V];exact m i g
theorem w_copyO{α:Type}{R:jN α}{E sT:TypeId}{sz B:Nat}{u:Value}{l m:List α}(h:SH w0 M K w hp)(i j:Nat)(hi:hp i=.own R E u l)(hj:hp j=.rd R v m)(L:∀w A w' A' cs x,R.rd w A cs x->R.rd w' A' cs x)
    (hT:pR P T E sz B) (hs:R.sz=sz) (hx:ev n env x=u) (hy:ev n env y=v)
    (k:∀w',SH w0 M K w' (bN hp i (.own R E u (m.take l.length++l.drop m.length)))->WL P ops Q rest n (fq env d (.int .i64 (Nat.min m.length l.length:Nat))) w'):
    WL P ops Q (⟨d,.call {callee:=.builtin .copy,args:= #[x,y],argTypes:= #[T,sT]},ty,pos,af,none⟩::rest) n env w:=by
  subst hs;have hu:=h.rD j hj;have ho:=h.giveO i hi;have r:∀(hn:l=[]\/m=[]),m.take l.length++l.drop m.length=l:=by
    rintro(rfl|rfl)<;>simp
  obtain⟨it,z,I,hz,b2,b3,a9⟩:=hT.info;have f:(l=[]\/m=[])->(execOp (ev n env) ⟨d,.call {callee:=.builtin .copy,args:= #[x,y],argTypes:= #[T,sT]},ty,pos,af,none⟩).run P w=.ok (.value<|.int .i64 (Nat.min m.length l.length:Nat)) w->
      WL P ops Q (⟨d,.call {callee:=.builtin .copy,args:= #[x,y],argTypes:= #[T,sT]},ty,pos,af,none⟩::rest) n env w:=fun hn N=>by
    refine F N<|k w ?_;rw[r hn];have:=h.given i hi ho (bG.refl _ _) fun _ J _=>J;exact this
  by_cases O:l=[]
  · subst O;refine f (.inl Z) ?_;obtain⟨xs,h1,_⟩:=ho;rcases hu.row with⟨rfl,rfl⟩|⟨ad,c,news,rfl,n1,n2,n3,n4⟩<;>
      rcases h1.2 with⟨rfl,hn⟩|⟨gg,cap,t,rfl,_,hgg,hc,_⟩<;>
      simp[execOp,resolve,invoke,builtin,hx,hy,Builtin.copy_,underlying,hT.desc,sizeOf,typeInfo,I,Builtin.lenOf,Builtin.firstCells,storeCells,goInt,loadCells,loadCellsFrom]
  by_cases G:m=[]
  · subst G;refine f (.inr Z) ?_;obtain⟨xs,h1,_⟩:=ho;rcases hu.row with⟨rfl,_⟩|⟨ad,c,news,rfl,n1,n2,n3,n4⟩<;>
      rcases h1.2 with⟨rfl,hn⟩|⟨gg,cap,t,rfl,_,hgg,hc,_⟩<;>
      simp[execOp,resolve,invoke,builtin,hx,hy,Builtin.copy_,underlying,hT.desc,sizeOf,typeInfo,I,Builtin.lenOf,Builtin.firstCells,storeCells,goInt,loadCells,loadCellsFrom]
  have a2:0<l.length:=by cases l with|nil=>exact absurd Z O|cons a b=>simp
  obtain⟨gg,cap,t,rfl,p,b0,a0⟩:=own_raw ho a2;rcases hu.row with⟨_,rfl⟩|⟨ad,c,news,rfl,n1,n2,n3,n4⟩
  · exact absurd Z G
  have a8:=p.len;have X:Nat.min m.length l.length<=m.length:=Nat.min_le_left _ _;have a3:Nat.min m.length l.length<=l.length:=Nat.min_le_right _ _;have hL:(m.take l.length++l.drop m.length).length=l.length:=by rw[List.length_append,List.length_take,List.length_drop];omega
  generalize S:Nat.min m.length l.length=q at*;have s:m.take l.length=m.take q:=by
    rw[<-S];rcases Nat.le_total m.length l.length with e|e
    · rw[show Nat.min m.length l.length=m.length from Nat.min_eq_left e,List.take_of_length_le e,List.take_of_length_le (Nat.le_refl _)]
    · rw[show Nat.min m.length l.length=l.length from Nat.min_eq_right e]
  have b1:q*R.sz<=m.length*R.sz:=Nat.mul_le_mul_right _ X;have b4:q*R.sz<=cap*R.sz:=Nat.mul_le_mul_right _ V;have C:(news.take<|q*R.sz).length=q*R.sz:=by rw[List.length_take];omega
  refine TT (o:=0) (news:=news.take (q*R.sz)) hT p (by rw[hx,Nat.zero_mul]) hy (by rw[C,S]) (fun a b g=>n2 a b ?_) (fun u a1=>n3 u (List.mem_of_mem_take a1)) (by rw[S];omega) ?_
  · rw[List.getElem?_take]at g;split at g
    · exact g
    · cases g
  intro w' hk a7;rw[S];refine k w'<|h.given i hi ?_ (hk.weaken fun b J _=>J) fun b J _=>J
  · have a5:Raw w' gg cap R.sz E (news.take (q*R.sz)++t.drop (q*R.sz)):=by
      have:=a7;rw[Nat.zero_mul,List.take_zero,List.nil_append,C,Nat.zero_add]at this;exact this
    have:=own_mk (l:=m.take l.length++l.drop m.length) (A:=fun b=>M b\/Go.LX.rest hp i b) a5 V fun a ha=>?_
    · rw[hL]at this;exact this
    · by_cases a4:a<q
      · have e:=n4 a V;have h6:(a+1)*R.sz<=q*R.sz:=Nat.mul_le_mul_right _ a4;rw[Nat.add_mul]at h6;have e1:(m.take l.length++l.drop m.length)[a]=m[a]'V:=by
          rw[List.getElem_append_left (by rw[s,List.length_take];omega),List.getElem_take]
        rw[e1,List.drop_append_of_le_length V,List.take_append_of_le_length (by rw[List.length_drop];omega),List.drop_take,List.take_take,Nat.min_eq_left V];exact L _ _ _ _ _ _ e
      · have a6:a<l.length:=by omega
        have b5:q=m.length:=by
          rw[<-S];exact Nat.min_eq_left (by
            rcases Nat.le_total m.length l.length with e|e
            · exact e
            · have:Nat.min m.length l.length=l.length:=Nat.min_eq_right e;omega)
        have e:=a0 a a6;have h6:q*R.sz<=a*R.sz:=Nat.mul_le_mul_right _ V;have e1:(m.take l.length++l.drop m.length)[a]=l[a]:=by
          rw[List.getElem_append_right (by rw[s,List.length_take];omega),List.getElem_drop];congr 1;rw[s,List.length_take];omega
        rw[e1,List.drop_append,List.drop_eq_nil_of_le V,List.nil_append,C,List.drop_drop,show q*R.sz+(a*R.sz-q*R.sz)=a*R.sz by omega];exact L _ _ _ _ _ _ e
end
end Go.LX
namespace Go.Proofs
set_option maxHeartbeats 1000000 in
set_option maxRecDepth 100000 in
theorem Tryz.stringslite_IndexByte(s:ByteArray)(c:Int)(w:World):
  Calls Tryz.prog 118 #[.string s,.int .u8 c] w fun e w'=>e=.returned (.int .i64 (Lib.indexByte s.data.toList c.toNat.toUInt8))/\w'=w:=by
 go_enter Tryz.func118,Tryz.ntmps118
 go_wp2
 rw[run_callFunc_extern Tryz.func130 zq2 zq2 zq2 (e:=Extern.BytealgIndexByte.indexByte) zq2,Lib.run_indexByteString];simp only[Result.andThen];rw[Oper.upon_value]
 go_wp2
 go_ret
 exact⟨Z,Z⟩
set_option maxHeartbeats 2000000 in
set_option maxRecDepth 100000 in
theorem Tryz.stringslite_Index_one(s:ByteArray)(c:UInt8)(w:World):
    Calls Tryz.prog 107 #[.string s,.string ⟨#[c]⟩] w fun e w'=>e=.returned (.int .i64 (Lib.indexByte s.data.toList c))/\w'=w:=by
  go_enter Tryz.func107,Tryz.ntmps107
  go_wp2_with (go_at_call 118;refine(Tryz.stringslite_IndexByte _ _ _).mono ?_;rintro e w'⟨rfl,rfl⟩)
  · have h:([c]==s.toList)=true:=by assumption
    go_ret
    refine⟨?_,Z⟩;have e:s.data.toList=[c]:=by rw[<-Lib.toList_data];exact(beq_iff_eq.1 h).symm
    rw[e];simp[Lib.indexByte]
  · go_ret
    exact⟨Z,Z⟩
set_option maxHeartbeats 1000000 in
theorem Tryz.strings_Index_one(s:ByteArray)(c:UInt8)(w:World):
  Calls Tryz.prog 86 #[.string s,.string ⟨#[c]⟩] w fun e w'=>e=.returned (.int .i64 (Lib.indexByte s.data.toList c))/\w'=w:=by
 go_enter Tryz.func86,Tryz.ntmps86
 go_wp2_with (go_at_call 107;refine(Tryz.stringslite_Index_one _ _ _).mono ?_;rintro e w'⟨rfl,rfl⟩)
 go_ret
 exact⟨Z,Z⟩
set_option maxHeartbeats 1000000 in
theorem Tryz.strings_Contains_one(s:ByteArray)(c:UInt8)(w:World):
  Calls Tryz.prog 96 #[.string s,.string ⟨#[c]⟩] w fun e w'=>e=.returned (.bool (decide (0<=Lib.indexByte s.data.toList c)))/\w'=w:=by
 go_enter Tryz.func96,Tryz.ntmps96
 go_wp2_with (go_at_call 86;refine(Tryz.strings_Index_one _ _ _).mono ?_;rintro e w'⟨rfl,rfl⟩)
 go_ret
 exact⟨Z,Z⟩
open Go.Shelf
def Tryz.R5:Go.Shelf.Ren:=⟨fun|146=>43|221=>65|268=>84|138=>85|143=>86|195=>104|197=>105|218=>106|219=>107|260=>117|217=>118|225=>119|224=>120|267=>121|266=>130|314=>131|n=>n,fun|9=>9|31=>106|3=>3|4=>4|0=>0|105=>176|21=>21|5=>5|46=>182|119=>135|139=>218|138=>217|146=>219|51=>161|n=>n,fun|1=>4|3=>5|4=>6|n=>n⟩
theorem Tryz.lays146:Go.Proofs.Lays.n146 Tryz.prog Tryz.R5:={
 mixed:=zq2
 f138:=Tryz.func85.trans (congrArg some zq2)
 f143:=Tryz.func86.trans (congrArg some zq2)
 f146:=Tryz.func43.trans (congrArg some zq2)
 f195:=Tryz.func104.trans (congrArg some zq2)
 f197:=Tryz.func105.trans (congrArg some zq2)
 f217:=Tryz.func118.trans (congrArg some zq2)
 f218:=Tryz.func106.trans (congrArg some zq2)
 f219:=Tryz.func107.trans (congrArg some zq2)
 f221:=Tryz.func65.trans (congrArg some zq2)
 f224:=Tryz.func120.trans (congrArg some zq2)
 f225:=Tryz.func119.trans (congrArg some zq2)
 f260:=Tryz.func117.trans (congrArg some zq2)
 f266:=Tryz.func130.trans (congrArg some zq2)
 f267:=Tryz.func121.trans (congrArg some zq2)
 f268:=Tryz.func84.trans (congrArg some zq2)
 f314:=Tryz.func131.trans (congrArg some zq2)
 t0:=Tryz.underlying0
 a0:=Tryz.isAgg0
 z0:=Tryz.sizeOf0
 v0:=Tryz.zeroValue0
 t3:=Tryz.underlying3
 a3:=Tryz.isAgg3
 z3:=Tryz.sizeOf3
 v3:=Tryz.zeroValue3
 t4:=Tryz.underlying4
 a4:=Tryz.isAgg4
 z4:=Tryz.sizeOf4
 v4:=Tryz.zeroValue4
 t5:=Tryz.underlying5
 a5:=Tryz.isAgg5
 z5:=Tryz.sizeOf5
 v5:=Tryz.zeroValue5
 t9:=Tryz.underlying9
 a9:=Tryz.isAgg9
 z9:=Tryz.sizeOf9
 v9:=Tryz.zeroValue9
 t21:=Tryz.underlying21
 a21:=Tryz.isAgg21
 z21:=Tryz.sizeOf21
 v21:=Tryz.zeroValue21
 t31:=Tryz.underlying106
 a31:=Tryz.isAgg106
 z31:=Tryz.sizeOf106
 v31:=Tryz.zeroValue106
 t46:=Tryz.underlying182
 a46:=Tryz.isAgg182
 z46:=Tryz.sizeOf182
 v46:=Tryz.zeroValue182
 t51:=Tryz.underlying161
 a51:=Tryz.isAgg161
 z51:=Tryz.sizeOf161
 v51:=Tryz.zeroValue161
 t105:=Tryz.underlying176
 a105:=Tryz.isAgg176
 z105:=Tryz.sizeOf176
 v105:=Tryz.zeroValue176
 t119:=Tryz.underlying135
 a119:=Tryz.isAgg135
 z119:=Tryz.sizeOf135
 t138:=Tryz.underlying217
 a138:=Tryz.isAgg217
 z138:=Tryz.sizeOf217
 v138:=Tryz.zeroValue217
 t139:=Tryz.underlying218
 a139:=Tryz.isAgg218
 z139:=Tryz.sizeOf218
 v139:=Tryz.zeroValue218
 t146:=Tryz.underlying219
 a146:=Tryz.isAgg219
 z146:=Tryz.sizeOf219
 v146:=Tryz.zeroValue219
 g1:=zq2
 g3:=zq2
 g4:=by kernel_rfl}
open Go.RowKit Go.Lib in
theorem Tryz.strings_Split(s a:ByteArray)(m:Int)(w:World)(b:s.size<4294967281)(c:w.cell? ⟨4,0,none⟩=some (.int .i64 m))(d:1<=a.size):
 Calls Tryz.prog 43 #[.string s,.string a] w fun e w'=>
  e=.returned (.slice (some ⟨w.heap.size,0,none⟩) (Lib.countB s a+1) (Lib.countB s a+1))/\w'=w.alloc (.cells ((Lib.splitB a 0 (Lib.countB s a) s).map Value.string).toArray 9):=Any.strings_Split Tryz.lays146 zq2 s a m w b c d
def Tryz.QF:Go.Shelf.Ren:=⟨fun|172=>44|244=>66|245=>67|247=>87|279=>88|280=>89|281=>90|282=>91|287=>108|316=>109|171=>69|205=>110|321=>122|322=>123|243=>93|246=>111|283=>124|284=>125|285=>126|286=>127|129=>133|317=>132|318=>134|319=>135|320=>136|337=>137|338=>138|n=>n,fun|9=>9|3=>3|75=>109|76=>110|4=>4|5=>5|167=>150|37=>151|0=>0|85=>152|2=>2|168=>154|53=>179|175=>180|46=>182|210=>185|127=>200|145=>205|143=>203|21=>21|171=>206|173=>209|212=>222|51=>161|20=>20|213=>223|232=>226|233=>227|80=>113|n=>n,fun|15=>2|16=>3|17=>7|18=>8|19=>9|n=>n⟩
theorem Tryz.Mv:Go.Proofs.LaysC.n172 Tryz.prog Tryz.QF:={
 mixed:=zq2
 f129:=Tryz.func133.trans (congrArg some zq2)
 f171:=Tryz.func69.trans (congrArg some zq2)
 f172:=Tryz.func44.trans (congrArg some zq2)
 f205:=Tryz.func110.trans (congrArg some zq2)
 f243:=Tryz.func93.trans (congrArg some zq2)
 f244:=Tryz.func66.trans (congrArg some zq2)
 f245:=Tryz.func67.trans (congrArg some zq2)
 f246:=Tryz.func111.trans (congrArg some zq2)
 f247:=Tryz.func87.trans (congrArg some zq2)
 f279:=Tryz.func88.trans (congrArg some zq2)
 f280:=Tryz.func89.trans (congrArg some zq2)
 f281:=Tryz.func90.trans (congrArg some zq2)
 f282:=Tryz.func91.trans (congrArg some zq2)
 f283:=Tryz.func124.trans (congrArg some zq2)
 f284:=Tryz.func125.trans (congrArg some zq2)
 f285:=Tryz.func126.trans (congrArg some zq2)
 f286:=Tryz.func127.trans (congrArg some zq2)
 f287:=Tryz.func108.trans (congrArg some zq2)
 f316:=Tryz.func109.trans (congrArg some zq2)
 f317:=Tryz.func132.trans (congrArg some zq2)
 f318:=Tryz.func134.trans (congrArg some zq2)
 f319:=Tryz.func135.trans (congrArg some zq2)
 f320:=Tryz.func136.trans (congrArg some zq2)
 f321:=Tryz.func122.trans (congrArg some zq2)
 f322:=Tryz.func123.trans (congrArg some zq2)
 f337:=Tryz.func137.trans (congrArg some zq2)
 f338:=Tryz.func138.trans (congrArg some zq2)
 t0:=Tryz.underlying0
 a0:=Tryz.isAgg0
 z0:=Tryz.sizeOf0
 v0:=Tryz.zeroValue0
 t2:=Tryz.underlying2
 a2:=Tryz.isAgg2
 z2:=Tryz.sizeOf2
 v2:=Tryz.zeroValue2
 t3:=Tryz.underlying3
 a3:=Tryz.isAgg3
 z3:=Tryz.sizeOf3
 v3:=Tryz.zeroValue3
 t4:=Tryz.underlying4
 a4:=Tryz.isAgg4
 z4:=Tryz.sizeOf4
 v4:=Tryz.zeroValue4
 t5:=Tryz.underlying5
 a5:=Tryz.isAgg5
 z5:=Tryz.sizeOf5
 v5:=Tryz.zeroValue5
 t9:=Tryz.underlying9
 a9:=Tryz.isAgg9
 z9:=Tryz.sizeOf9
 v9:=Tryz.zeroValue9
 t20:=Tryz.underlying20
 a20:=Tryz.isAgg20
 z20:=Tryz.sizeOf20
 v20:=Tryz.zeroValue20
 t21:=Tryz.underlying21
 a21:=Tryz.isAgg21
 z21:=Tryz.sizeOf21
 v21:=Tryz.zeroValue21
 t37:=Tryz.underlying151
 a37:=Tryz.isAgg151
 z37:=Tryz.sizeOf151
 v37:=Tryz.zeroValue151
 t46:=Tryz.underlying182
 a46:=Tryz.isAgg182
 z46:=Tryz.sizeOf182
 v46:=Tryz.zeroValue182
 t51:=Tryz.underlying161
 a51:=Tryz.isAgg161
 z51:=Tryz.sizeOf161
 v51:=Tryz.zeroValue161
 t53:=Tryz.underlying179
 a53:=Tryz.isAgg179
 z53:=Tryz.sizeOf179
 v53:=Tryz.zeroValue179
 t75:=Tryz.underlying109
 a75:=Tryz.isAgg109
 z75:=Tryz.sizeOf109
 v75:=Tryz.zeroValue109
 t76:=Tryz.underlying110
 a76:=Tryz.isAgg110
 z76:=Tryz.sizeOf110
 v76:=Tryz.zeroValue110
 t85:=Tryz.underlying152
 a85:=Tryz.isAgg152
 z85:=Tryz.sizeOf152
 v85:=Tryz.zeroValue152
 t127:=Tryz.underlying200
 a127:=Tryz.isAgg200
 z127:=Tryz.sizeOf200
 v127:=Tryz.zeroValue200
 t143:=Tryz.underlying203
 a143:=Tryz.isAgg203
 z143:=Tryz.sizeOf203
 v143:=Tryz.zeroValue203
 t145:=Tryz.underlying205
 a145:=Tryz.isAgg205
 z145:=Tryz.sizeOf205
 v145:=Tryz.zeroValue205
 t167:=Tryz.underlying150
 a167:=Tryz.isAgg150
 z167:=Tryz.sizeOf150
 v167:=Tryz.zeroValue150
 t168:=Tryz.underlying154
 a168:=Tryz.isAgg154
 z168:=Tryz.sizeOf154
 v168:=Tryz.zeroValue154
 t171:=Tryz.underlying206
 a171:=Tryz.isAgg206
 z171:=Tryz.sizeOf206
 v171:=Tryz.zeroValue206
 t173:=Tryz.underlying209
 a173:=Tryz.isAgg209
 z173:=Tryz.sizeOf209
 v173:=Tryz.zeroValue209
 t175:=Tryz.underlying180
 a175:=Tryz.isAgg180
 z175:=Tryz.sizeOf180
 v175:=Tryz.zeroValue180
 t210:=Tryz.underlying185
 a210:=Tryz.isAgg185
 z210:=Tryz.sizeOf185
 v210:=Tryz.zeroValue185
 t212:=Tryz.underlying222
 a212:=Tryz.isAgg222
 z212:=Tryz.sizeOf222
 v212:=Tryz.zeroValue222
 t213:=Tryz.underlying223
 a213:=Tryz.isAgg223
 z213:=Tryz.sizeOf223
 t232:=Tryz.underlying226
 a232:=Tryz.isAgg226
 z232:=Tryz.sizeOf226
 v232:=Tryz.zeroValue226
 t233:=Tryz.underlying227
 a233:=Tryz.isAgg227
 z233:=Tryz.sizeOf227
 v233:=Tryz.zeroValue227
 g15:=zq2
 g16:=zq2
 g17:=zq2
 g18:=zq2
 g19:=zq2
 t80:=Tryz.underlying113
 a80:=Tryz.isAgg113
 z80:=Tryz.sizeOf113
 v80:=Tryz.zeroValue113
 i0:=zq2
 i2:=zq2
 i3:=zq2
 i4:=zq2
 i5:=zq2
 i9:=zq2
 i20:=zq2
 i21:=zq2
 i37:=zq2
 i46:=zq2
 i51:=zq2
 i53:=zq2
 i75:=zq2
 i76:=zq2
 i80:=zq2
 i85:=zq2
 i127:=zq2
 i143:=zq2
 i145:=zq2
 i167:=zq2
 i168:=zq2
 i171:=zq2
 i173:=zq2
 i175:=zq2
 i210:=zq2
 i212:=zq2
 i232:=zq2
 i233:=zq2
 m15:=zq2
 m16:=zq2
 m17:=zq2
 m18:=zq2
 m19:=zq2
 c0:=zq2
 c2:=zq2
 c3:=zq2
 c4:=zq2
 c5:=zq2
 c9:=zq2
 c20:=zq2
 c21:=zq2
 c37:=zq2
 c46:=zq2
 c51:=zq2
 c53:=zq2
 c75:=zq2
 c76:=zq2
 c80:=zq2
 c85:=zq2
 c127:=zq2
 c143:=zq2
 c145:=zq2
 c167:=zq2
 c168:=zq2
 c171:=zq2
 c173:=zq2
 c175:=zq2
 c210:=zq2
 c212:=zq2
 c213:=zq2
 c232:=zq2
 c233:=by kernel_rfl}
open Go.RowKit in
theorem Tryz.strconv_Atoi_ok(s:ByteArray)(a:s.size<=9223372036854775806)(v:Int)(h:Lib.atoiAll s.data.toList=.ok v)(w:World):
 Calls Tryz.prog 44 #[.string s] w fun e w'=>e=.returned (.tuple #[.int .i64 v,.nilIface])/\(w'=w\/∃t,w'=Lib.bytesWorld w 5 t):=Any.strconv_Atoi_ok Tryz.Mv s a v h w
open Go.RowKit in
theorem Tryz.strconv_Atoi_syntax_var(s:ByteArray)(a:s.size<=281474976710656)(e:Lib.NumEnd Int)(h:Lib.atoiAll s.data.toList=e)(d:∀v,e≠ .ok v)(f:e≠ .range)(c:TypeId)(p:Value)(w:World)(b:w.var? Tryz.prog "strconv.ErrSyntax" =some #[.iface c p]):
 Calls Tryz.prog 44 #[.string s] w fun e w'=>∃N,e=.returned (.tuple #[.int .i64 0,.iface 154 (.pointer (some ⟨N,0,none⟩))])/\w.heap.size<=N/\w'.heap[N]? =some (.cells #[.string ⟨#[65,116,111,105]⟩,.string s,.iface c p] 185 (0,0))/\Below w.heap.size w w':=Any.strconv_Atoi_syntax_var Tryz.Mv s a (by cases e with|ok v=>exact absurd Z (d v)|range=>exact absurd Z f|_=>exact h) c p w b
open Go.RowKit in
theorem Tryz.strconv_Atoi_range_var(s:ByteArray)(b:s.size<=281474976710656)(h:Lib.atoiAll s.data.toList=.range)(c:TypeId)(p:Value)(w:World)(a:w.var? Tryz.prog "strconv.ErrRange" =some #[.iface c p]):
 Calls Tryz.prog 44 #[.string s] w fun e w'=>∃N,e=.returned (.tuple #[.int .i64 (Lib.atoiSat s.data.toList),.iface 154 (.pointer (some ⟨N,0,none⟩))])/\w.heap.size<=N/\w'.heap[N]? =some (.cells #[.string ⟨#[65,116,111,105]⟩,.string s,.iface c p] 185 (0,0))/\Below w.heap.size w w':=Any.strconv_Atoi_range_var Tryz.Mv s b h c p w a
def Tryz.QG:Go.Shelf.Ren:=⟨fun|171=>69|243=>93|246=>111|283=>124|284=>125|285=>126|286=>127|129=>133|317=>132|318=>134|319=>135|320=>136|337=>137|338=>138|n=>n,fun|3=>3|9=>9|2=>2|4=>4|171=>206|0=>0|53=>179|37=>151|5=>5|173=>209|212=>222|51=>161|20=>20|213=>223|46=>182|232=>226|233=>227|n=>n,fun|17=>7|18=>8|19=>9|n=>n⟩
theorem Tryz.ZR:Go.Proofs.LaysM.n171 Tryz.prog Tryz.QG:={
 mixed:=zq2
 f129:=Tryz.func133.trans (congrArg some zq2)
 f171:=Tryz.func69.trans (congrArg some zq2)
 f243:=Tryz.func93.trans (congrArg some zq2)
 f246:=Tryz.func111.trans (congrArg some zq2)
 f283:=Tryz.func124.trans (congrArg some zq2)
 f284:=Tryz.func125.trans (congrArg some zq2)
 f285:=Tryz.func126.trans (congrArg some zq2)
 f286:=Tryz.func127.trans (congrArg some zq2)
 f317:=Tryz.func132.trans (congrArg some zq2)
 f318:=Tryz.func134.trans (congrArg some zq2)
 f319:=Tryz.func135.trans (congrArg some zq2)
 f320:=Tryz.func136.trans (congrArg some zq2)
 f337:=Tryz.func137.trans (congrArg some zq2)
 f338:=Tryz.func138.trans (congrArg some zq2)
 t0:=Tryz.underlying0
 a0:=Tryz.isAgg0
 z0:=Tryz.sizeOf0
 v0:=Tryz.zeroValue0
 t2:=Tryz.underlying2
 a2:=Tryz.isAgg2
 z2:=Tryz.sizeOf2
 v2:=Tryz.zeroValue2
 t3:=Tryz.underlying3
 a3:=Tryz.isAgg3
 z3:=Tryz.sizeOf3
 v3:=Tryz.zeroValue3
 t4:=Tryz.underlying4
 a4:=Tryz.isAgg4
 z4:=Tryz.sizeOf4
 v4:=Tryz.zeroValue4
 t5:=Tryz.underlying5
 a5:=Tryz.isAgg5
 z5:=Tryz.sizeOf5
 v5:=Tryz.zeroValue5
 t9:=Tryz.underlying9
 a9:=Tryz.isAgg9
 z9:=Tryz.sizeOf9
 v9:=Tryz.zeroValue9
 t20:=Tryz.underlying20
 a20:=Tryz.isAgg20
 z20:=Tryz.sizeOf20
 v20:=Tryz.zeroValue20
 t37:=Tryz.underlying151
 a37:=Tryz.isAgg151
 z37:=Tryz.sizeOf151
 v37:=Tryz.zeroValue151
 t46:=Tryz.underlying182
 a46:=Tryz.isAgg182
 z46:=Tryz.sizeOf182
 v46:=Tryz.zeroValue182
 t51:=Tryz.underlying161
 a51:=Tryz.isAgg161
 z51:=Tryz.sizeOf161
 v51:=Tryz.zeroValue161
 t53:=Tryz.underlying179
 a53:=Tryz.isAgg179
 z53:=Tryz.sizeOf179
 v53:=Tryz.zeroValue179
 t171:=Tryz.underlying206
 a171:=Tryz.isAgg206
 z171:=Tryz.sizeOf206
 v171:=Tryz.zeroValue206
 t173:=Tryz.underlying209
 a173:=Tryz.isAgg209
 z173:=Tryz.sizeOf209
 v173:=Tryz.zeroValue209
 t212:=Tryz.underlying222
 a212:=Tryz.isAgg222
 z212:=Tryz.sizeOf222
 v212:=Tryz.zeroValue222
 t213:=Tryz.underlying223
 a213:=Tryz.isAgg223
 z213:=Tryz.sizeOf223
 t232:=Tryz.underlying226
 a232:=Tryz.isAgg226
 z232:=Tryz.sizeOf226
 v232:=Tryz.zeroValue226
 t233:=Tryz.underlying227
 a233:=Tryz.isAgg227
 z233:=Tryz.sizeOf227
 v233:=Tryz.zeroValue227
 g17:=zq2
 g18:=zq2
 g19:=zq2
 i0:=zq2
 i2:=zq2
 i3:=zq2
 i4:=zq2
 i5:=zq2
 i9:=zq2
 i20:=zq2
 i37:=zq2
 i46:=zq2
 i51:=zq2
 i53:=zq2
 i171:=zq2
 i173:=zq2
 i212:=zq2
 i232:=zq2
 i233:=zq2
 m17:=zq2
 m18:=zq2
 m19:=by kernel_rfl}
open Go.RowKit Go.Sort Go.Lib in
theorem Tryz.strconv_Itoa(n:Int)(b: -9223372036854775808<=n)(c:n<=9223372036854775807)(w:World)(a:Lib.TabIs Tryz.prog w "internal/strconv.uint64pow10" .u64 Lib.pow10Tab):
 Calls Tryz.prog 69 #[.int .i64 n] w fun e w'=>e=.returned (.string ⟨(Lib.itoa n).toArray⟩)/\∃k os,w'=grow (w.drewN k) os:=Any.strconv_Itoa Tryz.ZR n b c w a
def Tryz.R6:Go.Shelf.Ren:=⟨fun|157=>54|229=>72|199=>73|261=>94|311=>112|312=>113|n=>n,fun|9=>9|31=>106|3=>3|5=>5|4=>4|119=>135|0=>0|40=>137|152=>158|21=>21|154=>160|51=>161|141=>163|196=>191|193=>188|198=>194|49=>192|194=>189|201=>197|226=>211|46=>182|227=>212|n=>n,fun|0=>0|6=>1|n=>n⟩
theorem Tryz.lays157:Go.Proofs.Lays.n157 Tryz.prog Tryz.R6:={
 mixed:=zq2
 f157:=Tryz.func54.trans (congrArg some zq2)
 f199:=Tryz.func73.trans (congrArg some zq2)
 f229:=Tryz.func72.trans (congrArg some zq2)
 f261:=Tryz.func94.trans (congrArg some zq2)
 f311:=Tryz.func112.trans (congrArg some zq2)
 f312:=Tryz.func113.trans (congrArg some zq2)
 t0:=Tryz.underlying0
 a0:=Tryz.isAgg0
 z0:=Tryz.sizeOf0
 v0:=Tryz.zeroValue0
 t3:=Tryz.underlying3
 a3:=Tryz.isAgg3
 z3:=Tryz.sizeOf3
 v3:=Tryz.zeroValue3
 t4:=Tryz.underlying4
 a4:=Tryz.isAgg4
 z4:=Tryz.sizeOf4
 v4:=Tryz.zeroValue4
 t5:=Tryz.underlying5
 a5:=Tryz.isAgg5
 z5:=Tryz.sizeOf5
 v5:=Tryz.zeroValue5
 t9:=Tryz.underlying9
 a9:=Tryz.isAgg9
 z9:=Tryz.sizeOf9
 v9:=Tryz.zeroValue9
 t21:=Tryz.underlying21
 a21:=Tryz.isAgg21
 z21:=Tryz.sizeOf21
 v21:=Tryz.zeroValue21
 t31:=Tryz.underlying106
 a31:=Tryz.isAgg106
 z31:=Tryz.sizeOf106
 v31:=Tryz.zeroValue106
 t40:=Tryz.underlying137
 a40:=Tryz.isAgg137
 z40:=Tryz.sizeOf137
 v40:=Tryz.zeroValue137
 t46:=Tryz.underlying182
 a46:=Tryz.isAgg182
 z46:=Tryz.sizeOf182
 v46:=Tryz.zeroValue182
 t49:=Tryz.underlying192
 a49:=Tryz.isAgg192
 z49:=Tryz.sizeOf192
 v49:=Tryz.zeroValue192
 t51:=Tryz.underlying161
 a51:=Tryz.isAgg161
 z51:=Tryz.sizeOf161
 v51:=Tryz.zeroValue161
 t119:=Tryz.underlying135
 a119:=Tryz.isAgg135
 z119:=Tryz.sizeOf135
 t141:=Tryz.underlying163
 a141:=Tryz.isAgg163
 z141:=Tryz.sizeOf163
 v141:=Tryz.zeroValue163
 t152:=Tryz.underlying158
 a152:=Tryz.isAgg158
 z152:=Tryz.sizeOf158
 v152:=Tryz.zeroValue158
 t154:=Tryz.underlying160
 a154:=Tryz.isAgg160
 z154:=Tryz.sizeOf160
 v154:=Tryz.zeroValue160
 t193:=Tryz.underlying188
 a193:=Tryz.isAgg188
 z193:=Tryz.sizeOf188
 v193:=Tryz.zeroValue188
 t194:=Tryz.underlying189
 a194:=Tryz.isAgg189
 z194:=Tryz.sizeOf189
 v194:=Tryz.zeroValue189
 t196:=Tryz.underlying191
 a196:=Tryz.isAgg191
 z196:=Tryz.sizeOf191
 v196:=Tryz.zeroValue191
 t198:=Tryz.underlying194
 a198:=Tryz.isAgg194
 z198:=Tryz.sizeOf194
 v198:=Tryz.zeroValue194
 t201:=Tryz.underlying197
 a201:=Tryz.isAgg197
 z201:=Tryz.sizeOf197
 v201:=Tryz.zeroValue197
 t226:=Tryz.underlying211
 a226:=Tryz.isAgg211
 z226:=Tryz.sizeOf211
 v226:=Tryz.zeroValue211
 t227:=Tryz.underlying212
 a227:=Tryz.isAgg212
 z227:=Tryz.sizeOf212
 v227:=Tryz.zeroValue212
 g0:=zq2
 g6:=by kernel_rfl}
open Go.RowKit Go.Lib in
theorem Tryz.strings_Fields(s:ByteArray)(w:World)(d:s.size<4294967281)(a:∀(j:Nat) b,s.data.toList[j]? =some b->b.toNat<128)(c:Lib.TabIs Tryz.prog w "strings.asciiSpace" .u8 Lib.asciiSpaceTab):
 Calls Tryz.prog 54 #[.string s] w fun e w'=>
  e=.returned (.slice (some ⟨w.heap.size,0,none⟩) (Lib.fields s.data.toList).length (Lib.fields s.data.toList).length)/\w'=w.alloc (.cells ((Lib.fields s.data.toList).map fun l=>Value.string ⟨l.toArray⟩).toArray 9):=Any.strings_Fields Tryz.lays157 zq2 zq2 s w d a c
def Tryz.K6:Go.Shelf.Ren:=⟨fun|156=>77|165=>99|166=>100|169=>101|240=>115|241=>116|276=>128|277=>129|n=>n,fun|31=>106|9=>9|3=>3|4=>4|0=>0|20=>20|72=>170|76=>110|70=>168|37=>151|75=>109|127=>200|164=>213|5=>5|80=>113|n=>n,fun|n=>n⟩
theorem Tryz.V6:Go.Proofs.Lays.n156 Tryz.prog Tryz.K6:={
 mixed:=zq2
 f156:=Tryz.func77.trans (congrArg some zq2)
 f165:=Tryz.func99.trans (congrArg some zq2)
 f166:=Tryz.func100.trans (congrArg some zq2)
 f169:=Tryz.func101.trans (congrArg some zq2)
 f240:=Tryz.func115.trans (congrArg some zq2)
 f241:=Tryz.func116.trans (congrArg some zq2)
 f276:=Tryz.func128.trans (congrArg some zq2)
 f277:=Tryz.func129.trans (congrArg some zq2)
 t0:=Tryz.underlying0
 a0:=Tryz.isAgg0
 z0:=Tryz.sizeOf0
 v0:=Tryz.zeroValue0
 t3:=Tryz.underlying3
 a3:=Tryz.isAgg3
 z3:=Tryz.sizeOf3
 v3:=Tryz.zeroValue3
 t4:=Tryz.underlying4
 a4:=Tryz.isAgg4
 z4:=Tryz.sizeOf4
 v4:=Tryz.zeroValue4
 t9:=Tryz.underlying9
 a9:=Tryz.isAgg9
 z9:=Tryz.sizeOf9
 v9:=Tryz.zeroValue9
 t20:=Tryz.underlying20
 a20:=Tryz.isAgg20
 z20:=Tryz.sizeOf20
 v20:=Tryz.zeroValue20
 t31:=Tryz.underlying106
 a31:=Tryz.isAgg106
 z31:=Tryz.sizeOf106
 v31:=Tryz.zeroValue106
 t37:=Tryz.underlying151
 a37:=Tryz.isAgg151
 z37:=Tryz.sizeOf151
 v37:=Tryz.zeroValue151
 t70:=Tryz.underlying168
 a70:=Tryz.isAgg168
 z70:=Tryz.sizeOf168
 v70:=Tryz.zeroValue168
 t72:=Tryz.underlying170
 a72:=Tryz.isAgg170
 z72:=Tryz.sizeOf170
 v72:=Tryz.zeroValue170
 t75:=Tryz.underlying109
 a75:=Tryz.isAgg109
 z75:=Tryz.sizeOf109
 v75:=Tryz.zeroValue109
 t76:=Tryz.underlying110
 a76:=Tryz.isAgg110
 z76:=Tryz.sizeOf110
 v76:=Tryz.zeroValue110
 t127:=Tryz.underlying200
 a127:=Tryz.isAgg200
 z127:=Tryz.sizeOf200
 v127:=Tryz.zeroValue200
 t164:=Tryz.underlying213
 a164:=Tryz.isAgg213
 z164:=Tryz.sizeOf213
 v164:=Tryz.zeroValue213}
theorem Tryz.BL:Builder.Extra Tryz.prog Tryz.K6:={
 sizeBuilder:=zq2
 liesBuilder:=zq2
 t5:=Tryz.underlying5
 a5:=Tryz.isAgg5
 z5:=Tryz.sizeOf5
 v5:=Tryz.zeroValue5
 infoByte:=zq2
 cellsByte:=zq2
 sizeByte:=zq2
 neB5:=by decide}
open Go.RowKit in
theorem Tryz.strings_Join_none(a:Option Addr)(c:Nat)(b:ByteArray)(w:World):
 Calls Tryz.prog 77 #[.slice a 0 c,.string b] w fun e w'=>e=.returned (.string ⟨#[]⟩)/\w'=w:=Any.strings_Join_none Tryz.V6 Tryz.BL a c b w
open Go.RowKit in
theorem Tryz.strings_Join(g o c:Nat)(xs:List ByteArray)(a:ByteArray)(w:World)(b:∀(j:Nat) x,xs[j]? =some x->w.cell? ⟨g,o+j,none⟩=some (.string x))(h:g<w.heap.size)(i:xs.length<=140737488355328)(f:xs.length<=c)(d:(Lib.join (xs.map (·.data.toList)) a.data.toList).length<=140737488355328):
    Calls Tryz.prog 77 #[.slice (some ⟨g,o,none⟩) xs.length c,.string a] w fun e w'=>e=.returned (.string ⟨(Lib.join (xs.map (·.data.toList)) a.data.toList).toArray⟩)/\Below w.heap.size w w':=Any.strings_Join Tryz.V6 Tryz.BL g o c xs a w b h i f d
end Go.Proofs
namespace Go.LX
open Go Go.Proofs
abbrev Y(n:Int):Value:=.int .i64 n
def rg(a:Nat):Nat->List Nat
 |0=>[]
 |n+1=>a::rg (a+1) n
abbrev cT(p:Nat)(b v1:Value)(st wh:Int)(f:List Frame)(w0:List Value)(c:List (List Val))(a:List Value):Chunk:=(.two (.two (.two (.two (.blk p [b,v1,.int .i64 st,.int .i64 wh]) (.own aT.raw 49 b (List.zip f w0))) (.dn (aY aW 51 hn w0 (List.map aT.sub f)))) (.own (aU Val).raw 47 v1 (List.zip c a))) (.dn (aY aW 51 hn a (List.map (aU Val).sub c))):Chunk)
abbrev cU(b v1:Value)(f:List Frame)(w0:List Value)(c:List (List Val))(a:List Value):Chunk:=(.two (.two (.two (.own aT.raw 49 b (List.zip f w0)) (.dn (aY aW 51 hn w0 (List.map aT.sub f)))) (.own (aU Val).raw 47 v1 (List.zip c a))) (.dn (aY aW 51 hn a (List.map (aU Val).sub c))):Chunk)
theorem osi{α:Type}{a b:α}(h:some a=some b):a=b:=Option.some.inj h
theorem cB{x y:Bool}(c:x=y):Value.bool x=Value.bool y:=congrArg Value.bool c
theorem odt{p:Prop} [Decidable p](h:decide p=true):p:=of_decide_eq_true h
theorem Xl{a b c:Bool}(h:(a&&(b&&c))=true):a=true/\b=true/\c=true:=by simpa using h
theorem pU{n m:Nat}(h:Nat.ble n m=true):n<=m:=Nat.le_of_ble_eq_true h
section
variable{P:Program}{ops:Array Oper}{Q:Exit->Act->World->Prop}{rest:List Oper}{n:Nat}{env:Nat->Value}{w:World}{d:Option Nat}{op:Op}{ty:TypeId}{pos:String}{af:Array Edge}
theorem wTf{j dj:Nat}{b:Bool}(e:(ops[j]?).bind (·.dst)=some dj)(a:ev n env (.tmp dj)=.bool true)(c:(true==b)=false)(h:WL P ops Q rest n (fq env d undef) w):WL P ops Q (⟨d,op,ty,pos,af,some (j,b)⟩::rest) n env w:=jy e a c h
theorem wFf{j dj:Nat}{b:Bool}(e:(ops[j]?).bind (·.dst)=some dj)(a:ev n env (.tmp dj)=.bool false)(c:(false==b)=false)(h:WL P ops Q rest n (fq env d undef) w):WL P ops Q (⟨d,op,ty,pos,af,some (j,b)⟩::rest) n env w:=jy e a c h
end
section
variable{P:Program}{Q Q':Exit->Act->World->Prop}{K1 K2:Act->World->Prop}{n:Nat}{env:Nat->Value}{w:World}{x y:Code}{l:List Oper}{ops:Array Oper}{id i:Nat}
theorem D(h:WL P l.toArray (Exit.then (y.wp P Q) Q) l n env w):WC P (Code.seq (Code.region id l.toArray false) y) Q n env w:=aK (ax h)
theorem nN(h:WC P y Q n env w):WL P ops (Exit.then (y.wp P Q) Q') [] n env w:=ak (aa h)
theorem nR(h:Q .ret (act n env) w):WL P ops (Exit.then (Code.ret.wp P Q) Q') [] n env w:=ak (aa (DC h))
theorem nJ(h:WL P l.toArray (Exit.then (y.wp P Q) Q) l n env w):WL P ops (Exit.then ((Code.seq (Code.region id l.toArray false) y).wp P Q) Q') [] n env w:=nN (D h)
theorem nK(h:WL P l.toArray (Exit.then (x.wp P (Exit.then (y.wp P Q) Q)) (Exit.then (y.wp P Q) Q)) l n env w):WL P ops (Exit.then ((Code.seq (Code.seq (Code.region id l.toArray false) x) y).wp P Q) Q') [] n env w:=nN (aK (D h))
theorem yn(h:WL P l.toArray (Exit.then (y.wp P Q) Q) l n env w):WC P .skip (Exit.then ((Code.seq (Code.region id l.toArray false) y).wp P Q) Q') n env w:=aA (aa (D h))
theorem nE(h:WL P l.toArray (Exit.then (y.wp P Q) Q) l n env w):WC P (.exit i) (Exit.then K1 (Exit.then K2 (Exit.inBlock i (Exit.then ((Code.seq (Code.region id l.toArray false) y).wp P Q) Q')))) n env w:=gJ (bz (bz (dD (aa (D h)))))
end
section
variable{P:Program}{ops:Array Oper}{Q:Exit->Act->World->Prop}{n:Nat}{env:Nat->Value}{w ws:World}{d:Option Nat}{op:Op}{ty:TypeId}{pos:String}{af:Array Edge}{fuel:Nat}{listed:Array Bool}{v:Value}{L:BS}
theorem wh_okn(i:Nat)(f:Grow ws w)(c:ops[i]? =some ⟨d,op,ty,pos,af,none⟩)(b:(Region.noSelect ops&&(Region.free .any ops listed i&&(Region.ready .any ops listed).contains i))=true)(e:∀a,Grow ws a->(execOp (ev n env) ⟨d,op,ty,pos,af,none⟩).run P a=.ok (.value v) a)(h:WH P ops ws Q fuel (listed.setIfInBounds i true) n (fq env d v) w):WH P ops ws Q (fuel+1) listed n env w:=wh_ok i f c dE (Xl b).1 (Xl b).2.1 (Xl b).2.2 e h
theorem whk_okn(i:Nat)(f:bG L ws w)(c:ops[i]? =some ⟨d,op,ty,pos,af,none⟩)(b:(Region.noSelect ops&&(Region.free .any ops listed i&&(Region.ready .any ops listed).contains i))=true)(e:∀a,bG L ws a->(execOp (ev n env) ⟨d,op,ty,pos,af,none⟩).run P a=.ok (.value v) a)(h:Mf P ops L ws Q fuel (listed.setIfInBounds i true) n (fq env d v) w):Mf P ops L ws Q (fuel+1) listed n env w:=Zo i f c dE (Xl b).1 (Xl b).2.1 (Xl b).2.2 e h
end
end Go.LX
namespace Go.Proofs.YtcbdckebgjdlhaaGreatDoor
open Go Go.Proofs Go.LX Tryz
noncomputable section
theorem Js:Arr2 prog 98 45:=⟨underlying98,⟨nS,nS,by kernel_rfl⟩,by kernel_rfl,⟨_,underlying45⟩⟩
theorem Pj:pR prog 106 9 1 16:=⟨underlying106,xe (z:=(bD [])) zq2 Z⟩
theorem Xm:pR prog 164 45 1 24:=⟨underlying164,xe (z:=nS) zq2 Z⟩
theorem R7:pR prog 22 47 3 40:=⟨underlying22,xe (z:=(.agg #[(Y 0),(Y 0),nS])) zq2 Z⟩
theorem Iy:pR prog 23 58 3 40:=⟨underlying23,xe (z:=(.agg #[(Y 0),(Y 0),nS])) zq2 Z⟩
theorem iY:pR prog 30 3 1 8:=⟨underlying30,xe (z:=(Y 0)) zq2 Z⟩
theorem mr:pR prog 31 66 1 24:=⟨underlying31,xe (z:=nS) zq2 Z⟩
theorem sU:pR prog 34 68 4 48:=⟨underlying34,xe (z:=(.agg #[(Y 0),(Y 0),nS,(Y 0)])) zq2 Z⟩
theorem R8:pR prog 45 80 6 112:=⟨underlying45,xe (z:=(.agg #[(Y 0),(Y 0),nS,nS,nS,nS])) zq2 Z⟩
theorem fI:pR prog 49 56 5 56:=⟨underlying49,xe (z:=(.agg #[(Y 0),(Y 0),(Y 0),(Y 0),nS])) zq2 Z⟩
theorem pI:pR prog 66 64 2 16:=⟨underlying66,xe (z:=(.agg #[(Y 0),(Y 0)])) zq2 Z⟩
theorem R9:pR prog 78 100 2 16:=⟨underlying78,xe (z:=(.agg #[(Y 0),(Y 0)])) zq2 Z⟩
theorem AR:eO prog 100 0 0:=⟨_,_,0,underlying100,rfl,rfl,by kernel_rfl⟩
theorem eF:eO prog 100 1 1:=⟨_,_,0,underlying100,rfl,rfl,by kernel_rfl⟩
theorem QH:eO prog 33 0 0:=⟨_,_,0,underlying33,rfl,rfl,by kernel_rfl⟩
theorem LG:eO prog 33 1 1:=⟨_,_,0,underlying33,rfl,rfl,by kernel_rfl⟩
theorem QI:eO prog 33 2 2:=⟨_,_,0,underlying33,rfl,rfl,by kernel_rfl⟩
theorem vU:eO prog 33 3 3:=⟨_,_,0,underlying33,rfl,rfl,by kernel_rfl⟩
theorem Iz:eO prog 33 4 4:=⟨_,_,0,underlying33,rfl,rfl,by kernel_rfl⟩
theorem xn:eO prog 33 5 5:=⟨_,_,0,underlying33,rfl,rfl,by kernel_rfl⟩
theorem BM:eO prog 33 6 6:=⟨_,_,0,underlying33,rfl,rfl,by kernel_rfl⟩
theorem ic:eO prog 36 0 0:=⟨_,_,0,underlying36,rfl,rfl,by kernel_rfl⟩
theorem mJ:eO prog 36 1 1:=⟨_,_,0,underlying36,rfl,rfl,by kernel_rfl⟩
theorem su:eO prog 36 2 2:=⟨_,_,0,underlying36,rfl,rfl,by kernel_rfl⟩
theorem IA:eO prog 36 3 3:=⟨_,_,0,underlying36,rfl,rfl,by kernel_rfl⟩
theorem pJ:eO prog 47 0 0:=⟨_,_,0,underlying47,rfl,rfl,by kernel_rfl⟩
theorem sD:eO prog 47 1 1:=⟨_,_,0,underlying47,rfl,rfl,by kernel_rfl⟩
theorem Ah:eO prog 47 2 2:=⟨_,_,0,underlying47,rfl,rfl,by kernel_rfl⟩
theorem Fld51x0:eO prog 51 0 0:=⟨_,_,0,underlying51,rfl,rfl,by kernel_rfl⟩
theorem uJ:eO prog 51 1 1:=⟨_,_,0,underlying51,rfl,rfl,by kernel_rfl⟩
theorem QJ:eO prog 51 2 2:=⟨_,_,0,underlying51,rfl,rfl,by kernel_rfl⟩
theorem sF:eO prog 56 0 0:=⟨_,_,0,underlying56,rfl,rfl,by kernel_rfl⟩
theorem mK:eO prog 56 1 1:=⟨_,_,0,underlying56,rfl,rfl,by kernel_rfl⟩
theorem jg:eO prog 56 2 2:=⟨_,_,0,underlying56,rfl,rfl,by kernel_rfl⟩
theorem uK:eO prog 56 3 3:=⟨_,_,0,underlying56,rfl,rfl,by kernel_rfl⟩
theorem Ai:eO prog 56 4 4:=⟨_,_,0,underlying56,rfl,rfl,by kernel_rfl⟩
theorem IB:eO prog 58 0 0:=⟨_,_,0,underlying58,rfl,rfl,by kernel_rfl⟩
theorem DR:eO prog 58 1 1:=⟨_,_,0,underlying58,rfl,rfl,by kernel_rfl⟩
theorem vV:eO prog 58 2 2:=⟨_,_,0,underlying58,rfl,rfl,by kernel_rfl⟩
theorem oq:eO prog 64 0 0:=⟨_,_,0,underlying64,rfl,rfl,by kernel_rfl⟩
theorem fB:eO prog 64 1 1:=⟨_,_,0,underlying64,rfl,rfl,by kernel_rfl⟩
theorem FO:eO prog 68 0 0:=⟨_,_,0,underlying68,rfl,rfl,by kernel_rfl⟩
theorem BN:eO prog 68 1 1:=⟨_,_,0,underlying68,rfl,rfl,by kernel_rfl⟩
theorem sG:eO prog 68 2 2:=⟨_,_,0,underlying68,rfl,rfl,by kernel_rfl⟩
theorem LH:eO prog 68 3 3:=⟨_,_,0,underlying68,rfl,rfl,by kernel_rfl⟩
theorem Fld71x0:eO prog 71 0 0:=⟨_,_,0,underlying71,rfl,rfl,by kernel_rfl⟩
theorem Fld71x1:eO prog 71 1 1:=⟨_,_,0,underlying71,rfl,rfl,by kernel_rfl⟩
theorem QK:eO prog 71 2 2:=⟨_,_,0,underlying71,rfl,rfl,by kernel_rfl⟩
theorem jU:eO prog 80 0 0:=⟨_,_,0,underlying80,rfl,rfl,by kernel_rfl⟩
theorem ou:eO prog 80 1 1:=⟨_,_,0,underlying80,rfl,rfl,by kernel_rfl⟩
theorem uL:eO prog 80 2 2:=⟨_,_,0,underlying80,rfl,rfl,by kernel_rfl⟩
theorem Aj:eO prog 80 3 3:=⟨_,_,0,underlying80,rfl,rfl,by kernel_rfl⟩
theorem uM:eO prog 80 4 4:=⟨_,_,0,underlying80,rfl,rfl,by kernel_rfl⟩
theorem xq:eO prog 80 5 5:=⟨_,_,0,underlying80,rfl,rfl,by kernel_rfl⟩
theorem Xn:Zw prog 109:=⟨by kernel_rfl⟩
theorem iO:xc prog 100 [(Y 0),(Y 0)]:=⟨⟨_,underlying100,trivial⟩,by kernel_rfl⟩
theorem dQ:xc prog 36 [nS,nS,(Y 0),(Y 0)]:=⟨⟨_,underlying36,trivial⟩,by kernel_rfl⟩
theorem lg:xc prog 47 [(Y 0),(Y 0),nS]:=⟨⟨_,underlying47,trivial⟩,by kernel_rfl⟩
theorem rX:xc prog 56 [(Y 0),(Y 0),(Y 0),(Y 0),nS]:=⟨⟨_,underlying56,trivial⟩,by kernel_rfl⟩
theorem zF:xc prog 58 [(Y 0),(Y 0),nS]:=⟨⟨_,underlying58,trivial⟩,by kernel_rfl⟩
theorem aQ:xc prog 64 [(Y 0),(Y 0)]:=⟨⟨_,underlying64,trivial⟩,by kernel_rfl⟩
theorem pV:xc prog 68 [(Y 0),(Y 0),nS,(Y 0)]:=⟨⟨_,underlying68,trivial⟩,by kernel_rfl⟩
theorem jP:xc prog 71 [(.bool (false)),(Y 0),(.bool (false))]:=⟨⟨_,underlying71,trivial⟩,by kernel_rfl⟩
theorem kE:xc prog 80 [(Y 0),(Y 0),nS,nS,nS,nS]:=⟨⟨_,underlying80,trivial⟩,by kernel_rfl⟩
theorem ni:MapOf prog 114 (bD []):=⟨_,_,underlying114,underlying3,by kernel_rfl⟩
theorem Sa:MapOf prog 142 (Y 0):=⟨_,_,underlying142,underlying3,by kernel_rfl⟩
theorem IC:MapOf prog 172 (.bool (false)):=⟨_,_,underlying172,underlying3,by kernel_rfl⟩
theorem FP:Mt prog 171 (.agg #[(Y 0),(Y 0)]):=⟨_,_,underlying171,underlying4,by kernel_rfl⟩
theorem pW:One prog 106 nS:=⟨⟨_,underlying106,trivial⟩,by kernel_rfl,rfl⟩
theorem DT:One prog 113 .nilFunc:=⟨⟨_,underlying113,trivial⟩,by kernel_rfl,rfl⟩
theorem QL:One prog 119 .nilFunc:=⟨⟨_,underlying119,trivial⟩,by kernel_rfl,rfl⟩
theorem Mw:One prog 120 .nilFunc:=⟨⟨_,underlying120,trivial⟩,by kernel_rfl,rfl⟩
theorem QM:One prog 142 (.map none):=⟨⟨_,underlying142,trivial⟩,by kernel_rfl,rfl⟩
theorem Jt:One prog 172 (.map none):=⟨⟨_,underlying172,trivial⟩,by kernel_rfl,rfl⟩
theorem y5:One prog 22 nS:=⟨⟨_,underlying22,trivial⟩,by kernel_rfl,rfl⟩
theorem aR:One prog 3 (Y 0):=⟨⟨_,underlying3,trivial⟩,by kernel_rfl,rfl⟩
theorem uZ:One prog 30 nS:=⟨⟨_,underlying30,trivial⟩,by kernel_rfl,rfl⟩
theorem lq:One prog 31 nS:=⟨⟨_,underlying31,trivial⟩,by kernel_rfl,rfl⟩
theorem kZ:One prog 34 nS:=⟨⟨_,underlying34,trivial⟩,by kernel_rfl,rfl⟩
theorem qm:One prog 4 (.bool (false)):=⟨⟨_,underlying4,trivial⟩,by kernel_rfl,rfl⟩
theorem l6:One prog 45 nS:=⟨⟨_,underlying45,trivial⟩,by kernel_rfl,rfl⟩
theorem qK:One prog 49 nS:=⟨⟨_,underlying49,trivial⟩,by kernel_rfl,rfl⟩
theorem qo:One prog 66 nS:=⟨⟨_,underlying66,trivial⟩,by kernel_rfl,rfl⟩
theorem vg:One prog 78 nS:=⟨⟨_,underlying78,trivial⟩,by kernel_rfl,rfl⟩
theorem CF:One prog 9 (bD []):=⟨⟨_,underlying9,trivial⟩,by kernel_rfl,rfl⟩
theorem V7:Zh prog 64:=⟨⟨_,_,underlying64,by decide,by decide,rfl,rfl,underlying3,underlying3,by kernel_rfl,by kernel_rfl⟩,by kernel_rfl,by kernel_rfl⟩
theorem gG:SliceOf prog 106 9 1:=⟨underlying106,by kernel_rfl⟩
theorem Mx:SliceOf prog 164 45 1:=⟨underlying164,by kernel_rfl⟩
theorem eG:SliceOf prog 22 47 3:=⟨underlying22,by kernel_rfl⟩
theorem lC:SliceOf prog 23 58 3:=⟨underlying23,by kernel_rfl⟩
theorem dZ:SliceOf prog 30 3 1:=⟨underlying30,by kernel_rfl⟩
theorem gm:SliceOf prog 31 66 1:=⟨underlying31,by kernel_rfl⟩
theorem fJ:SliceOf prog 34 68 4:=⟨underlying34,by kernel_rfl⟩
theorem iA:SliceOf prog 45 80 6:=⟨underlying45,by kernel_rfl⟩
theorem gX:SliceOf prog 49 56 5:=⟨underlying49,by kernel_rfl⟩
theorem bY:SliceOf prog 66 64 2:=⟨underlying66,by kernel_rfl⟩
theorem gp:SliceOf prog 78 100 2:=⟨underlying78,by kernel_rfl⟩
theorem CG:Struct prog 100 [(Y 0),(Y 0)] [(0,1),(1,1)]:=⟨by kernel_rfl,_,underlying100,by kernel_rfl⟩
theorem ZT:Struct prog 33 [nS,nS,(Y 0),nS,(Y 0),(.bool (false)),(.bool (false))] [(0,1),(1,1),(2,1),(3,1),(4,1),(5,1),(6,1)]:=⟨by kernel_rfl,_,underlying33,by kernel_rfl⟩
theorem AU:Struct prog 36 [nS,nS,(Y 0),(Y 0)] [(0,1),(1,1),(2,1),(3,1)]:=⟨by kernel_rfl,_,underlying36,by kernel_rfl⟩
theorem ZU:Struct prog 47 [(Y 0),(Y 0),nS] [(0,1),(1,1),(2,1)]:=⟨by kernel_rfl,_,underlying47,by kernel_rfl⟩
theorem ZV:Struct prog 51 [nS,nS,(Y 0)] [(0,1),(1,1),(2,1)]:=⟨by kernel_rfl,_,underlying51,by kernel_rfl⟩
theorem gz:Struct prog 56 [(Y 0),(Y 0),(Y 0),(Y 0),nS] [(0,1),(1,1),(2,1),(3,1),(4,1)]:=⟨by kernel_rfl,_,underlying56,by kernel_rfl⟩
theorem Sb:Struct prog 58 [(Y 0),(Y 0),nS] [(0,1),(1,1),(2,1)]:=⟨by kernel_rfl,_,underlying58,by kernel_rfl⟩
theorem iB:Struct prog 64 [(Y 0),(Y 0)] [(0,1),(1,1)]:=⟨by kernel_rfl,_,underlying64,by kernel_rfl⟩
theorem MB:Struct prog 68 [(Y 0),(Y 0),nS,(Y 0)] [(0,1),(1,1),(2,1),(3,1)]:=⟨by kernel_rfl,_,underlying68,by kernel_rfl⟩
theorem ZW:Struct prog 71 [(.bool (false)),(Y 0),(.bool (false))] [(0,1),(1,1),(2,1)]:=⟨by kernel_rfl,_,underlying71,by kernel_rfl⟩
theorem ZX:Struct prog 80 [(Y 0),(Y 0),nS,nS,nS,nS] [(0,1),(1,1),(2,1),(3,1),(4,1),(5,1)]:=⟨by kernel_rfl,_,underlying80,by kernel_rfl⟩
theorem mixed:prog.follows .mixedOrders=true:=zq2
def mZ(b:Int->Option (Int×Bool))(a:Int):Option (Int×Bool):=
 b a
def jB(F0:List aN->Int->Option (Int×Bool))(d:aN)(b:Int)(e:Int->Option (Int×Bool))(a:Int):Option (Int×Bool):=
 bif decide ((d.b.length:Int)=0)then mZ e a else gD (jY (b+1)) ((F0 d.b (b+1)).bind fun c=>gD (jY (a+c.1)) (bif ((!c.2)||decide (30<(a+c.1)))then some (0,false)else mZ e (a+c.1)))
def iC(F0:List aN->Int->Option (Int×Bool))(a:List aN)(b:Int)(e:aN)(c:Int)(f:Int->Option (Int×Bool)):Option (Int×Bool):=
 gD (jY (c+1)) (bif decide (30<(c+1))then some (0,false)else bif decide ((e.a.length:Int)=0)then jB F0 e b f (c+1)else gD (jY (b+1)) ((F0 e.a (b+1)).bind fun d=>gD (jY ((c+1)+d.1)) (bif ((!d.2)||decide (30<((c+1)+d.1)))then some (0,false)else jB F0 e b f ((c+1)+d.1))))
def jC(a:Int):Option (Int×Bool):=
 some (a,true)
def lT(F0:List aN->Int->Option (Int×Bool))(a:List aN)(b:Int):Option (Int×Bool):=
 bif decide (4<b)then some (0,false)else each (iC F0 a b) jC a 0
def cK:Nat->List aN->Int->Option (Int×Bool)
 |0=>fun _ _=>none
 |N+1=>lT (cK N)
theorem MC:∀(N:Nat) (w0:World) (M:BS) (R:qJ M w0) (n:Value) (a:List aN) (v:ik dz w0 BE M n a) (b:Int) (r:Int×Bool) (c:cK N a b=some r),
  Calls prog 22 #[n,(Y b)] w0 (fun e w'=>Grow w0 w'/\e=.returned (.tuple #[.int .i64 r.1,.bool r.2])):=by
 intro N;induction N with
 |zero=>intro w0 M R n a v b r c;cases c
 |succ N ih=>
 intro w0 M R n a v b r c;replace c:lT (cK N) a b=some r:=c;generalize cK N=F0 at c ih;refine cst func22 ntmps22 Z ?_;have h:=SH.init R;replace h:=h.il 1 v bO;have vC:=v.bZ;refine D<|aI Z<|aB Z<|nK<|mI Z<|F (iW Z Z)<|nN<|ay c Z (fun c1 c=>?_) fun c1 c=>?_;refine D<|aI Z<|aB Z<|nR<|ah<|yV (v1:=(Y 0)) (v2:=(.bool<|false)) results22 Z Z ?_;cases c;exact⟨h.grown,Z⟩;refine yn<|aI Z<|nK<|mV n Z<|jF h 1 iA Z<|mI Z<|nN<|aL<|gZ (σ:=Nat×Int×Int) (inl ([4,5,6,8,10,11,12]++rg 17 37)) (fun⟨o,s,m⟩=>[(6,(Y m)),(17,(Y s))]) (fun⟨o,s,m⟩w=>SH w0 M BE w (hset [(1,.sr dz n a)])/\s=(o:Int)/\each (iC F0 a b) jC (a.drop o) m=some r) (fun⟨o,s,m⟩=>a.length-o) ⟨0,0,0⟩ ⟨Z,Z,U⟩ ?_ ?_;exact⟨h.cn _,Z,c⟩;rintro⟨o,s,m⟩w dJ⟨h,g,c⟩;refine D ?_;refine iV Z<|nN ?_;refine aK<|iU Z (fun l=>?_) fun l=>?_;refine aA<|aa ?_;obtain⟨p,F7,u,ZY,c⟩:=lQ g l c;have t:=gU ((h.l7 1 Z)).bZ g l;refine aK<|aL<|D ?_;obtain⟨a4,a6,a2,h,S,x⟩:=h.Dv 1 2 Z iA Z (je g)<|gT g u;obtain⟨QN,a5,f,i,rfl,P,a1,L,K⟩:=sS S;replace h:=((h.bA 3 P.up).bA 4 a1.up.up).bA 5 L.up.up.up;replace h:=h.bA 6 K.up.up.up.up;refine pY x Z<|EW (k:=0) h 2 kE Z<|bJ h 7 kE fun w a3 h=>bS h 7 kE Z (aj Z<|aj Z<|aj (h.fH 3 Z).one<|aj (h.fH 4 Z).one<|aj (h.fH 5 Z).one<|aj (h.fH 6 Z).one bE) fun w h=>nK<|mI Z ?_;obtain⟨C,c⟩:=bg c;refine fD Z C<|aI Z<|nJ<|mI Z<|F (iW Z Z)<|nN<|ay c Z (fun G c=>?_) fun G c=>?_;refine D<|aI Z<|aB Z<|nR<|ah<|ai<|ah<|ah<|ai<|ah<|yV (v1:=(Y 0)) (v2:=(.bool<|false)) results22 Z Z ?_;cases c;exact⟨h.grown,Z⟩;refine yn<|dM uM Z<|lB h 7 l6 Z<|dM xq Z<|lB h 7 l6 Z<|F (RO Js Z Z (h.fH 5 Z).one (h.fH 6 Z).one)<|mI Z<|nN<|aL<|O1 2<|D<|iV Z<|nN<|aK<|LY Z<|aA<|aa<|bP (σ:=Int) (inl ([4,5,6,10,11,12]++rg 32 20)) (fun d=>[(6,(Y d))]) (fun d w=>SH w0 M BE w (hset [(1,.sr dz n a),(5,.rd dz f p.a),(6,.rd dz i p.b)])/\jB F0 p b F7 d=some r) ?_ ?_;rintro d w dJ⟨h,c⟩;refine ax<|F (LZ Z Z zq1)<|mI Z<|ak<|DJ<|D<|iV Z<|nN<|aK<|LY Z<|aA<|aa<|bP (σ:=Int) (inl ([4,5,6,10,11,12]++rg 32 20)) (fun j=>[(6,(Y j))]) (fun j w=>SH w0 M BE w (hset [(1,.sr dz n a),(5,.rd dz f p.a),(6,.rd dz i p.b)])/\mZ F7 j=some r) ?_ ?_;rintro j w dJ⟨h,c⟩;refine ax<|F (LZ Z Z zq1)<|mI Z<|ak<|DJ<|D<|iV Z<|nN<|aK<|TP Z<|gJ<|bz<|bz<|dD<|ae<|aa<|ax<|fD Z t<|mI Z<|ak<|ag ?_;subst ZY;exact ky ⟨o+1,s+1,j⟩ ⟨h.cn _,by omega,c⟩<|vI g l;refine aL<|D<|F (Ik (k:=1) Js Z Z Z)<|aV i Z<|nK<|mV i Z<|ng h 6 iA Z<|dA Z<|nN<|ay c Z (fun O c=>?_) fun O c=>?_;refine gJ<|bz<|dD<|ag ?_;exact bI d ⟨h.cn _,c⟩;refine yn<|mV i Z<|mI Z ?_;obtain⟨T,c⟩:=bg c
 refine fD Z T ?_;obtain⟨X,A,c⟩:=aC c;refine bW h fo Z Z (ih _ _ h.lt i p.b (h.rD 6 Z) (b+1) _ A) fun w h=>?_;refine mV (.tuple #[(Y X.1),(.bool<|X.2)]) Z<|gQ Z<|gQ Z<|aI Z<|aB Z<|nJ<|mI Z<|mI Z ?_;obtain⟨y,c⟩:=bg c;refine fD Z y<|aI Z<|nJ<|mB Z<|F (gY Z)<|mB Z<|Jh Z<|aO Z Z (fun q=>iW (ed q) Z)<|F (fE Z Z ku)<|nN<|ay c Z (fun J c=>?_) fun J c=>?_;refine D<|aI Z<|aB Z<|nR<|ai<|ah<|ah<|ai<|ai<|ah<|ah<|ai<|ah<|yV (v1:=(Y 0)) (v2:=(.bool<|false)) results22 Z Z ?_;cases c;exact⟨h.grown,Z⟩;refine aA<|ae<|ag ?_;exact bI (d+X.1) ⟨h.cn _,c⟩;refine aL<|D<|F (Ik (k:=0) Js Z Z Z)<|aV f Z<|nK<|mV f Z<|ng h 5 iA Z<|dA Z<|nN<|ay c Z (fun a0 c=>?_) fun a0 c=>?_;refine gJ<|bz<|dD<|ag ?_;exact bI (m+1) ⟨h.cn _,c⟩;refine yn<|mV f Z<|mI Z ?_;obtain⟨E,c⟩:=bg c;refine fD Z E ?_;obtain⟨z,B,c⟩:=aC c;refine bW h fo Z Z (ih _ _ h.lt f p.a (h.rD 5 Z) (b+1) _ B) fun w h=>?_;refine mV (.tuple #[(Y z.1),(.bool<|z.2)]) Z<|gQ Z<|gQ Z<|aI Z<|aB Z<|nJ<|mI Z<|mI Z ?_;obtain⟨Q,c⟩:=bg c;refine fD Z Q<|aI Z<|nJ<|mB Z<|F (gY Z)<|mB Z<|Jh Z<|aO Z Z (fun q=>iW (ed q) Z)<|F (fE Z Z ku)<|nN<|ay c Z (fun I c=>?_) fun I c=>?_;refine D<|aI Z<|aB Z<|nR<|ai<|ah<|ah<|ai<|ai<|ah<|ah<|ai<|ah<|yV (v1:=(Y 0)) (v2:=(.bool<|false)) results22 Z Z ?_;cases c;exact⟨h.grown,Z⟩;refine aA<|ae<|ag ?_;exact bI ((m+1)+z.1) ⟨h.cn _,c⟩;replace c:=qI g l c;refine nE<|mI Z<|aI Z<|aB Z<|nR<|yV (v1:=(Y m)) (v2:=(.bool<|true)) results22 Z Z ?_;cases c;exact⟨h.grown,Z⟩
def pX(a:Bool)(b:Int):Option (Int×Int):=
 bif (!a)then some (0,3)else some (b,0)
def DU(a:Tok)(b:List dw)(c:Int):Option (Int×Int):=
 bif decide (a.kind=1)then pX (decide (-1000000000<=a.n)&&decide (a.n<=1000000000)) 0 else bif decide (a.kind=2)then pX (decide (0<=a.n)&&decide (a.n<c)) 0 else bif decide (a.kind=3)then pX (decide (1<=a.n)&&decide (a.n<=5)) 2 else bif decide (a.kind=4)then pX (decide (0<=a.n)&&decide (a.n<4)) 1 else bif decide (a.kind=5)then pX (decide (1<=a.n)&&decide (a.n<=4)) 0 else bif decide (a.kind=6)then bif (decide (a.n<0)||decide ((b.length:Int)<=a.n))then some (0,5)else(idx b a.n).bind fun d=>some (d.params,0)else some (0,4)
theorem QO(w0:World)(M:BS)(I:qJ M w0)(a:Tok)(i:Value)(b:List dw)(t:ik eU w0 BE M i b)(c:Int)(r:Int×Int)(d:DU a b c=some r):
  Calls prog 83 #[(.agg #[(Y a.kind),(Y a.n)]),i,(Y c)] w0 (fun e w'=>Grow w0 w'/\e=.returned (.tuple #[.int .i64 r.1,.int .i64 r.2])):=by
 refine cst func83 ntmps83 Z ?_;have h:=SH.init I;replace h:=h.il 1 t bO;have K:=t.bZ;refine D<|pE (cs:=[(Y a.kind),(Y a.n)]) h 2 Z Z fun w N h=>aI Z<|aI Z<|nJ<|aB Z<|aI Z<|nN<|bP (σ:=Bool×Int) (inl<|rg 6 75) (fun⟨j,g⟩=>[(8,(.bool<|j)),(9,(Y g))]) (fun⟨j,g⟩w=>SH w0 M BE w (hset [])/\pX j g=some r) ?_ ?_;rintro⟨j,g⟩w J⟨h,d⟩;refine aK<|D<|mB Z<|F (gY Z)<|nN<|ay d Z (fun z d=>?_) fun z d=>?_;refine D<|aI Z<|aI Z<|nR<|ah<|yV (v1:=(Y 0)) (v2:=(Y 3)) results83 Z Z ?_;cases d;exact⟨h.grown,Z⟩;refine yn<|mI Z<|aI Z<|aI Z<|nR<|yV (v1:=(Y g)) (v2:=(Y 0)) results83 Z Z ?_;cases d;exact⟨h.grown,Z⟩;refine D<|dM AR Z<|lB h 2 aR Z<|nN<|aL<|D<|dA Z<|aB Z<|nN<|ay d Z (fun y d=>?_) fun y d=>?_;refine ax<|dM eF Z<|lB h 2 aR Z<|F (lJ Z Z)<|mB Z<|vT eF Z<|uI h 2 aR Z<|aO Z Z (fun q=>Eo (ed q) Z)<|F (fK Z Z ku)<|aB Z<|ak<|ae<|ag ?_;exact bI ((decide (-1000000000<=a.n)&&decide (a.n<=1000000000)),0) ⟨h.cn _,d⟩;refine D<|dA Z<|aB Z<|nN<|ay d Z (fun B d=>?_) fun B d=>?_;refine ax<|dM eF Z<|lB h 2 aR Z<|F (lJ Z Z)<|mB Z<|vT eF Z<|uI h 2 aR Z<|Jh Z<|aO Z Z (fun q=>ym (ed q)<|ed q)<|F (fK Z Z ku)<|aB Z<|ak<|ae<|ag ?_;exact bI ((decide (0<=a.n)&&decide (a.n<c)),0) ⟨h.cn _,d⟩;refine D<|dA Z<|aB Z<|nN<|ay d Z (fun C d=>?_) fun C d=>?_;refine ax<|dM eF Z<|lB h 2 aR Z<|F (lJ Z Z)<|mB Z<|vT eF Z<|uI h 2 aR Z<|aO Z Z (fun q=>Eo (ed q) Z)<|F (fK Z Z ku)<|aB Z<|aI Z<|ak<|ae<|ag ?_;exact bI ((decide (1<=a.n)&&decide (a.n<=5)),2) ⟨h.cn _,d⟩;refine D<|dA Z<|aB Z<|nN<|ay d Z (fun A d=>?_) fun A d=>?_;refine ax<|dM eF Z<|lB h 2 aR Z<|F (lJ Z Z)<|mB Z<|vT eF Z<|uI h 2 aR Z<|aO Z Z (fun q=>ym (ed q) Z)<|F (fK Z Z ku)<|aB Z<|aI Z<|ak<|ae<|ag ?_;exact bI ((decide (0<=a.n)&&decide (a.n<4)),1) ⟨h.cn _,d⟩;refine D<|dA Z<|aB Z<|nN<|ay d Z (fun c9 d=>?_) fun c9 d=>?_;refine ax<|dM eF Z<|lB h 2 aR Z<|F (lJ Z Z)<|mB Z<|vT eF Z<|uI h 2 aR Z<|aO Z Z (fun q=>Eo (ed q) Z)<|F (fK Z Z ku)<|aB Z<|ak<|ae<|ag ?_;exact bI ((decide (1<=a.n)&&decide (a.n<=4)),0) ⟨h.cn _,d⟩;refine D<|dA Z<|aB Z<|nN<|ay d Z (fun o d=>?_) fun o d=>?_;refine aK<|D<|dM eF Z<|lB h 2 aR Z<|iV Z<|mB Z<|vT eF Z<|uI h 2 aR Z<|aO Z Z (fun q=>bM (v:=i) Z)<|aO Z Z (fun q=>iH eG (ed q)<|h.l7 1 Z)<|aO Z Z (fun q=>lJ (ed q)<|ed q)<|F (fE Z Z ku)<|nN<|ay d Z (fun m d=>?_) fun m d=>?_;refine D<|aI Z<|aI Z<|nR<|ah<|ai<|ah<|yV (v1:=(Y 0)) (v2:=(Y 5)) results83 Z Z ?_;cases d;exact⟨h.grown,Z⟩;refine yn<|mV i Z<|dM eF Z<|lB h 2 aR Z ?_;obtain⟨E,f,d⟩:=aC d
 obtain⟨x,G,u,h,l,p⟩:=h.Dv 1 3 Z eG Z (aD f).1 (aD f).2;obtain⟨L,rfl,s⟩:=kW l;replace h:=h.bA 4 s.up;refine pY p Z<|dM pJ Z<|F (gu (k:=0) h 3 Z aR Z Z)<|aI Z<|aI Z<|nR<|ai<|ah<|yV (v1:=(Y E.params)) (v2:=(Y 0)) results83 Z Z ?_;cases d;exact⟨h.grown,Z⟩;refine D<|aI Z<|aI Z<|nR<|ai<|ah<|yV (v1:=(Y 0)) (v2:=(Y 4)) results83 Z Z ?_;cases d;exact⟨h.grown,Z⟩
def o7(b:List dw)(c:Int)(f:Tok)(e:Int)(d:Int->Option Int):Option Int:=
 (DU f b c).bind fun a=>bif decide (a.2≠0)then some a.2 else bif decide (e=0)then some 4 else gD (jY (a.1-1)) (gD (jY (e+(a.1-1))) (d (e+(a.1-1))))
def l9(a:Int):Option Int:=
 bif decide (0<a)then some 4 else some 0
def zG(b:List dw)(c:Int)(a:List Tok)(d:Bool):Option Int:=
 bif d then some 3 else each (o7 b c) l9 a 1
def pg(b:List dw)(c:Int)(a:List Tok)(e:Int)(s:Unit)(d:Unit->Option Int):Option Int:=
 (idx b e).bind fun f=>bif (decide (f.params<0)||decide (3<f.params))then zG b c a (decide (0<=e))else d ()
def vX(b:List dw)(c:Int)(a:List Tok)(s:Unit):Option Int:=
 zG b c a false
def wL(a:List Tok)(b:List dw)(c:Int):Option Int:=
 bif decide (24<(a.length:Int))then some 2 else upto (pg b c a) (vX b c a) 0 ((b.length:Int)).toNat ()
theorem Gx(w0:World)(M:BS)(hM:qJ M w0)(s:Value)(a:List Tok)(ha:ik iP w0 BE M s a)(j:Value)(b:List dw)(hb:ik eU w0 BE M j b)(c:Int)(r:Int)(d:wL a b c=some r):
  Calls prog 64 #[s,j,(Y c)] w0 (fun e w'=>Grow w0 w'/\e=.returned (.int .i64 r)):=by
 refine cst func64 ntmps64 Z ?_;have h:=SH.init hM;replace h:=(h.il 1 ha bO).il 2 hb<|dK bO;have vC:=ha.bZ;have Ju:=hb.bZ;refine D<|aI Z<|nK<|mV s Z<|jF h 1 gp Z<|F (iW Z Z)<|nN<|ay d Z (fun c1 d=>?_) fun c1 d=>?_;refine D<|aI Z<|nR<|ah<|cz results64 Z ?_;cases d;exact⟨h.grown,Z⟩;refine aA<|aa<|aK<|bP (σ:=Bool) (inl [15,16]) (fun G=>[(16,(.bool<|G))]) (fun G w=>SH w0 M BE w (hset [(1,.sr iP s a),(2,.sr eU j b)])/\zG b c a G=some r) ?_ ?_;rintro G w dJ⟨h,d⟩;refine ay d Z (fun c3 d=>?_) fun c3 d=>?_;refine D<|aI Z<|nR<|ah<|cz results64 Z ?_;cases d;exact⟨h.grown,Z⟩;refine yn<|aI Z<|nK<|mV s Z<|jF h 1 gp Z<|mI Z<|nN<|aL<|gZ (σ:=Nat×Int×Int) (inl ([6,7,9,10,11]++rg 19 21)) (fun⟨n,x,v⟩=>[(7,(Y v)),(19,(Y x))]) (fun⟨n,x,v⟩w=>SH w0 M BE w (hset [(1,.sr iP s a),(2,.sr eU j b)])/\x=(n:Int)/\each (o7 b c) l9 (a.drop n) v=some r) (fun⟨n,x,v⟩=>a.length-n) ⟨0,0,1⟩ ⟨Z,Z,U⟩ ?_ ?_;exact⟨h.cn _,Z,d⟩;rintro⟨n,x,v⟩w dJ⟨h,f,d⟩;refine D ?_;refine iV Z<|nN ?_;refine aK<|iU Z (fun m=>?_) fun m=>?_;refine aA<|aa ?_;obtain⟨Dw,a0,B,u,d⟩:=lQ f m d;have z:=gU ((h.l7 1 Z)).bZ f m;refine aK<|aL<|D ?_;obtain⟨a7,a4,a1,h,N,K⟩:=h.Dv 1 3 Z gp Z (je f)<|gT f B;obtain rfl:=N;refine pY K Z<|EW (k:=0) h 3 iO Z<|bJ h 4 iO fun w a5 h=>bS h 4 iO Z (bL Z) fun w h=>nJ<|vR h 4 iO Z<|mV j Z<|mI Z ?_;obtain⟨t,I,d⟩:=aC d;refine bW h fo Z Z (QO _ _ h.lt Dw j b (h.l7 2 Z) c _ I) fun w h=>?_;refine mV (.tuple #[(Y t.1),(Y t.2)]) Z<|gQ Z<|gQ Z<|aI Z<|aI Z<|nK<|mI Z<|qE Z<|nN<|ay d Z (fun O d=>?_) fun O d=>?_;refine D<|mI Z<|aI Z<|nR<|ah<|ai<|ah<|ah<|ai<|ah<|cz results64 Z ?_;cases d;exact⟨h.grown,Z⟩;refine aA<|aa<|aK<|D<|mI Z<|dA Z<|nN<|ay d Z (fun Q d=>?_) fun Q d=>?_;refine D<|aI Z<|nR<|ah<|ai<|ah<|ah<|ai<|ah<|cz results64 Z ?_;cases d;exact⟨h.grown,Z⟩;refine aA<|aa<|ax<|mI Z<|mI Z ?_;obtain⟨T,d⟩:=bg d;refine F (lY Z Z T) ?_;obtain⟨J,d⟩:=bg d;refine fD Z J<|aI Z<|ak<|ae<|aa<|ax<|fD Z z<|mI Z<|ak<|ag ?_;subst u;exact ky ⟨n+1,x+1,(v+(t.1-1))⟩ ⟨h.cn _,by omega,d⟩<|vI f m;replace d:=qI f m d;refine gJ<|bz<|bz<|dD<|aa<|aK<|D<|mI Z<|F (iW Z Z)<|nN<|ay d Z (fun L d=>?_) fun L d=>?_;refine D<|aI Z<|nR<|ah<|cz results64 Z ?_;cases d;exact⟨h.grown,Z⟩;refine yn<|aI Z<|nR<|cz results64 Z ?_;cases d;exact⟨h.grown,Z⟩;refine ax<|mV j Z<|kz (args:=[j,(.func (.func 82) #[] #[])]) fo Z Z<|cst func81 ntmps81 Z<|D<|aB Z<|nJ<|mV j Z<|mV (.func (.func 82) #[] #[]) Z<|kz (args:=[j,(.func (.func 82) #[] #[])]) fo Z Z<|cst func103 ntmps103 Z<|D<|aI Z<|nK<|mV j Z ?_;refine jF h 2 eG Z<|mI Z<|nN<|aL ?_
 have p:=(h.l7 2 Z).bZ;refine gZ (σ:=Nat×Int) (inl ([4,5]++rg 8 11)) (fun⟨i,g⟩=>[(8,(Y g))]) (fun⟨i,g⟩w=>SH w0 M BE w (hset [(1,.sr iP s a),(2,.sr eU j b)])/\g=(i:Int)/\upto (pg b c a) (vX b c a) g (((b.length:Int)).toNat-i) ()=some r) (fun⟨i,g⟩=>((b.length:Int)).toNat-i) ⟨0,0⟩ ⟨Z,U⟩ ?_ ?_;exact⟨h.cn _,Z,d⟩;rintro⟨i,g⟩w dJ⟨h,f,d⟩;refine D ?_;refine iV Z<|nN ?_;refine aK<|iU Z (fun l=>?_) fun l=>?_;refine aA<|aa ?_;obtain⟨a2,o,d⟩:=Cf f l d;have A:=Gv f l (by have:=p;omega);refine aK<|aL<|D<|mI Z<|aI Z<|nJ<|mV (.func (.func 82) #[] #[]) Z<|mV j Z<|mI Z ?_;obtain⟨E,y,d⟩:=aC d;obtain⟨a8,a6,a3,h,X,S⟩:=h.Dv 2 5 Z eG Z (aD y).1 (aD y).2;obtain⟨C,rfl,R⟩:=kW X;replace h:=h.bA 6 R.up;refine pY S Z<|EW (k:=0) h 5 lg Z<|kz (args:=[(.agg #[(Y E.params),(Y E.locals),C])]) fo Z Z<|cst func82 ntmps82 Z<|D<|pE (cs:=[(Y E.params),(Y E.locals),C]) h 7 Z Z fun w ZZ h=>aB Z<|nJ<|dM pJ Z<|lB h 7 aR Z<|iV Z<|mB Z<|vT pJ Z<|uI h 7 aR Z<|aO Z Z (fun q=>iW (ed q) Z)<|F (fE Z Z ku)<|aB Z<|nR ?_;refine cz results82 Z (⟨_,Z,?_⟩);refine nN<|ay d Z (fun P d=>?_) fun P d=>?_;refine D<|mI Z<|aI Z<|nR<|ai<|ah<|ah<|ai<|ah<|cz results103 Z (⟨_,Z,?_⟩);refine F (lJ Z Z)<|aB Z<|nR<|cz results81 Z (⟨_,Z,?_⟩);refine ak<|ag ?_;exact bI (decide (0<=g)) ⟨h.cn _,d⟩;refine aA<|ae<|aa<|ax<|fD Z A<|mI Z<|ak<|ag ?_;subst o;exact ky ⟨i+1,g+1⟩ ⟨h.cn _,by omega,d⟩<|Oy f l;replace d:=Gu f l d;refine nE<|aI Z<|nR<|cz results103 Z (⟨_,Z,?_⟩);refine F (lJ Z Z)<|aB Z<|nR<|cz results81 Z (⟨_,Z,?_⟩);refine ak<|ag ?_;exact bI false ⟨h.cn _,d⟩
def sV(e:Bool)(a:aN)(b:List dw)(c:Int):Option Int:=
 bif e then(wL a.f b c).bind fun d=>some d else some 0
def kF(a:aN)(b:List dw)(c:Int)(j:Bool)(h:Bool)(d:Bool)(k:Bool)(i:Bool):Option Int:=
 bif ((((((!j)&&decide (a.n≠0))||((!h)&&decide (0<(a.e.length:Int))))||((!d)&&decide (0<(a.f.length:Int))))||((!k)&&decide (0<(a.a.length:Int))))||((!i)&&decide (0<(a.b.length:Int))))then some 4 else bif ((decide (a.kind=1)&&(decide (a.n<0)||decide (c<=a.n)))||(decide (a.kind=2)&&(decide (a.n<0)||decide (4<=a.n))))then some 3 else bif h then(wL a.e b c).bind fun g=>bif decide (g≠0)then some g else sV d a b c else sV d a b c
def nk(a:aN)(b:List dw)(c:Int)(d:Bool):Option Int:=
 bif d then kF a b c false true false false false else bif decide (a.kind=4)then kF a b c false false false false false else bif decide (a.kind=6)then kF a b c false true false true true else bif decide (a.kind=7)then kF a b c false true false true false else some 4
def BO(a:aN)(b:List dw)(c:Int):Option Int:=
 bif decide (a.kind=1)then kF a b c true true false false false else bif decide (a.kind=2)then kF a b c true true true false false else bif decide (a.kind=3)then nk a b c (decide (a.kind=3))else bif decide (a.kind=5)then nk a b c (decide (a.kind=5))else nk a b c (decide (a.kind=8))
theorem Oz(w0:World)(M:BS)(hM:qJ M w0)(a:aN)(g i s k:Value)(y:ik iP w0 BE M g a.e)(J:ik iP w0 BE M i a.f)(B:ik dz w0 BE M s a.a)(Q:ik dz w0 BE M k a.b)(o:Value)(b:List dw)(S:ik eU w0 BE M o b)(c:Int)(r:Int)(d:BO a b c=some r):
  Calls prog 39 #[(.agg #[(Y a.kind),(Y a.n),g,i,s,k]),o,(Y c)] w0 (fun e w'=>Grow w0 w'/\e=.returned (.int .i64 r)):=by
 refine cst func39 ntmps39 Z ?_;have h:=SH.init hM;replace h:=((h.il 1 y bO).il 2 J<|dK bO).il 3 B<|dK<|dK bO;replace h:=(h.il 4 Q<|dK<|dK<|dK bO).il 5 S<|dK<|dK<|dK<|dK bO;have Ju:=S.bZ;refine D<|pE (cs:=[(Y a.kind),(Y a.n),g,i,s,k]) h 6 Z Z fun w R h=>aI Z<|nJ<|aB Z<|aB Z<|aB Z<|nJ<|aB Z<|aB Z<|nN<|bP (σ:=Bool×Bool×Bool×Bool×Bool) (inl<|rg 6 6++rg 13 16) (fun⟨j,l,m,p,u⟩=>[(7,(.bool<|j)),(8,(.bool<|l)),(9,(.bool<|m)),(10,(.bool<|p)),(11,(.bool<|u))]) (fun⟨j,l,m,p,u⟩w=>SH w0 M BE w (hset [(1,.sr iP g a.e),(2,.sr iP i a.f),(3,.sr dz s a.a),(4,.sr dz k a.b),(5,.sr eU o b),(6,.blk R [(Y a.kind),(Y a.n),g,i,s,k])])/\kF a b c j l m p u=some r) ?_ ?_;rintro⟨j,l,m,p,u⟩w T⟨h,d⟩;refine aK<|D<|mB Z<|F (gY Z)<|mB Z<|vT ou Z<|uI h 6 aR Z<|aO Z Z (fun q=>wH (ed q) Z)<|F (fK Z Z ku)<|mB Z<|Xk Z<|aO Z Z (fun q=>gY<|ed q)<|aO Z Z (fun q=>bM (v:=(.bool ((!l))))<|ed q)<|gW (((!j)&&decide (a.n≠0))==false) Z Z (fun q=>aH uL Z)<|gW (((!j)&&decide (a.n≠0))==false) Z Z (fun q=>df h 6 Z vg (ed q) Z)<|gW (((!j)&&decide (a.n≠0))==false) Z Z (fun q=>iH gp (ed q)<|h.l7 1 Z)<|gW (((!j)&&decide (a.n≠0))==false) Z Z (fun q=>iW (ed q) Z)<|aO Z Z (fun q=>fK (ed q) (O0 q) ku)<|F (fE Z Z ku)<|mB Z<|Xk Z<|aO Z Z (fun q=>gY<|ed q)<|aO Z Z (fun q=>bM (v:=(.bool ((!m))))<|ed q) ?_
 refine gW ((((!j)&&decide (a.n≠0))||((!l)&&decide (0<(a.e.length:Int))))==false) Z Z (fun q=>aH Aj Z)<|gW ((((!j)&&decide (a.n≠0))||((!l)&&decide (0<(a.e.length:Int))))==false) Z Z (fun q=>df h 6 Z vg (ed q) Z)<|gW ((((!j)&&decide (a.n≠0))||((!l)&&decide (0<(a.e.length:Int))))==false) Z Z (fun q=>iH gp (ed q)<|h.l7 2 Z)<|gW ((((!j)&&decide (a.n≠0))||((!l)&&decide (0<(a.e.length:Int))))==false) Z Z (fun q=>iW (ed q) Z)<|aO Z Z (fun q=>fK (ed q) (O0 q) ku)<|F (fE Z Z ku)<|mB Z<|Xk Z<|aO Z Z (fun q=>gY<|ed q)<|aO Z Z (fun q=>bM (v:=(.bool ((!p))))<|ed q)<|gW (((((!j)&&decide (a.n≠0))||((!l)&&decide (0<(a.e.length:Int))))||((!m)&&decide (0<(a.f.length:Int))))==false) Z Z (fun q=>aH uM Z)<|gW (((((!j)&&decide (a.n≠0))||((!l)&&decide (0<(a.e.length:Int))))||((!m)&&decide (0<(a.f.length:Int))))==false) Z Z (fun q=>df h 6 Z l6 (ed q) Z)<|gW (((((!j)&&decide (a.n≠0))||((!l)&&decide (0<(a.e.length:Int))))||((!m)&&decide (0<(a.f.length:Int))))==false) Z Z (fun q=>iH iA (ed q)<|h.l7 3 Z)<|gW (((((!j)&&decide (a.n≠0))||((!l)&&decide (0<(a.e.length:Int))))||((!m)&&decide (0<(a.f.length:Int))))==false) Z Z (fun q=>iW (ed q) Z)<|aO Z Z (fun q=>fK (ed q) (O0 q) ku)<|F (fE Z Z ku)<|mB Z<|Xk Z<|aO Z Z (fun q=>gY<|ed q)<|aO Z Z (fun q=>bM (v:=(.bool ((!u))))<|ed q)<|gW ((((((!j)&&decide (a.n≠0))||((!l)&&decide (0<(a.e.length:Int))))||((!m)&&decide (0<(a.f.length:Int))))||((!p)&&decide (0<(a.a.length:Int))))==false) Z Z (fun q=>aH xq Z)<|gW ((((((!j)&&decide (a.n≠0))||((!l)&&decide (0<(a.e.length:Int))))||((!m)&&decide (0<(a.f.length:Int))))||((!p)&&decide (0<(a.a.length:Int))))==false) Z Z (fun q=>df h 6 Z l6 (ed q) Z)<|gW ((((((!j)&&decide (a.n≠0))||((!l)&&decide (0<(a.e.length:Int))))||((!m)&&decide (0<(a.f.length:Int))))||((!p)&&decide (0<(a.a.length:Int))))==false) Z Z (fun q=>iH iA (ed q)<|h.l7 4 Z)<|gW ((((((!j)&&decide (a.n≠0))||((!l)&&decide (0<(a.e.length:Int))))||((!m)&&decide (0<(a.f.length:Int))))||((!p)&&decide (0<(a.a.length:Int))))==false) Z Z (fun q=>iW (ed q) Z) ?_;refine aO Z Z (fun q=>fK (ed q) (O0 q) ku)<|F (fE Z Z ku)<|nN<|ay d Z (fun c7 d=>?_) fun c7 d=>?_;refine D<|aI Z<|nR<|ah<|cz results39 Z ?_;cases d;exact⟨h.grown,Z⟩
 refine aA<|aa<|aK<|D<|dM jU Z<|lB h 6 aR Z<|dA Z<|mB Z<|vT ou Z<|uI h 6 aR Z<|aO Z Z (fun q=>ym (ed q) Z)<|aO Z Z (fun q=>bM (v:=(.bool<|decide<|a.n<0))<|ed q)<|gW (decide (a.kind=1)==true) Z Z (fun q=>aH ou Z)<|gW (decide (a.kind=1)==true) Z Z (fun q=>df h 6 Z aR (ed q) Z)<|gW (decide (a.kind=1)==true) Z Z (fun q=>bM (v:=(Y c)) Z)<|gW (decide (a.kind=1)==true) Z Z (fun q=>lJ (ed q)<|ed q)<|aO Z Z (fun q=>fE (ed q) (O0 q) ku)<|F (fK Z Z ku)<|mB Z<|vT jU Z<|uI h 6 aR Z<|aO Z Z (fun q=>rC (ed q) Z)<|aO Z Z (fun q=>bM (v:=(.bool<|decide<|a.kind=2))<|ed q) ?_;refine gW ((decide (a.kind=1)&&(decide (a.n<0)||decide (c<=a.n)))==false) Z Z (fun q=>aH ou Z)<|gW ((decide (a.kind=1)&&(decide (a.n<0)||decide (c<=a.n)))==false) Z Z (fun q=>df h 6 Z aR (ed q) Z)<|gW ((decide (a.kind=1)&&(decide (a.n<0)||decide (c<=a.n)))==false) Z Z (fun q=>ym (ed q) Z)<|gW ((decide (a.kind=1)&&(decide (a.n<0)||decide (c<=a.n)))==false) Z Z (fun q=>bM (v:=(.bool<|decide<|a.n<0))<|ed q)<|gW (((decide (a.kind=1)&&(decide (a.n<0)||decide (c<=a.n)))==false)&&(decide (a.kind=2)==true)) Z Z (fun q=>aH ou Z)<|gW (((decide (a.kind=1)&&(decide (a.n<0)||decide (c<=a.n)))==false)&&(decide (a.kind=2)==true)) Z Z (fun q=>df h 6 Z aR (ed q) Z)<|gW (((decide (a.kind=1)&&(decide (a.n<0)||decide (c<=a.n)))==false)&&(decide (a.kind=2)==true)) Z Z (fun q=>lJ (ed q) Z)<|gW ((decide (a.kind=1)&&(decide (a.n<0)||decide (c<=a.n)))==false) Z Z (fun q=>fE (ed q) (O0 q) ku)<|aO Z Z (fun q=>fK (ed q) (O0 q) ku)<|F (fE Z Z ku)<|nN<|ay d Z (fun X d=>?_) fun X d=>?_;refine D<|aI Z<|nR<|ah<|cz results39 Z ?_;cases d;exact⟨h.grown,Z⟩;refine aA<|aa<|bP (σ:=Unit) (inl ([6,12]++rg 105 9)) (fun _=>[]) (fun _ w=>SH w0 M BE w (hset [(1,.sr iP g a.e),(2,.sr iP i a.f),(3,.sr dz s a.a),(4,.sr dz k a.b),(5,.sr eU o b),(6,.blk R [(Y a.kind),(Y a.n),g,i,s,k])])/\sV m a b c=some r) ?_ ?_;rintro⟨⟩w T⟨h,d⟩;refine aK<|D<|mB Z<|nN<|ay d Z (fun c9 d=>?_) fun c9 d=>?_;refine D<|dM Aj Z<|lB h 6 vg Z<|mV o Z<|mI Z ?_;obtain⟨a0,N,d⟩:=aC d;refine bW h fo Z Z (Gx _ _ h.lt i a.f (h.l7 2 Z) o b (h.l7 5 Z) c _ N) fun w h=>?_;refine aI Z<|nR<|ah<|cz results39 Z ?_;cases d;exact⟨h.grown,Z⟩;refine yn<|aI Z<|nR<|cz results39 Z ?_;cases d;exact⟨h.grown,Z⟩;refine D<|mB Z<|nN<|ay d Z (fun K d=>?_) fun K d=>?_;refine D<|dM uL Z<|lB h 6 vg Z<|mV o Z<|mI Z ?_;obtain⟨Xo,A,d⟩:=aC d;refine bW h fo Z Z (Gx _ _ h.lt g a.e (h.l7 1 Z) o b (h.l7 5 Z) c _ A) fun w h=>?_;refine aI Z<|nJ<|mI Z<|qE Z<|nN<|ay d Z (fun G d=>?_) fun G d=>?_
 refine D<|mI Z<|aI Z<|nR<|ah<|cz results39 Z ?_;cases d;exact⟨h.grown,Z⟩;refine aA<|ag ?_;exact bI () ⟨h.cn _,d⟩;refine aA<|ag ?_;exact bI () ⟨h.cn _,d⟩;refine D<|dM jU Z<|lB h 6 aR Z<|nN<|aL<|D<|dA Z<|aB Z<|nN<|ay d Z (fun P d=>?_) fun P d=>?_;refine ax<|aB Z<|ak<|ae<|ag ?_;exact bI (true,true,false,false,false) ⟨h.cn _,d⟩;refine D<|dA Z<|aB Z<|nN<|ay d Z (fun C d=>?_) fun C d=>?_;refine ax<|aB Z<|aB Z<|ak<|ae<|ag ?_;exact bI (true,true,true,false,false) ⟨h.cn _,d⟩;refine bP (σ:=Bool) (inl [19,20,21,22]) (fun t=>[(19,(.bool<|t))]) (fun t w=>SH w0 M BE w (hset [(1,.sr iP g a.e),(2,.sr iP i a.f),(3,.sr dz s a.a),(4,.sr dz k a.b),(5,.sr eU o b),(6,.blk R [(Y a.kind),(Y a.n),g,i,s,k])])/\nk a b c t=some r) ?_ ?_;rintro t w T⟨h,d⟩;refine ay d Z (fun L d=>?_) fun L d=>?_;refine aA<|ae<|ag ?_;exact bI (false,true,false,false,false) ⟨h.cn _,d⟩;refine D<|dA Z<|aB Z<|nN<|ay d Z (fun z d=>?_) fun z d=>?_;refine ax<|aB Z<|ak<|ae<|ag ?_;exact bI (false,false,false,false,false) ⟨h.cn _,d⟩;refine D<|dA Z<|aB Z<|nN<|ay d Z (fun O d=>?_) fun O d=>?_;refine ax<|aB Z<|aB Z<|ak<|ae<|ag ?_;exact bI (false,true,false,true,true) ⟨h.cn _,d⟩;refine D<|dA Z<|aB Z<|nN<|ay d Z (fun E d=>?_) fun E d=>?_;refine ax<|aB Z<|ak<|ae<|ag ?_;exact bI (false,true,false,true,false) ⟨h.cn _,d⟩;refine D<|aI Z<|nR<|ai<|ah<|cz results39 Z ?_;cases d;exact⟨h.grown,Z⟩;refine D<|dA Z<|aB Z<|nN<|ay d Z (fun I d=>?_) fun I d=>?_;refine aA<|ag ?_;exact bI (decide<|a.kind=3) ⟨h.cn _,d⟩;refine D<|dA Z<|aB Z<|nN<|ay d Z (fun x d=>?_) fun x d=>?_;refine aA<|ag ?_;exact bI (decide<|a.kind=5) ⟨h.cn _,d⟩;refine ax<|dA Z<|aB Z<|ak<|ag ?_;exact bI (decide<|a.kind=8) ⟨h.cn _,d⟩
def rG(F0:List aN->List dw->Int->Option Int)(b:List dw)(c:Int)(a:List aN)(e:aN)(s:Unit)(h:Unit->Option Int):Option Int:=
 (BO e b c).bind fun d=>bif decide (d≠0)then some d else(F0 e.a b c).bind fun g=>bif decide (g≠0)then some g else(F0 e.b b c).bind fun f=>bif decide (f≠0)then some f else h ()
def vY(s:Unit):Option Int:=
 some 0
def xu(F0:List aN->List dw->Int->Option Int)(a:List aN)(b:List dw)(c:Int):Option Int:=
 each (rG F0 b c a) vY a ()
def kG:Nat->List aN->List dw->Int->Option Int
 |0=>fun _ _ _=>none
 |N+1=>xu (kG N)
theorem ME:∀(N:Nat) (w0:World) (M:BS) (J:qJ M w0) (l:Value) (a:List aN) (o:ik dz w0 BE M l a) (g:Value) (b:List dw) (n:ik eU w0 BE M g b) (c:Int) (r:Int) (d:kG N a b c=some r),
  Calls prog 23 #[l,g,(Y c)] w0 (fun e w'=>Grow w0 w'/\e=.returned (.int .i64 r)):=by
 intro N;induction N with
 |zero=>intro w0 M J l a o g b n c r d;cases d
 |succ N ih=>
 intro w0 M J l a o g b n c r d;replace d:xu (kG N) a b c=some r:=d;generalize kG N=F0 at d ih;refine cst func23 ntmps23 Z ?_;have h:=SH.init J;replace h:=(h.il 1 o bO).il 2 n<|dK bO;have vC:=o.bZ;have Ju:=n.bZ;refine D<|aI Z<|nK<|mV l Z<|jF h 1 iA Z<|mI Z<|nN<|aL<|gZ (σ:=Nat×Int) (inl ([6,8,9,11,12]++rg 15 28)) (fun⟨i,j⟩=>[(15,(Y j))]) (fun⟨i,j⟩w=>SH w0 M BE w (hset [(1,.sr dz l a),(2,.sr eU g b)])/\j=(i:Int)/\each (rG F0 b c a) vY (a.drop i) ()=some r) (fun⟨i,j⟩=>a.length-i) ⟨0,0⟩ ⟨Z,U⟩ ?_ ?_;exact⟨h.cn _,Z,d⟩;rintro⟨i,j⟩w dJ⟨h,f,d⟩;refine D ?_;refine iV Z<|nN ?_;refine aK<|iU Z (fun m=>?_) fun m=>?_;refine aA<|aa ?_;obtain⟨K,LJ,t,R,d⟩:=lQ f m d;have u:=gU ((h.l7 1 Z)).bZ f m;refine aK<|aL<|D ?_;obtain⟨b9,T,L,h,x,P⟩:=h.Dv 1 3 Z iA Z (je f)<|gT f t;obtain⟨O,S,q,p,rfl,A,s,G,I⟩:=sS x;replace h:=((h.bA 4 A.up).bA 5 s.up.up).bA 6 G.up.up.up;replace h:=h.bA 7 I.up.up.up.up;refine pY P Z<|EW (k:=0) h 3 kE Z<|bJ h 8 kE fun w OA h=>bS h 8 kE Z (aj Z<|aj Z<|aj (h.fH 4 Z).one<|aj (h.fH 5 Z).one<|aj (h.fH 6 Z).one<|aj (h.fH 7 Z).one bE) fun w h=>nK<|vR h 8 kE Z<|mV g Z<|mI Z ?_;obtain⟨Q,z,d⟩:=aC d;refine bW h fo Z Z (Oz _ _ h.lt K O S q p (h.rD 4 Z) (h.rD 5 Z) (h.rD 6 Z) (h.rD 7 Z) g b (h.l7 2 Z) c _ z) fun w h=>?_;refine aI Z<|nJ<|mI Z<|qE Z<|nN<|ay d Z (fun E d=>?_) fun E d=>?_;refine D<|mI Z<|aI Z<|nR<|ah<|ai<|ah<|ah<|ai<|ah<|cz results23 Z ?_;cases d;exact⟨h.grown,Z⟩;refine yn<|dM uM Z<|lB h 8 l6 Z<|dM xq Z<|lB h 8 l6 Z<|F (RO Js Z Z (h.fH 6 Z).one (h.fH 7 Z).one)<|mI Z<|nN<|aL<|O1 2<|D<|iV Z<|nN<|aK<|LY Z<|aA<|aa<|aK ?_;refine aL<|D<|F (Ik (k:=0) Js Z Z Z)<|aV q Z<|nJ<|mV q Z<|mV g Z<|mI Z ?_;obtain⟨Om,B,d⟩:=aC d;refine bW h fo Z Z (ih _ _ h.lt q K.a (h.rD 6 Z) g b (h.l7 2 Z) c _ B) fun w h=>?_;refine aI Z<|nJ<|mI Z<|qE Z<|nN<|ay d Z (fun C d=>?_) fun C d=>?_;refine D<|mI Z<|aI Z<|nR<|ai<|ah<|ah<|ai<|ai<|ah<|ah<|ai<|ah<|cz results23 Z ?_;cases d;exact⟨h.grown,Z⟩;refine aA<|ae<|aa<|ax<|F (LZ Z Z zq1)<|mI Z<|ak<|DJ<|D<|iV Z<|nN<|aK<|LY Z<|aA<|aa<|aK<|aL<|D<|F (Ik (k:=1) Js Z Z Z)<|aV p Z<|ak ?_;refine aa<|D<|mV p Z<|mV g Z<|mI Z ?_;obtain⟨X,v,d⟩:=aC d;refine bW h fo Z Z (ih _ _ h.lt p K.b (h.rD 7 Z) g b (h.l7 2 Z) c _ v) fun w h=>?_;refine aI Z<|nJ<|mI Z<|qE Z<|nN<|ay d Z (fun y d=>?_) fun y d=>?_;refine D<|mI Z<|aI Z<|nR<|ai<|ah<|ah<|ai<|ai<|ah<|ah<|ai<|ah<|cz results23 Z ?_;cases d;exact⟨h.grown,Z⟩;refine aA<|ae<|aa<|ax<|F (LZ Z Z zq1)<|mI Z<|ak<|DJ<|D<|iV Z<|nN<|aK<|TP Z<|gJ<|bz<|bz<|dD<|ae<|aa<|ax<|fD Z u<|mI Z ?_
 refine ak<|ag ?_;subst R;exact ky ⟨i+1,j+1⟩ ⟨h.cn _,by omega,d⟩<|vI f m;replace d:=qI f m d;refine nE<|aI Z<|nR<|cz results23 Z ?_;cases d;exact⟨h.grown,Z⟩
def mf(N:Nat)(a:List dw)(b:dw)(s:Unit)(e:Unit->Option Int):Option Int:=
 (cK N b.body 1).bind fun d=>bif (!d.2)then some 2 else(kG N b.body a b.locals).bind fun c=>bif decide (c≠0)then some c else e ()
def rH(s:Unit):Option Int:=
 some 0
def fM(c:Int)(a:dw)(s:Unit)(b:Unit->Option Int):Option Int:=
 bif ((((decide (a.params<0)||decide (3<a.params))||decide (a.locals<a.params))||decide (6<a.locals))||(decide (c=0)&&decide (0<a.params)))then some 3 else b ()
def vZ(N:Nat)(a:List dw)(s:Unit):Option Int:=
 each (mf N a) rH a ()
def pK(N:Nat)(a:List dw):Option Int:=
 bif (decide ((a.length:Int)=0)||decide (4<(a.length:Int)))then some 2 else gF fM (vZ N a) 0 a ()
theorem MF(N:Nat)(w0:World)(M:BS)(hM:qJ M w0)(j:Value)(a:List dw)(L:ik eU w0 BE M j a)(r:Int)(b:pK N a=some r):
  Calls prog 11 #[j] w0 (fun e w'=>Grow w0 w'/\e=.returned (.int .i64 r)):=by
 refine cst func11 ntmps11 Z ?_;have h:=SH.init hM;replace h:=h.il 1 L bO;have vC:=L.bZ;refine D<|aI Z<|nK<|mV j Z<|jF h 1 eG Z<|dA Z<|mB Z<|aO Z Z (fun q=>bM (v:=j) Z)<|aO Z Z (fun q=>iH eG (ed q)<|h.l7 1 Z)<|aO Z Z (fun q=>iW (ed q) Z)<|F (fE Z Z ku)<|nN<|ay b Z (fun c1 b=>?_) fun c1 b=>?_;refine D<|aI Z<|nR<|ah<|cz results11 Z ?_;cases b;exact⟨h.grown,Z⟩;refine aA<|aa<|aK<|D<|mV j Z<|jF h 1 eG Z<|mI Z<|nN<|aL<|gZ (σ:=Nat×Int) (inl ([2,3,4]++rg 20 35)) (fun⟨n,l⟩=>[(20,(Y l))]) (fun⟨n,l⟩w=>SH w0 M BE w (hset [(1,.sr eU j a)])/\l=(n:Int)/\gF fM (vZ N a) l (a.drop n) ()=some r) (fun⟨n,l⟩=>a.length-n) ⟨0,0⟩ ⟨Z,U⟩ ?_ ?_;exact⟨h.cn _,Z,b⟩;rintro⟨n,l⟩w Q⟨h,c,b⟩;refine D ?_;refine iV Z<|nN ?_;refine aK<|iU Z (fun s=>?_) fun s=>?_;refine aA<|aa ?_;obtain⟨d,OB,E,QP,b⟩:=Cg c s b;have B:=gU ((h.l7 1 Z)).bZ c s;refine aK<|aL<|D<|mI Z ?_;obtain⟨R,a2,O,h,I,i9⟩:=h.Dv 1 2 Z eG Z (je c)<|gT c E;obtain⟨a1,rfl,K⟩:=kW I;replace h:=h.bA 3 K.up;refine pY i9 Z<|EW (k:=0) h 2 lg Z<|bJ h 4 lg fun w a0 h=>aI Z<|bS h 4 lg Z (aj Z<|aj Z<|aj (h.fH 3 Z).one bE) fun w h=>nJ<|dM pJ Z<|lB h 4 aR Z<|iV Z<|mB Z<|vT pJ Z<|uI h 4 aR Z<|aO Z Z (fun q=>iW (ed q) Z)<|F (fE Z Z ku)<|mB Z<|vT sD Z<|uI h 4 aR Z<|vT pJ Z<|uI h 4 aR Z<|aO Z Z (fun q=>ym (ed q)<|ed q)<|F (fE Z Z ku) ?_;refine mB Z<|vT sD Z<|uI h 4 aR Z<|aO Z Z (fun q=>iW (ed q) Z)<|F (fE Z Z ku)<|mB Z<|Jh Z<|aO Z Z (fun q=>rC (ed q) Z)<|aO Z Z (fun q=>bM (v:=(.bool<|decide<|l=0))<|ed q)<|gW ((((decide (d.params<0)||decide (3<d.params))||decide (d.locals<d.params))||decide (6<d.locals))==false) Z Z (fun q=>aH pJ Z)<|gW ((((decide (d.params<0)||decide (3<d.params))||decide (d.locals<d.params))||decide (6<d.locals))==false) Z Z (fun q=>df h 4 Z aR (ed q) Z)<|gW ((((decide (d.params<0)||decide (3<d.params))||decide (d.locals<d.params))||decide (6<d.locals))==false) Z Z (fun q=>iW (ed q) Z)<|aO Z Z (fun q=>fK (ed q) (O0 q) ku)<|F (fE Z Z ku)<|nN<|ay b Z (fun J b=>?_) fun J b=>?_;refine D<|aI Z<|nR<|ai<|ah<|ah<|ai<|ah<|cz results11 Z ?_;cases b;exact⟨h.grown,Z⟩;refine aA<|ae<|aa<|ax<|fD Z B<|mI Z<|ak<|ag ?_;subst QP;exact ky ⟨n+1,l+1⟩ ⟨h.cn _,by omega,b⟩<|vI c s;replace b:=Gw c s b;refine gJ<|bz<|bz<|dD<|aa<|aK<|D<|mV j Z<|jF h 1 eG Z<|mI Z<|nN<|aL<|gZ (σ:=Nat×Int) (inl ([2,6,7,8,9]++rg 57 22)) (fun⟨f,g⟩=>[(57,(Y g))]) (fun⟨f,g⟩w=>SH w0 M BE w (hset [(1,.sr eU j a)])/\g=(f:Int)/\each (mf N a) rH (a.drop f) ()=some r) (fun⟨f,g⟩=>a.length-f) ⟨0,0⟩ ⟨Z,U⟩ ?_ ?_;exact⟨h.cn _,Z,b⟩
 rintro⟨f,g⟩w Q⟨h,c,b⟩;refine D ?_;refine iV Z<|nN ?_;refine aK<|iU Z (fun i=>?_) fun i=>?_;refine aA<|aa ?_;obtain⟨m,Uf,o,S,b⟩:=lQ c i b;have p:=gU ((h.l7 1 Z)).bZ c i;refine aK<|aL<|D ?_;obtain⟨T,a3,Z5,h,x,G⟩:=h.Dv 1 5 Z eG Z (je c)<|gT c o;obtain⟨t,rfl,C⟩:=kW x;replace h:=h.bA 6 C.up;refine pY G Z<|EW (k:=0) h 5 lg Z<|bJ h 7 lg fun w X h=>bS h 7 lg Z (aj Z<|aj Z<|aj (h.fH 6 Z).one bE) fun w h=>nK<|dM Ah Z<|lB h 7 l6 Z ?_;obtain⟨P,A,b⟩:=aC b;refine bW h fo Z Z (MC N _ _ h.lt t m.body (h.rD 6 Z) 1 _ A) fun w h=>?_;refine mV (.tuple #[(Y P.1),(.bool<|P.2)]) Z<|gQ Z<|gQ Z<|aI Z<|aB Z<|nJ<|mB Z<|F (gY Z)<|nN<|ay b Z (fun u b=>?_) fun u b=>?_;refine D<|aI Z<|nR<|ah<|ai<|ah<|ah<|ai<|ah<|cz results11 Z ?_;cases b;exact⟨h.grown,Z⟩;refine yn<|dM Ah Z<|lB h 7 l6 Z<|mV j Z<|dM sD Z<|lB h 7 aR Z ?_;obtain⟨Rw,y,b⟩:=aC b;refine bW h fo Z Z (ME N _ _ h.lt t m.body (h.rD 6 Z) j a (h.l7 1 Z) m.locals _ y) fun w h=>?_;refine aI Z<|nJ<|mI Z<|qE Z<|nN<|ay b Z (fun z b=>?_) fun z b=>?_;refine D<|mI Z<|aI Z<|nR<|ai<|ah<|ah<|ai<|ah<|cz results11 Z ?_;cases b;exact⟨h.grown,Z⟩;refine aA<|ae<|aa<|ax<|fD Z p<|mI Z<|ak<|ag ?_;subst S;exact ky ⟨f+1,g+1⟩ ⟨h.cn _,by omega,b⟩<|vI c i;replace b:=qI c i b;refine nE<|aI Z<|nR<|cz results11 Z ?_;cases b;exact⟨h.grown,Z⟩
def bC(b:dB)(a:Int):dB:=
 (⟨b.f,b.code,(max b.regs a)⟩:dB)
theorem BQ(w0:World)(M:BS)(u:qJ M w0)(g:Nat)(d:dB)(i c:Value)(o:EX w0 M (.two (.blk g [i,c,(Y d.regs)]) (.own fT 56 c d.code):Chunk))(l:∀b,Chunk.own' (.two (.blk g [i,c,(Y d.regs)]) (.own fT 56 c d.code):Chunk) b->¬M b)(s:fC eU w0 (fun b=>M b\/Chunk.own' (.two (.blk g [i,c,(Y d.regs)]) (.own fT 56 c d.code):Chunk) b) i d.f)(a:Int)(r:dB)(n:bC d a=r):
  Calls prog 12 #[(pT g),(Y a)] w0 (fun e w'=>bG (Chunk.own' (.two (.blk g [i,c,(Y d.regs)]) (.own fT 56 c d.code):Chunk)) w0 w'/\∃k,∃j,e=.returned (.tuple #[])/\EX w' M (.two (.blk g [k,j,.int .i64 r.regs]) (.own fT 56 j r.code):Chunk)/\(TI (.two (.blk g [k,j,.int .i64 r.regs]) (.own fT 56 j r.code):Chunk) w0 (.two (.blk g [i,c,(Y d.regs)]) (.own fT 56 c d.code):Chunk))/\fC eU w' (fun b=>M b\/Chunk.own' (.two (.blk g [k,j,.int .i64 r.regs]) (.own fT 56 j r.code):Chunk) b) k r.f):=by
 refine cst func12 ntmps12 Z ?_;have h:=SH.zV u o l;replace h:=h.oM 3 s vB;generalize t:(.two (.blk g [i,c,(Y d.regs)]) (.own fT 56 c d.code):Chunk).own'=K0 at h;replace h:=h.un 1 2 Z Z;refine ax<|mP Z<|mP Z<|F (aJ Z)<|dM QJ Z<|lB h 1 aR Z<|mI Z<|F (r_max Z Z)<|F (aJ Z)<|dM QJ Z<|fP h 1 [i,c,(Y ((max d.regs a)))] Z aR Z Z Z Z Z fun w h=>ak<|Ii results12 ?_;replace h:=h.pr 1 2;obtain rfl:=n;subst t;obtain⟨q,m,p⟩:=h.fF 1 ⟨U,U⟩;exact⟨m,i,c,Z,q,p,h.xm 1 3 Z Z⟩
def dL(b:dB)(a:Ins):Option (Int×dB):=
 gD (Room 56 b.code [a]) (gD (jY (((b.code++[a]).length:Int)-1)) (some ((((b.code++[a]).length:Int)-1),(⟨b.f,(b.code++[a]),b.regs⟩:dB))))
theorem dW(w0:World)(M:BS)(hM:qJ M w0)(j:Nat)(i:dB)(k d:Value)(T:EX w0 M (.two (.blk j [k,d,(Y i.regs)]) (.own fT 56 d i.code):Chunk))(Q:∀b,Chunk.own' (.two (.blk j [k,d,(Y i.regs)]) (.own fT 56 d i.code):Chunk) b->¬M b)(zH:fC eU w0 (fun b=>M b\/Chunk.own' (.two (.blk j [k,d,(Y i.regs)]) (.own fT 56 d i.code):Chunk) b) k i.f)(a:Ins)(t:Value)(G:fC dm w0 (fun b=>M b\/(.two (.blk j [k,d,(Y i.regs)]) (.own fT 56 d i.code):Chunk).own' b) t a.args)(r:Int×dB)(n:dL i a=some r):
  Calls prog 14 #[(pT j),(.agg #[(Y a.op),(Y a.a),(Y a.b),(Y a.c),t])] w0 (fun e w'=>bG (Chunk.own' (.two (.blk j [k,d,(Y i.regs)]) (.own fT 56 d i.code):Chunk)) w0 w'/\∃x,∃s,e=.returned (.int .i64 r.1)/\EX w' M (.two (.blk j [x,s,.int .i64 r.2.regs]) (.own fT 56 s r.2.code):Chunk)/\(TI (.two (.blk j [x,s,.int .i64 r.2.regs]) (.own fT 56 s r.2.code):Chunk) w0 (.two (.blk j [k,d,(Y i.regs)]) (.own fT 56 d i.code):Chunk))/\fC eU w' (fun b=>M b\/Chunk.own' (.two (.blk j [x,s,.int .i64 r.2.regs]) (.own fT 56 s r.2.code):Chunk) b) x r.2.f):=by
 refine cst func14 ntmps14 Z ?_;have h:=SH.zV hM T Q;replace h:=(h.oM 3 zH vB).oM 4 G<|mH vB;generalize S:(.two (.blk j [k,d,(Y i.regs)]) (.own fT 56 d i.code):Chunk).own'=K0 at h;replace h:=h.un 1 2 Z Z;refine D (pE (cs:=[(Y a.op),(Y a.a),(Y a.b),(Y a.c),t]) h 5 Z Z fun w b1 h=>aI Z (nN (aK (kC (L:=(fun b=>ob d b\/b=j)) mixed h fun w h=>ll 0 kR (pT j) Z (ll 1 kR (pT j) Z (bF 2 kR Z (fun w u=>aJ Z) (ib 3 kR uJ Z (bF 5 kR Z (fun w u=>have h:=h.DK 2 1 zq1 Z Z u;AO h 5 Z rX Z Z Z) ?_))))))));obtain⟨v,n⟩:=bg n;refine jA fun o g=>mq 4 6 zq2 Z dE Z dE ?_ ?_;refine lB h 1 qK Z<|ak<|aM g<|dI 6 Z<|wJ (R:=fT) (vs:=[(.agg #[(Y a.op),(Y a.a),(Y a.b),(Y a.c),t])]) (xs:=[a]) h 78 fI Z Z Z ⟨⟨_,Z,(h.fH 4 Z)⟩,U⟩ Z fun w l h N A=>?_;have Z6:=vJ g A;replace g:=g.grow N;refine ak<|aM g<|dI 7 Z ?_;have Z7:=g.size;refine lh (R:=fT) (m:=[a]) h 2 Z (h.eH 78 Z) fI Z Z Z v.1 v.2 fun w q h O z=>?_;have X:∀b,ob q b->b<o.heap.size->ob d b:=fun b B I=>z b B<|Nat.lt_of_lt_of_le I (g).size;replace g:=bG.step g O fun _ p _=>.inl<|p;refine ak<|aM g<|bF 8 g Z (fun w u=>aJ Z)<|ib 9 g uJ Z<|dI 10 Z<|oL h 1 [k,q,(Y i.regs)] Z qK Z Z Z Z (h.dS 2 Z).one fun w h E=>?_;replace g:=bG.step g E fun _ p _=>.inr<|p;refine ak<|aM g<|lS<|aa<|D<|mP Z<|F (aJ Z)<|dM uJ Z<|lB h 1 qK Z<|F (iH gX Z<|h.eH 2 Z) ?_;obtain⟨C,n⟩:=bg n;refine F (lY Z Z C)<|aI Z<|nR<|cz results14 Z ?_;replace h:=h.pr 1 2;cases n;subst S;obtain⟨K,y,J⟩:=h.fF 1 ⟨U,U⟩;exact⟨y,k,q,Z,K,J,h.xm 1 3 Z Z⟩;refine wJ (R:=fT) (vs:=[(.agg #[(Y a.op),(Y a.a),(Y a.b),(Y a.c),t])]) (xs:=[a]) h 78 fI Z Z Z ⟨⟨_,Z,(h.fH 4 Z)⟩,U⟩ Z fun w l h N A=>?_;have Z6:=vJ g A;replace g:=g.grow N;refine ak<|aM g<|dI 4 Z<|lB h 1 qK Z<|ak<|aM g<|dI 7 Z ?_;have Z7:=g.size;refine lh (R:=fT) (m:=[a]) h 2 Z (h.eH 78 Z) fI Z Z Z v.1 v.2 fun w q h O z=>?_;have X:∀b,ob q b->b<o.heap.size->ob d b:=fun b B I=>z b B<|Nat.lt_of_lt_of_le I (g).size;replace g:=bG.step g O fun _ p _=>.inl<|p;refine ak<|aM g<|bF 8 g Z (fun w u=>aJ Z)<|ib 9 g uJ Z<|dI 10 Z<|oL h 1 [k,q,(Y i.regs)] Z qK Z Z Z Z (h.dS 2 Z).one fun w h E=>?_;replace g:=bG.step g E fun _ p _=>.inr<|p;refine ak<|aM g<|lS<|aa<|D<|mP Z<|F (aJ Z)<|dM uJ Z<|lB h 1 qK Z<|F (iH gX Z<|h.eH 2 Z) ?_;obtain⟨P,n⟩:=bg n;refine F (lY Z Z P)<|aI Z<|nR<|cz results14 Z ?_;replace h:=h.pr 1 2;cases n;subst S;obtain⟨K,y,J⟩:=h.fF 1 ⟨U,U⟩;exact⟨y,k,q,Z,K,J,h.xm 1 3 Z Z⟩
def fO(F0:dB->List Tok->Int->Option (Int×dB))(i:dw)(a:List Tok)(b:Int)(h:Tok)(s:Int×List Int×Int×List dw×List Ins×Int)(c:Int×List Int×Int×List dw×List Ins×Int->Option (Int×dB)):Option (Int×dB):=
 match s with|(x152,ML,CJ,y157,y159,y160)=>bif decide (CJ<i.params)then(sub? a x152 (a.length:Int)).bind fun e=>gD (jY (b+CJ)) ((F0 (⟨y157,y159,y160⟩:dB) e (b+CJ)).bind fun g=>gD (jY (x152+g.1)) (gD (jY (b+CJ)) (gD (Room 8 ML [(b+CJ)]) (gD (jY (CJ+1)) (c ((x152+g.1),(ML++[(b+CJ)]),(CJ+1),g.2.f,g.2.code,g.2.regs))))))else(dL (⟨y157,y159,y160⟩:dB) (⟨7,b,h.n,0,ML⟩:Ins)).bind fun d=>some (x152,d.2)
def sH(N:Nat)(F0:dB->List Tok->Int->Option (Int×dB))(d:dB)(a:List Tok)(b:Int):Option (Int×dB):=
 gD (jY (b+1)) ((idx a 0).bind fun c=>bif decide (c.kind=1)then(dL (bC d (b+1)) (⟨1,b,c.n,0,[]⟩:Ins)).bind fun o=>some (1,o.2)else bif decide (c.kind=2)then(dL (bC d (b+1)) (⟨2,b,c.n,0,[]⟩:Ins)).bind fun i=>some (1,i.2)else bif decide (c.kind=5)then(dL (bC d (b+1)) (⟨5,b,c.n,0,[]⟩:Ins)).bind fun j=>some (1,j.2)else bif decide (c.kind=3)then(sub? a 1 (a.length:Int)).bind fun r=>(F0 (bC d (b+1)) r b).bind fun e=>gD (jY (1+e.1)) ((sub? a (1+e.1) (a.length:Int)).bind fun p=>gD (jY (b+1)) ((F0 e.2 p (b+1)).bind fun k=>gD (jY ((1+e.1)+k.1)) (gD (jY (b+1)) ((dL k.2 (⟨3,b,b,(b+1),[c.n]⟩:Ins)).bind fun q=>some (((1+e.1)+k.1),q.2)))))else bif decide (c.kind=4)then(sub? a 1 (a.length:Int)).bind fun h=>(F0 (bC d (b+1)) h b).bind fun g=>gD (jY (1+g.1)) ((dL g.2 (⟨4,b,b,c.n,[]⟩:Ins)).bind fun l=>some ((1+g.1),l.2))else bif decide (c.kind=6)then(idx ((bC d (b+1)).f) c.n).bind fun m=>again (fO F0 m a b c) N (1,[],0,(bC d (b+1)).f,(bC d (b+1)).code,(bC d (b+1)).regs)else some (1,(bC d (b+1))))
def eQ:Nat->dB->List Tok->Int->Option (Int×dB)
 |0=>fun _ _ _=>none
 |N+1=>sH N (eQ N)
theorem BU:∀(N:Nat) (w0:World) (M:BS) (hM:qJ M w0) (i:Nat) (g:dB) (A d:Value) (hC:EX w0 M (.two (.blk i [A,d,(Y g.regs)]) (.own fT 56 d g.code):Chunk)) (P:∀b,Chunk.own' (.two (.blk i [A,d,(Y g.regs)]) (.own fT 56 d g.code):Chunk) b->¬M b) (zH:fC eU w0 (fun b=>M b\/Chunk.own' (.two (.blk i [A,d,(Y g.regs)]) (.own fT 56 d g.code):Chunk) b) A g.f) (B:Value) (a:List Tok) (ha:fC iP w0 (fun b=>M b\/(.two (.blk i [A,d,(Y g.regs)]) (.own fT 56 d g.code):Chunk).own' b) B a) (b:Int) (r:Int×dB) (c:eQ N g a b=some r),
  Calls prog 24 #[(pT i),B,(Y b)] w0 (fun e w'=>bG (Chunk.own' (.two (.blk i [A,d,(Y g.regs)]) (.own fT 56 d g.code):Chunk)) w0 w'/\∃BR,∃sN,e=.returned (.int .i64 r.1)/\EX w' M (.two (.blk i [BR,sN,.int .i64 r.2.regs]) (.own fT 56 sN r.2.code):Chunk)/\(TI (.two (.blk i [BR,sN,.int .i64 r.2.regs]) (.own fT 56 sN r.2.code):Chunk) w0 (.two (.blk i [A,d,(Y g.regs)]) (.own fT 56 d g.code):Chunk))/\fC eU w' (fun b=>M b\/Chunk.own' (.two (.blk i [BR,sN,.int .i64 r.2.regs]) (.own fT 56 sN r.2.code):Chunk) b) BR r.2.f):=by
 intro N;induction N with
 |zero=>intro w0 M hM i g A d hC P zH B a ha b r c;cases c
 |succ N ih=>
 intro w0 M hM i g A d hC P zH B a ha b r c;replace c:sH N (eQ N) g a b=some r:=c;generalize eQ N=F0 at c ih;refine cst func24 ntmps24 Z ?_;have h:=SH.zV hM hC P;replace h:=(h.oM 3 zH vB).oM 4 ha<|mH vB;generalize qC:(.two (.blk i [A,d,(Y g.regs)]) (.own fT 56 d g.code):Chunk).own'=K0 at h;replace h:=h.un 1 2 Z Z;have vC:=ha.bZ;refine D<|aI Z<|nJ<|mP Z<|mI Z ?_;obtain⟨a1,c⟩:=bg c;refine fD Z a1 ?_;replace h:=h.pr 1 2;obtain⟨j4,o9,j9⟩:=h.eT 1 ⟨U,U⟩;refine cO fo Z Z (BQ _ _ j9 i g A d j4 o9 (h.yh 1 3 Z Z) (b+1) _ Z) ?_;rintro _ w⟨k6,u3,u5,rfl,h7,h8,g4⟩;refine⟨_,Z,?_⟩;replace h:=((h.jE 1 h7 ⟨U,U⟩ k6 h8).bA 5<|ji g4).un 1 2 Z Z;refine nJ<|mV B Z ?_;obtain⟨u,h4,c⟩:=aC c;obtain⟨q8,q6,p9,h,m4,p7⟩:=h.EH 4 6 Z gp Z (aD h4).1 (aD h4).2;obtain rfl:=m4;refine pY p7 Z<|EW (k:=0) h 6 iO Z<|bJ h 7 iO fun w k7 h=>bS h 7 iO Z (bL Z) fun w h=>aI Z<|nK<|dM AR Z<|lB h 7 aR Z<|nN<|aL<|D<|dA Z<|aB Z<|nN<|ay c Z (fun k3 c=>?_) fun k3 c=>?_;refine ax<|mP Z<|mI Z<|dM eF Z<|lB h 7 aR Z<|jf gz Z (bL Z) ?_;replace h:=h.pr 1 2;obtain⟨f3,h6,f7⟩:=h.eT 1 ⟨U,U⟩;obtain⟨F8,m0,c⟩:=aC c;refine cO fo Z Z (dW _ _ f7 i (bC g<|b+1) u3 u5 f3 h6 (h.yh 1 5 Z Z) (⟨1,b,u.n,0,[]⟩:Ins) nS ik.nil _ m0) ?_;rintro _ w⟨k5,l8,p2,rfl,m2,l7,j6⟩;refine⟨_,Z,?_⟩;replace h:=((h.jE 1 m2 ⟨U,U⟩ k5 l7).bA 8<|ji j6).un 1 2 Z Z;refine ak<|ae<|aa<|D<|mI Z<|aI Z<|nR<|cz results24 Z ?_;replace h:=h.pr 1 2;cases c;subst qC;obtain⟨q,s,t⟩:=h.fF 1 ⟨U,U⟩;exact⟨s,l8,p2,Z,q,t,h.xm 1 8 Z Z⟩;refine D<|dA Z<|aB Z<|nN<|ay c Z (fun n0 c=>?_) fun n0 c=>?_;refine ax<|mP Z<|mI Z<|dM eF Z<|lB h 7 aR Z<|jf gz Z (bL Z) ?_;replace h:=h.pr 1 2;obtain⟨d0,h3,b9⟩:=h.eT 1 ⟨U,U⟩;obtain⟨q7,o0,c⟩:=aC c;refine cO fo Z Z (dW _ _ b9 i (bC g<|b+1) u3 u5 d0 h3 (h.yh 1 5 Z Z) (⟨2,b,u.n,0,[]⟩:Ins) nS ik.nil _ o0) ?_;rintro _ w⟨QQ,n5,o5,rfl,n1,l5,m1⟩;refine⟨_,Z,?_⟩;replace h:=((h.jE 1 n1 ⟨U,U⟩ QQ l5).bA 9<|ji m1).un 1 2 Z Z;refine ak<|ae<|aa<|D<|mI Z<|aI Z<|nR<|cz results24 Z ?_;replace h:=h.pr 1 2;cases c;subst qC;obtain⟨q,s,t⟩:=h.fF 1 ⟨U,U⟩;exact⟨s,n5,o5,Z,q,t,h.xm 1 9 Z Z⟩;refine D<|dA Z<|aB Z<|nN<|ay c Z (fun k2 c=>?_) fun k2 c=>?_;refine ax<|mP Z<|mI Z<|dM eF Z<|lB h 7 aR Z<|jf gz Z (bL Z) ?_;replace h:=h.pr 1 2;obtain⟨f9,d1,h1⟩:=h.eT 1 ⟨U,U⟩;obtain⟨q5,m7,c⟩:=aC c;refine cO fo Z Z (dW _ _ h1 i (bC g<|b+1) u3 u5 f9 d1 (h.yh 1 5 Z Z) (⟨5,b,u.n,0,[]⟩:Ins) nS ik.nil _ m7) ?_;rintro _ w⟨i2,p1,p8,rfl,m9,k1,j2⟩;refine⟨_,Z,?_⟩
 replace h:=((h.jE 1 m9 ⟨U,U⟩ i2 k1).bA 10<|ji j2).un 1 2 Z Z;refine ak<|ae<|aa<|D<|mI Z<|aI Z<|nR<|cz results24 Z ?_;replace h:=h.pr 1 2;cases c;subst qC;obtain⟨q,s,t⟩:=h.fF 1 ⟨U,U⟩;exact⟨s,p1,p8,Z,q,t,h.xm 1 10 Z Z⟩;refine D<|dA Z<|aB Z<|nN<|ay c Z (fun p0 c=>?_) fun p0 c=>?_;refine D<|mI Z<|mP Z<|mV B Z<|mI Z ?_;obtain⟨Ug,i9,c⟩:=aC c;obtain⟨j1,h0,f0,e4⟩:=KX i9;obtain⟨n9,h,l9⟩:=h.slR 4 11 Z gp Z h0 f0 e4;rw[<-j1]at h;refine F (l9 _ _ _ _ _ _ _ _ _ _ Z (.inr<|congrArg some Z)<|.inl ⟨Z,Z⟩)<|mI Z ?_;replace h:=h.pr 1 2;obtain⟨h5,d5,c4⟩:=h.eT 1 ⟨U,U⟩;obtain⟨K7,m3,c⟩:=aC c;refine cO fo Z Z (ih _ _ c4 i (bC g<|b+1) u3 u5 h5 d5 (h.yh 1 5 Z Z) n9 Ug (h.yh 1 11 Z Z) b _ m3) ?_;rintro _ w⟨j5,o4,n4,rfl,i6,k8,j3⟩;refine⟨_,Z,?_⟩;replace h:=((h.jE 1 i6 ⟨U,U⟩ j5 k8).bA 12<|ji j3).un 1 2 Z Z;obtain⟨j0,c⟩:=bg c;refine fD Z j0<|aI Z<|nJ<|mI Z<|mP Z<|mV B Z<|mI Z ?_;obtain⟨lX,n3,c⟩:=aC c;obtain⟨i4,e5,f2,d8⟩:=KX n3;obtain⟨p3,h,o6⟩:=h.slR 4 13 Z gp Z e5 f2 d8;rw[<-i4]at h;refine F (o6 _ _ _ _ _ _ _ _ _ _ Z (.inr<|congrArg some Z)<|.inl ⟨Z,Z⟩)<|mI Z ?_;obtain⟨n6,c⟩:=bg c;refine fD Z n6 ?_;replace h:=h.pr 1 2;obtain⟨c9,c7,f1⟩:=h.eT 1 ⟨U,U⟩;obtain⟨yQ,Uh,c⟩:=aC c;refine cO fo Z Z (ih _ _ f1 i K7.2 o4 n4 c9 c7 (h.yh 1 12 Z Z) p3 lX (h.yh 1 13 Z Z) (b+1) _ Uh) ?_;rintro _ w⟨i3,i5,n2,rfl,m6,n7,p6⟩;refine⟨_,Z,?_⟩;replace h:=((h.jE 1 m6 ⟨U,U⟩ i3 n7).bA 14<|ji p6).un 1 2 Z Z;obtain⟨m5,c⟩:=bg c;refine fD Z m5<|aI Z<|nN<|ax<|mP Z<|mI Z<|mI Z<|mI Z ?_;obtain⟨j7,c⟩:=bg c;refine fD Z j7<|dM eF Z<|lB h 7 aR Z<|wu (R:=dm) (vs:=[(Y u.n)]) (xs:=[u.n]) h 15 iY Z Z Z ⟨Z,U⟩ Z fun w k9 h=>jf gz Z (aj Z<|aj Z<|aj Z<|aj Z<|aj (h.dS 15 Z).one bE) ?_;replace h:=(h.freeze 15 Z).pr 1 2;obtain⟨h2,e7,b6⟩:=h.eT 1 ⟨U,U⟩;obtain⟨TJ,l0,c⟩:=aC c;refine cO fo Z Z (dW _ _ b6 i yQ.2 i5 n2 h2 e7 (h.yh 1 14 Z Z) (⟨3,b,b,(b+1),[u.n]⟩:Ins) k9 (h.yh 1 15 Z Z) _ l0) ?_;rintro _ w⟨l4,l3,j8,rfl,l1,n8,o7⟩;refine⟨_,Z,?_⟩;replace h:=((h.jE 1 l1 ⟨U,U⟩ l4 n8).bA 16<|ji o7).un 1 2 Z Z;refine ak<|ae<|aa<|D<|mI Z<|aI Z<|nR<|cz results24 Z ?_;replace h:=h.pr 1 2;cases c;subst qC;obtain⟨q,s,t⟩:=h.fF 1 ⟨U,U⟩;exact⟨s,l3,j8,Z,q,t,h.xm 1 16 Z Z⟩;refine D<|dA Z<|aB Z<|nN<|ay c Z (fun p4 c=>?_) fun p4 c=>?_;refine D<|mI Z<|mP Z<|mV B Z<|mI Z ?_;obtain⟨k4,i8,c⟩:=aC c;obtain⟨l6,g0,g3,d2⟩:=KX i8;obtain⟨i7,h,k0⟩:=h.slR 4 17 Z gp Z g0 g3 d2;rw[<-l6]at h
 refine F (k0 _ _ _ _ _ _ _ _ _ _ Z (.inr<|congrArg some Z)<|.inl ⟨Z,Z⟩)<|mI Z ?_;replace h:=h.pr 1 2;obtain⟨c8,c6,d6⟩:=h.eT 1 ⟨U,U⟩;obtain⟨qF,o8,c⟩:=aC c;refine cO fo Z Z (ih _ _ d6 i (bC g<|b+1) u3 u5 c8 c6 (h.yh 1 5 Z Z) i7 k4 (h.yh 1 17 Z Z) b _ o8) ?_;rintro _ w⟨h9,m8,Z9,rfl,b8,e3,g5⟩;refine⟨_,Z,?_⟩;replace h:=((h.jE 1 b8 ⟨U,U⟩ h9 e3).bA 18<|ji g5).un 1 2 Z Z;obtain⟨d9,c⟩:=bg c;refine fD Z d9<|aI Z<|nN<|ax<|mP Z<|mI Z<|mI Z<|dM eF Z<|lB h 7 aR Z<|jf gz Z (bL Z) ?_;replace h:=h.pr 1 2;obtain⟨a7,O,S⟩:=h.eT 1 ⟨U,U⟩;obtain⟨qp,g1,c⟩:=aC c;refine cO fo Z Z (dW _ _ S i qF.2 m8 Z9 a7 O (h.yh 1 18 Z Z) (⟨4,b,b,u.n,[]⟩:Ins) nS ik.nil _ g1) ?_;rintro _ w⟨g8,Lr,e8,rfl,p5,e1,g7⟩;refine⟨_,Z,?_⟩;replace h:=((h.jE 1 p5 ⟨U,U⟩ g8 e1).bA 19<|ji g7).un 1 2 Z Z;refine ak<|ae<|aa<|D<|mI Z<|aI Z<|nR<|cz results24 Z ?_;replace h:=h.pr 1 2;cases c;subst qC;obtain⟨q,s,t⟩:=h.fF 1 ⟨U,U⟩;exact⟨s,Lr,e8,Z,q,t,h.xm 1 19 Z Z⟩;refine D<|dA Z<|aB Z<|nN<|ay c Z (fun g2 c=>?_) fun g2 c=>?_;refine D<|aV nS Z<|nN<|aK<|aK<|AP mixed zq2 h fun w h=>aG (bM (v:=(pT i)) Z)<|aG (aJ Z)<|aG (aH Fld51x0 Z)<|aG (df h 1 Z y5 Z Z)<|aG (aH eF Z)<|aG (df h 7 Z aR Z Z) ?_;obtain⟨Jw,G,c⟩:=aC c;obtain⟨q4,q1,l2,h,g6,d3⟩:=h.EH 5 20 Z eG Z (aD G).1 (aD G).2;obtain⟨q0,rfl,e2⟩:=kW g6;replace h:=h.bA 21 e2.up;refine aG (d3 _ _ _ _ _ _ _ _ _ Z Z)<|aG (aH pJ Z)<|aG (gu (k:=0) h 20 Z aR Z Z)<|kI Z<|yz<|aa<|aL ?_;replace h:=(h.yX (R:=dm) (E:=3) 28).mo 5 29 Z;refine gZ (σ:=Nat×Int×Value×List Int×Int×Value×List dw×Value×List Ins×Int) (inl ([8,9,10]++rg 101 20)) (fun⟨y,p,K,T,z,Ui,j,IE,l,o⟩=>[(8,(Y p)),(9,K),(101,(Y z))]) (fun⟨y,p,K,T,z,Ui,j,IE,l,o⟩w=>SH w0 M K0 w (hset [(1,.blk i [Ui,IE,(Y o)]),(2,.own fT 56 IE l),(4,.rd iP B a),(7,.blk k7 [(Y u.kind),(Y u.n)]),(28,.own dm 3 K T),(29,.rd eU Ui j)])/\again (fO F0 Jw a b u) y (p,T,z,j,l,o)=some r) (fun⟨y,p,K,T,z,Ui,j,IE,l,o⟩=>y) ⟨N,1,nS,[],0,u3,(bC g<|b+1).f,u5,(bC g<|b+1).code,(bC g<|b+1).regs⟩ ⟨Z,Z,Z,U⟩ ?_ ?_;exact⟨h.cn _,c⟩;rintro⟨y,p,K,T,z,Ui,j,IE,l,o⟩w dJ⟨h,c⟩;obtain⟨x,a9,Q⟩:=oZ c;subst a9;replace c:=Q;generalize C:again (fO F0 Jw a b u) x=nx165 at c;refine D<|iV Z<|nN<|aK<|ay c Z (fun b0 c=>?_) fun b0 c=>?_;refine aA<|aa<|aK<|aL<|D<|mI Z<|aI Z<|nJ<|mI Z<|mP Z<|mV B Z<|mI Z ?_;obtain⟨i0,f5,c⟩:=aC c;obtain⟨c5,a2,a3,L⟩:=KX f5;obtain⟨c1,h,c3⟩:=h.slR 4 30 Z gp Z a2 a3 L;rw[<-c5]at h;refine F (c3 _ _ _ _ _ _ _ _ _ _ Z (.inr<|congrArg some Z)<|.inl ⟨Z,Z⟩)<|mI Z<|mI Z ?_
 obtain⟨b1,c⟩:=bg c;refine fD Z b1 ?_;replace h:=h.pr 1 2;obtain⟨a6,X,a4⟩:=h.eT 1 ⟨U,U⟩;obtain⟨OC,g9,c⟩:=aC c;refine cO fo Z Z (ih _ _ a4 i (⟨j,l,o⟩:dB) Ui IE a6 X (h.yh 1 29 Z Z) c1 i0 (h.yh 1 30 Z Z) (b+z) _ g9) ?_;rintro _ w⟨e9,e6,c0,rfl,b4,b3,f8⟩;refine⟨_,Z,?_⟩;replace h:=((h.jE 1 b4 ⟨U,U⟩ e9 b3).bA 31<|ji f8).un 1 2 Z Z;obtain⟨c2,c⟩:=bg c;refine fD Z c2<|aI Z<|nN<|ax<|mV K Z<|mI Z<|mI Z ?_;obtain⟨f6,c⟩:=bg c;refine fD Z f6<|wu (R:=dm) (vs:=[(Y ((b+z)))]) (xs:=[(b+z)]) h 32 iY Z Z Z ⟨Z,U⟩ Z fun w q2 h=>?_;obtain⟨I,c⟩:=bg c;refine oC (R:=dm) (m:=[(b+z)]) h 28 Z (h.eH 32 Z) iY Z Z Z I.1 I.2 fun w J h=>aV J Z<|ak<|ae<|aa<|ax ?_;obtain⟨b7,c⟩:=bg c;refine fD Z b7<|mI Z<|ak<|ag ?_;replace h:=h.mo 31 29 Z;subst C;exact ky ⟨x,(p+OC.1),J,(T++[(b+z)]),(z+1),e6,OC.2.f,c0,OC.2.code,OC.2.regs⟩ ⟨h.cn _,c⟩;refine gJ<|bz<|bz<|dD<|aa<|ax<|mP Z<|mI Z<|dM eF Z<|lB h 7 aR Z<|mV K Z<|jf gz Z (aj Z<|aj Z<|aj Z<|aj (h.dS 28 Z).one bE) ?_;replace h:=(h.freeze 28 Z).pr 1 2;obtain⟨a5,a8,a0⟩:=h.eT 1 ⟨U,U⟩;obtain⟨q3,f4,c⟩:=aC c;refine cO fo Z Z (dW _ _ a0 i (⟨j,l,o⟩:dB) Ui IE a5 a8 (h.yh 1 29 Z Z) (⟨7,b,u.n,0,T⟩:Ins) K (h.yh 1 28 Z Z) _ f4) ?_;rintro _ w⟨d4,i1,e0,rfl,b5,d7,b2⟩;refine⟨_,Z,?_⟩;replace h:=((h.jE 1 b5 ⟨U,U⟩ d4 d7).bA 33<|ji b2).un 1 2 Z Z;refine ak<|ae<|aa<|D<|mI Z<|aI Z<|nR<|cz results24 Z ?_;replace h:=h.pr 1 2;cases c;subst qC;obtain⟨q,s,t⟩:=h.fF 1 ⟨U,U⟩;exact⟨s,i1,e0,Z,q,t,h.xm 1 33 Z Z⟩;refine aA<|ae<|aa<|D<|mI Z<|aI Z<|nR<|cz results24 Z ?_;replace h:=h.pr 1 2;cases c;subst qC;obtain⟨q,s,t⟩:=h.fF 1 ⟨U,U⟩;exact⟨s,u3,u5,Z,q,t,h.xm 1 5 Z Z⟩
def eu(d:(List dw×List Ins×Int)->Option dB)(b:List dw)(a:List Ins)(c:Int):Option dB:=
 d (b,a,c)
def gP(N:Nat)(F0:dB->List aN->Int->Option dB)(d:aN)(b:Int)(i:(List dw×List Ins×Int)->Option dB)(a:List aN)(j:List dw)(h:List Ins)(g:Int):Option dB:=
 bif decide (d.kind=1)then(dL (⟨j,h,g⟩:dB) (⟨2,d.n,b,0,[]⟩:Ins)).bind fun r=>eu i r.2.f r.2.code r.2.regs else bif decide (d.kind=2)then gD (jY (b+1)) ((eQ N (⟨j,h,g⟩:dB) d.f (b+1)).bind fun u=>gD (jY (b+1)) ((dL u.2 (⟨6,b,(b+1),d.n,[]⟩:Ins)).bind fun s=>eu i s.2.f s.2.code s.2.regs))else bif decide (d.kind=3)then(dL (⟨j,h,g⟩:dB) (⟨9,b,0,0,[]⟩:Ins)).bind fun p=>eu i p.2.f p.2.code p.2.regs else bif decide (d.kind=4)then(dL (⟨j,h,g⟩:dB) (⟨10,0,0,0,[]⟩:Ins)).bind fun k=>eu i k.2.f k.2.code k.2.regs else bif decide (d.kind=5)then(dL (⟨j,h,g⟩:dB) (⟨11,b,0,0,[]⟩:Ins)).bind fun q=>eu i q.2.f q.2.code q.2.regs else bif decide (d.kind=8)then(dL (⟨j,h,g⟩:dB) (⟨8,b,0,0,[]⟩:Ins)).bind fun e=>eu i e.2.f e.2.code e.2.regs else bif decide (d.kind=6)then(dL (⟨j,h,g⟩:dB) (⟨13,b,0,0,[]⟩:Ins)).bind fun t=>(F0 t.2 d.a b).bind fun v=>(dL v (⟨12,0,0,0,[]⟩:Ins)).bind fun l=>(idx l.2.code t.1).bind fun m=>(F0 (⟨l.2.f,(l.2.code.set (t.1).toNat {m with b:=(l.2.code.length:Int)}),l.2.regs⟩:dB) d.b b).bind fun c=>(idx c.code l.1).bind fun o=>eu i c.f (c.code.set (l.1).toNat {o with b:=(c.code.length:Int)}) c.regs else eu i j h g
def jX(N:Nat)(F0:dB->List aN->Int->Option dB)(b:Int)(a:List aN)(c:aN)(s:List dw×List Ins×Int)(j:List dw×List Ins×Int->Option dB):Option dB:=
 match s with|(EA,F8,y20)=>bif decide (0<(c.e.length:Int))then(eQ N (⟨EA,F8,y20⟩:dB) c.e b).bind fun i=>bif decide (c.kind=7)then(dL i.2 (⟨13,b,0,0,[]⟩:Ins)).bind fun k=>(F0 k.2 c.a b).bind fun g=>(dL g (⟨12,0,(F8.length:Int),0,[]⟩:Ins)).bind fun h=>(idx h.2.code k.1).bind fun d=>eu j h.2.f (h.2.code.set (k.1).toNat {d with b:=(h.2.code.length:Int)}) h.2.regs else gP N F0 c b j a i.2.f i.2.code i.2.regs else gP N F0 c b j a EA F8 y20
def pM(s:List dw×List Ins×Int):Option dB:=
 match s with|(EA,F8,y20)=>some (⟨EA,F8,y20⟩:dB)
def qO(N:Nat)(F0:dB->List aN->Int->Option dB)(c:dB)(a:List aN)(b:Int):Option dB:=
 each (jX N F0 b a) pM a (c.f,c.code,c.regs)
def iR:Nat->dB->List aN->Int->Option dB
 |0=>fun _ _ _=>none
 |N+1=>qO N (iR N)
theorem GH:∀(N:Nat) (w0:World) (M:BS) (hM:qJ M w0) (d:Nat) (l:dB) (X g:Value) (hC:EX w0 M (.two (.blk d [X,g,(Y l.regs)]) (.own fT 56 g l.code):Chunk)) (b5:∀b,Chunk.own' (.two (.blk d [X,g,(Y l.regs)]) (.own fT 56 g l.code):Chunk) b->¬M b) (zH:fC eU w0 (fun b=>M b\/Chunk.own' (.two (.blk d [X,g,(Y l.regs)]) (.own fT 56 g l.code):Chunk) b) X l.f) (va:Value) (a:List aN) (ha:fC dz w0 (fun b=>M b\/(.two (.blk d [X,g,(Y l.regs)]) (.own fT 56 g l.code):Chunk).own' b) va a) (b:Int) (r:dB) (c:iR N l a b=some r),
  Calls prog 13 #[(pT d),va,(Y b)] w0 (fun e w'=>bG (Chunk.own' (.two (.blk d [X,g,(Y l.regs)]) (.own fT 56 g l.code):Chunk)) w0 w'/\∃BR,∃sN,e=.returned (.tuple #[])/\EX w' M (.two (.blk d [BR,sN,.int .i64 r.regs]) (.own fT 56 sN r.code):Chunk)/\(TI (.two (.blk d [BR,sN,.int .i64 r.regs]) (.own fT 56 sN r.code):Chunk) w0 (.two (.blk d [X,g,(Y l.regs)]) (.own fT 56 g l.code):Chunk))/\fC eU w' (fun b=>M b\/Chunk.own' (.two (.blk d [BR,sN,.int .i64 r.regs]) (.own fT 56 sN r.code):Chunk) b) BR r.f):=by
 intro N;induction N with
 |zero=>intro w0 M hM d l X g hC b5 zH va a ha b r c;cases c
 |succ N ih=>
 intro w0 M hM d l X g hC b5 zH va a ha b r c;replace c:qO N (iR N) l a b=some r:=c;generalize iR N=F0 at c ih;refine cst func13 ntmps13 Z ?_;have h:=SH.zV hM hC b5;replace h:=(h.oM 3 zH vB).oM 4 ha<|mH vB;generalize qC:(.two (.blk d [X,g,(Y l.regs)]) (.own fT 56 g l.code):Chunk).own'=K0 at h;replace h:=h.un 1 2 Z Z;have vC:=ha.bZ;refine D<|mV va Z<|ng h 4 iA Z<|mI Z<|nN<|aL ?_;replace h:=h.mo 3 8 Z;refine gZ (σ:=Nat×Int×Value×List dw×Value×List Ins×Int) (inl ([7,8,9,10]++rg 13 119)) (fun⟨t,y,p,EA,q,F8,s⟩=>[(13,(Y y))]) (fun⟨t,y,p,EA,q,F8,s⟩w=>SH w0 M K0 w (hset [(1,.blk d [p,q,(Y s)]),(2,.own fT 56 q F8),(4,.rd dz va a),(8,.rd eU p EA)])/\y=(t:Int)/\each (jX N F0 b a) pM (a.drop t) (EA,F8,s)=some r) (fun⟨t,y,p,EA,q,F8,s⟩=>a.length-t) ⟨0,0,X,l.f,g,l.code,l.regs⟩ ⟨Z,U⟩ ?_ ?_;exact⟨h.cn _,Z,c⟩;rintro⟨t,y,p,EA,q,F8,s⟩w dJ⟨h,x,c⟩;refine D ?_;refine iV Z<|nN ?_;refine aK<|iU Z (fun R=>?_) fun R=>?_;refine aA<|aa ?_;obtain⟨m,rJ,g1,Sg,c⟩:=lQ x R c;have h4:=gU ((h.rD 4 Z)).bZ x R;refine bP (σ:=Value×List dw×Value×List Ins×Int) (inl ([7,8,9,10]++rg 15 116)) (fun⟨P,T,I,S,G⟩=>[]) (fun⟨P,T,I,S,G⟩w=>SH w0 M K0 w (hset [(1,.blk d [P,I,(Y G)]),(2,.own fT 56 I S),(4,.rd dz va a),(9,.rd eU P T)])/\eu rJ T S G=some r) ?_ ?_;rintro⟨P,T,I,S,G⟩w dJ⟨h,c⟩;refine ax<|fD Z h4<|mI Z<|ak<|ag ?_;replace h:=h.mo 9 8 Z;subst Sg;exact ky ⟨t+1,y+1,P,T,I,S,G⟩ ⟨h.cn _,by omega,c⟩<|vI x R;refine aL<|D ?_;obtain⟨t0,s9,s4,h,q1,o8⟩:=h.EH 4 10 Z iA Z (je x)<|gT x g1;obtain⟨Q,O,u,L,rfl,r4,o0,o4,n5⟩:=sS q1;replace h:=((h.bA 11 r4.up).bA 12 o0.up.up).bA 13 o4.up.up.up;replace h:=h.bA 14 n5.up.up.up.up;refine pY o8 Z<|EW (k:=0) h 10 kE Z<|bJ h 15 kE fun w n4 h=>bS h 15 kE Z (aj Z<|aj Z<|aj (h.fH 11 Z).one<|aj (h.fH 12 Z).one<|aj (h.fH 13 Z).one<|aj (h.fH 14 Z).one bE) fun w h=>nN<|bP (σ:=Value×List dw×Value×List Ins×Int) (inl ([8]++rg 17 22)) (fun⟨j,B,i,A,z⟩=>[]) (fun⟨j,B,i,A,z⟩w=>SH w0 M K0 w (hset [(1,.blk d [j,i,(Y z)]),(2,.own fT 56 i A),(4,.rd dz va a),(11,.rd iP Q m.e),(12,.rd iP O m.f),(13,.rd dz u m.a),(14,.rd dz L m.b),(15,.blk n4 [(Y m.kind),(Y m.n),Q,O,u,L]),(16,.rd eU j B)])/\gP N F0 m b rJ a B A z=some r) ?_ ?_;rintro⟨j,B,i,A,z⟩w dJ⟨h,c⟩;refine D<|dM jU Z<|lB h 15 aR Z<|nN<|aL<|D<|dA Z<|aB Z<|nN<|ay c Z (fun Ga c=>?_) fun Ga c=>?_;refine ax<|mP Z<|dM ou Z<|lB h 15 aR Z<|mI Z<|jf gz Z (bL Z) ?_;replace h:=h.pr 1 2;obtain⟨n0,g6,f2⟩:=h.eT 1 ⟨U,U⟩;obtain⟨K7,q8,c⟩:=aC c;refine cO fo Z Z (dW _ _ f2 d (⟨B,A,z⟩:dB) j i n0 g6 (h.yh 1 16 Z Z) (⟨2,m.n,b,0,[]⟩:Ins) nS ik.nil _ q8) ?_;rintro _ w⟨p0,r6,r2,rfl,n8,q0,o9⟩
 refine⟨_,Z,?_⟩;replace h:=((h.jE 1 n8 ⟨U,U⟩ p0 q0).bA 17<|ji o9).un 1 2 Z Z;refine ak<|ae<|ae<|ag ?_;replace h:=h.mo 17 9 Z;exact bI (r6,K7.2.f,r2,K7.2.code,K7.2.regs) ⟨h.cn _,c⟩;refine D<|dA Z<|aB Z<|nN<|ay c Z (fun p9 c=>?_) fun p9 c=>?_;refine D<|mP Z<|dM Aj Z<|lB h 15 vg Z<|mI Z ?_;obtain⟨s1,c⟩:=bg c;refine fD Z s1 ?_;replace h:=h.pr 1 2;obtain⟨j3,i1,h8⟩:=h.eT 1 ⟨U,U⟩;obtain⟨Dx,p8,c⟩:=aC c;refine cO fo Z Z (BU N _ _ h8 d (⟨B,A,z⟩:dB) j i j3 i1 (h.yh 1 16 Z Z) O m.f (h.yh 1 12 Z Z) (b+1) _ p8) ?_;rintro _ w⟨p5,p6,s3,rfl,q6,n3,n7⟩;refine⟨_,Z,?_⟩;replace h:=((h.jE 1 q6 ⟨U,U⟩ p5 n3).bA 18<|ji n7).un 1 2 Z Z;refine nN<|ax<|mP Z<|mI Z<|mI Z ?_;obtain⟨r3,c⟩:=bg c;refine fD Z r3<|dM ou Z<|lB h 15 aR Z<|jf gz Z (bL Z) ?_;replace h:=h.pr 1 2;obtain⟨k9,i8,g7⟩:=h.eT 1 ⟨U,U⟩;obtain⟨Dy,r8,c⟩:=aC c;refine cO fo Z Z (dW _ _ g7 d Dx.2 p6 s3 k9 i8 (h.yh 1 18 Z Z) (⟨6,b,(b+1),m.n,[]⟩:Ins) nS ik.nil _ r8) ?_;rintro _ w⟨r9,q3,q9,rfl,o6,r5,p1⟩;refine⟨_,Z,?_⟩;replace h:=((h.jE 1 o6 ⟨U,U⟩ r9 r5).bA 19<|ji p1).un 1 2 Z Z;refine ak<|ae<|ae<|ag ?_;replace h:=h.mo 19 9 Z;exact bI (q3,Dy.2.f,q9,Dy.2.code,Dy.2.regs) ⟨h.cn _,c⟩;refine D<|dA Z<|aB Z<|nN<|ay c Z (fun s2 c=>?_) fun s2 c=>?_;refine ax<|mP Z<|mI Z<|jf gz Z (bL Z) ?_;replace h:=h.pr 1 2;obtain⟨e9,f5,j4⟩:=h.eT 1 ⟨U,U⟩;obtain⟨Ez,p7,c⟩:=aC c;refine cO fo Z Z (dW _ _ j4 d (⟨B,A,z⟩:dB) j i e9 f5 (h.yh 1 16 Z Z) (⟨9,b,0,0,[]⟩:Ins) nS ik.nil _ p7) ?_;rintro _ w⟨o5,n6,n9,rfl,s0,p2,p3⟩;refine⟨_,Z,?_⟩;replace h:=((h.jE 1 s0 ⟨U,U⟩ o5 p2).bA 20<|ji p3).un 1 2 Z Z;refine ak<|ae<|ae<|ag ?_;replace h:=h.mo 20 9 Z;exact bI (n6,Ez.2.f,n9,Ez.2.code,Ez.2.regs) ⟨h.cn _,c⟩;refine D<|dA Z<|aB Z<|nN<|ay c Z (fun r0 c=>?_) fun r0 c=>?_;refine ax<|mP Z<|jf gz Z (bL Z) ?_;replace h:=h.pr 1 2;obtain⟨g3,h7,h3⟩:=h.eT 1 ⟨U,U⟩;obtain⟨d4,o7,c⟩:=aC c;refine cO fo Z Z (dW _ _ h3 d (⟨B,A,z⟩:dB) j i g3 h7 (h.yh 1 16 Z Z) (⟨10,0,0,0,[]⟩:Ins) nS ik.nil _ o7) ?_;rintro _ w⟨QS,q7,r1,rfl,q2,m7,q5⟩;refine⟨_,Z,?_⟩;replace h:=((h.jE 1 q2 ⟨U,U⟩ QS m7).bA 21<|ji q5).un 1 2 Z Z;refine ak<|ae<|ae<|ag ?_;replace h:=h.mo 21 9 Z;exact bI (q7,d4.2.f,r1,d4.2.code,d4.2.regs) ⟨h.cn _,c⟩;refine D<|dA Z<|aB Z<|nN<|ay c Z (fun r7 c=>?_) fun r7 c=>?_;refine ax<|mP Z<|mI Z<|jf gz Z (bL Z) ?_;replace h:=h.pr 1 2;obtain⟨a9,d5,b9⟩:=h.eT 1 ⟨U,U⟩;obtain⟨Uj,Uk,c⟩:=aC c;refine cO fo Z Z (dW _ _ b9 d (⟨B,A,z⟩:dB) j i a9 d5 (h.yh 1 16 Z Z) (⟨11,b,0,0,[]⟩:Ins) nS ik.nil _ Uk) ?_;rintro _ w⟨f4,d7,Lr,rfl,d9,f6,k4⟩
 refine⟨_,Z,?_⟩;replace h:=((h.jE 1 d9 ⟨U,U⟩ f4 f6).bA 22<|ji k4).un 1 2 Z Z;refine ak<|ae<|ae<|ag ?_;replace h:=h.mo 22 9 Z;exact bI (d7,Uj.2.f,Lr,Uj.2.code,Uj.2.regs) ⟨h.cn _,c⟩;refine D<|dA Z<|aB Z<|nN<|ay c Z (fun i6 c=>?_) fun i6 c=>?_;refine ax<|mP Z<|mI Z<|jf gz Z (bL Z) ?_;replace h:=h.pr 1 2;obtain⟨d0,b0,b8⟩:=h.eT 1 ⟨U,U⟩;obtain⟨J,m5,c⟩:=aC c;refine cO fo Z Z (dW _ _ b8 d (⟨B,A,z⟩:dB) j i d0 b0 (h.yh 1 16 Z Z) (⟨8,b,0,0,[]⟩:Ins) nS ik.nil _ m5) ?_;rintro _ w⟨i4,l7,j9,rfl,i0,j7,e7⟩;refine⟨_,Z,?_⟩;replace h:=((h.jE 1 i0 ⟨U,U⟩ i4 j7).bA 23<|ji e7).un 1 2 Z Z;refine ak<|ae<|ae<|ag ?_;replace h:=h.mo 23 9 Z;exact bI (l7,J.2.f,j9,J.2.code,J.2.regs) ⟨h.cn _,c⟩;refine D<|dA Z<|aB Z<|nN<|ay c Z (fun e0 c=>?_) fun e0 c=>?_;refine D<|mP Z<|mI Z<|jf gz Z (bL Z) ?_;replace h:=h.pr 1 2;obtain⟨a8,c6,c4⟩:=h.eT 1 ⟨U,U⟩;obtain⟨Xp,f3,c⟩:=aC c;refine cO fo Z Z (dW _ _ c4 d (⟨B,A,z⟩:dB) j i a8 c6 (h.yh 1 16 Z Z) (⟨13,b,0,0,[]⟩:Ins) nS ik.nil _ f3) ?_;rintro _ w⟨m9,g5,e6,rfl,g2,k7,e5⟩;refine⟨_,Z,?_⟩;replace h:=((h.jE 1 g2 ⟨U,U⟩ m9 k7).bA 24<|ji e5).un 1 2 Z Z;refine aI Z<|nJ<|mP Z<|dM uM Z<|lB h 15 l6 Z<|mI Z ?_;replace h:=h.pr 1 2;obtain⟨b1,b3,d6⟩:=h.eT 1 ⟨U,U⟩;obtain⟨F9,f1,c⟩:=aC c;refine cO fo Z Z (ih _ _ d6 d Xp.2 g5 e6 b1 b3 (h.yh 1 24 Z Z) u m.a (h.yh 1 13 Z Z) b _ f1) ?_;rintro _ w⟨h9,h0,l2,rfl,m6,i2,h6⟩;refine⟨_,Z,?_⟩;replace h:=((h.jE 1 m6 ⟨U,U⟩ h9 i2).bA 25<|ji h6).un 1 2 Z Z;refine nJ<|mP Z<|jf gz Z (bL Z) ?_;replace h:=h.pr 1 2;obtain⟨c1,c9,b6⟩:=h.eT 1 ⟨U,U⟩;obtain⟨II,j2,c⟩:=aC c;refine cO fo Z Z (dW _ _ b6 d F9 h0 l2 c1 c9 (h.yh 1 25 Z Z) (⟨12,0,0,0,[]⟩:Ins) nS ik.nil _ j2) ?_;rintro _ w⟨j8,e3,j0,rfl,m0,k0,h1⟩;refine⟨_,Z,?_⟩;replace h:=((h.jE 1 m0 ⟨U,U⟩ j8 k0).bA 26<|ji h1).un 1 2 Z Z;refine aI Z<|nN<|aK<|qf 12 mixed zq2 h fun w h=>aG (bM (v:=(pT d)) Z)<|aG (aJ Z)<|aG (aH uJ Z)<|aG (df h 1 Z qK Z Z)<|kI Z<|aG (bM (v:=(pT d)) Z)<|aG (aJ Z)<|aG (aH uJ Z)<|aG (df h 1 Z qK Z Z)<|aG (iH gX Z<|h.eH 2 Z) ?_;obtain⟨a3,K,c⟩:=aC c;obtain⟨s6,k5,k1⟩:=h.wI 2 Z gX Z (aD K).1 (aD K).2;refine aG (k1 _ _ _ _ _ _ _ _ _ Z Z) (aG (aH jg Z) (zU (Ij (a':={a3 with b:=(II.2.code.length:Int)}) h 2 Z k5 Z (aD K).2 aR Z Z Z Z (by rintro _ hq;obtain⟨p4,rfl,q4⟩:=yB hq;exact⟨_,Z,q4⟩) fun w h=>nJ (mP Z (dM xq Z (lB h 15 l6 Z (mI Z ?_)))))));replace h:=h.pr 1 2;obtain⟨a5,c2,d2⟩:=h.eT 1 ⟨U,U⟩;obtain⟨o,i7,c⟩:=aC c
 refine cO fo Z Z (ih _ _ d2 d (⟨II.2.f,(II.2.code.set (Xp.1).toNat {a3 with b:=(II.2.code.length:Int)}),II.2.regs⟩:dB) e3 j0 a5 c2 (h.yh 1 26 Z Z) L m.b (h.yh 1 14 Z Z) b _ i7) ?_;rintro _ w⟨k2,i9,k6,rfl,l0,g0,g9⟩;refine⟨_,Z,?_⟩;replace h:=((h.jE 1 l0 ⟨U,U⟩ k2 g0).bA 27<|ji g9).un 1 2 Z Z;refine nN<|qf 12 mixed zq2 h fun w h=>aG (bM (v:=(pT d)) Z)<|aG (aJ Z)<|aG (aH uJ Z)<|aG (df h 1 Z qK Z Z)<|kI Z<|aG (bM (v:=(pT d)) Z)<|aG (aJ Z)<|aG (aH uJ Z)<|aG (df h 1 Z qK Z Z)<|aG (iH gX Z<|h.eH 2 Z) ?_;obtain⟨a4,C,c⟩:=aC c;obtain⟨s8,d8,f9⟩:=h.wI 2 Z gX Z (aD C).1 (aD C).2;refine aG (f9 _ _ _ _ _ _ _ _ _ Z Z) (aG (aH jg Z) (zU (Ij (a':={a4 with b:=(o.code.length:Int)}) h 2 Z d8 Z (aD C).2 aR Z Z Z Z (by rintro _ hq;obtain⟨p4,rfl,q4⟩:=yB hq;exact⟨_,Z,q4⟩) fun w h=>ak (ae (ae (ag ?_))))));replace h:=h.mo 27 9 Z;exact bI (i9,o.f,k6,(o.code.set (II.1).toNat {a4 with b:=(o.code.length:Int)}),o.regs) ⟨h.cn _,c⟩;refine aA<|ae<|ae<|ag ?_;replace h:=h.mo 16 9 Z;exact bI (j,B,i,A,z) ⟨h.cn _,c⟩;refine D<|dM uL Z<|lB h 15 vg Z<|ng h 11 gp Z<|F (iW Z Z)<|nN<|ay c Z (fun e4 c=>?_) fun e4 c=>?_;refine D<|mP Z<|F (aJ Z)<|dM uJ Z<|lB h 1 qK Z<|F (iH gX Z<|h.eH 2 Z)<|aI Z<|nJ<|mP Z<|dM uL Z<|lB h 15 vg Z<|mI Z ?_;replace h:=h.pr 1 2;obtain⟨c3,c5,b2⟩:=h.eT 1 ⟨U,U⟩;obtain⟨QR,f7,c⟩:=aC c;refine cO fo Z Z (BU N _ _ b2 d (⟨EA,F8,s⟩:dB) p q c3 c5 (h.yh 1 8 Z Z) Q m.e (h.yh 1 11 Z Z) b _ f7) ?_;rintro _ w⟨g4,a2,a1,rfl,e2,l3,j6⟩;refine⟨_,Z,?_⟩;replace h:=((h.jE 1 e2 ⟨U,U⟩ g4 l3).bA 28<|ji j6).un 1 2 Z Z;refine nJ<|dM jU Z<|lB h 15 aR Z<|dA Z<|nN<|ay c Z (fun l1 c=>?_) fun l1 c=>?_;refine D<|mP Z<|vR h 15 kE Z<|mI Z<|mI Z<|kz (args:=[(pT d),(.agg #[(Y m.kind),(Y m.n),Q,O,u,L]),(Y ((F8.length:Int))),(Y b)]) fo Z Z<|cst func25 ntmps25 Z<|D<|pE (cs:=[(Y m.kind),(Y m.n),Q,O,u,L]) h 29 Z Z fun w s7 h=>nJ<|mP Z<|mI Z<|jf gz Z (bL Z) ?_;replace h:=h.pr 1 2;obtain⟨a7,c8,a6⟩:=h.eT 1 ⟨U,U⟩;obtain⟨Xq,m1,c⟩:=aC c;refine cO fo Z Z (dW _ _ a6 d QR.2 a2 a1 a7 c8 (h.yh 1 28 Z Z) (⟨13,b,0,0,[]⟩:Ins) nS ik.nil _ m1) ?_;rintro _ w⟨l5,i3,i5,rfl,h5,f8,k8⟩;refine⟨_,Z,?_⟩;replace h:=((h.jE 1 h5 ⟨U,U⟩ l5 f8).bA 30<|ji k8).un 1 2 Z Z;refine aI Z<|nJ<|mP Z<|dM uM Z<|lB h 29 l6 Z<|mI Z ?_;replace h:=h.pr 1 2;obtain⟨d3,b7,b4⟩:=h.eT 1 ⟨U,U⟩;obtain⟨m8,f0,c⟩:=aC c;refine cO fo Z Z (ih _ _ b4 d Xq.2 i3 i5 d3 b7 (h.yh 1 30 Z Z) u m.a (h.yh 1 13 Z Z) b _ f0) ?_;rintro _ w⟨l4,m3,e1,rfl,h2,l9,m2⟩;refine⟨_,Z,?_⟩
 replace h:=((h.jE 1 h2 ⟨U,U⟩ l4 l9).bA 31<|ji m2).un 1 2 Z Z;refine nJ<|mP Z<|mI Z<|jf gz Z (bL Z) ?_;replace h:=h.pr 1 2;obtain⟨c7,d1,c0⟩:=h.eT 1 ⟨U,U⟩;obtain⟨MM,j5,c⟩:=aC c;refine cO fo Z Z (dW _ _ c0 d m8 m3 e1 c7 d1 (h.yh 1 31 Z Z) (⟨12,0,(F8.length:Int),0,[]⟩:Ins) nS ik.nil _ j5) ?_;rintro _ w⟨n2,k3,n1,rfl,m4,l8,g8⟩;refine⟨_,Z,?_⟩;replace h:=((h.jE 1 m4 ⟨U,U⟩ n2 l8).bA 32<|ji g8).un 1 2 Z Z;refine nN<|qf 12 mixed zq2 h fun w h=>aG (bM (v:=(pT d)) Z)<|aG (aJ Z)<|aG (aH uJ Z)<|aG (df h 1 Z qK Z Z)<|kI Z<|aG (bM (v:=(pT d)) Z)<|aG (aJ Z)<|aG (aH uJ Z)<|aG (df h 1 Z qK Z Z)<|aG (iH gX Z<|h.eH 2 Z) ?_;obtain⟨a0,E,c⟩:=aC c;obtain⟨s5,j1,e8⟩:=h.wI 2 Z gX Z (aD E).1 (aD E).2;refine aG (e8 _ _ _ _ _ _ _ _ _ Z Z) (aG (aH jg Z) (zU (Ij (a':={a0 with b:=(MM.2.code.length:Int)}) h 2 Z j1 Z (aD E).2 aR Z Z Z Z (by rintro _ hq;obtain⟨p4,rfl,q4⟩:=yB hq;exact⟨_,Z,q4⟩) fun w h=>ak (Ii results25 (⟨_,Z,?_⟩)))));refine nN<|gJ<|bz<|dD<|ag ?_;replace h:=h.mo 32 9 Z;exact bI (k3,MM.2.f,n1,(MM.2.code.set (Xq.1).toNat {a0 with b:=(MM.2.code.length:Int)}),MM.2.regs) ⟨h.cn _,c⟩;refine aA<|ag ?_;replace h:=h.mo 28 16 Z;exact bI (a2,QR.2.f,a1,QR.2.code,QR.2.regs) ⟨h.cn _,c⟩;refine aA<|ag ?_;replace h:=h.mo 8 16 Z;exact bI (p,EA,q,F8,s) ⟨h.cn _,c⟩;replace c:=qI x R c;refine gJ<|bz<|bz<|dD<|Ii results13 ?_;replace h:=h.pr 1 2;cases c;subst qC;obtain⟨o1,o2,o3⟩:=h.fF 1 ⟨U,U⟩;exact⟨o2,p,q,Z,o1,o3,h.xm 1 8 Z Z⟩
def dG(a:Bool):Bool×Bool×Bool×Bool:=
 bif a then(false,false,false,true)else(false,false,false,false)
def dC(a:Int)(b:Bool):Bool×Bool×Bool×Bool:=
 bif b then(true,true,false,true)else bif decide (a=3)then(true,true,true,true)else bif decide (a=10)then dG (decide (a=10))else dG (decide (a=12))
def dh(a:Int)(b:Bool):Bool×Bool×Bool×Bool:=
 bif b then(true,false,false,true)else bif decide (a=2)then dC a (decide (a=2))else bif decide (a=4)then dC a (decide (a=4))else dC a (decide (a=6))
def di(a:Int):Bool×Bool×Bool×Bool:=
 bif decide (a=1)then dh a (decide (a=1))else bif decide (a=5)then dh a (decide (a=5))else bif decide (a=8)then dh a (decide (a=8))else bif decide (a=9)then dh a (decide (a=9))else bif decide (a=11)then dh a (decide (a=11))else bif decide (a=13)then dh a (decide (a=13))else dh a (decide (a=7))
theorem Si(w0:World)(M:BS)(u:qJ M w0)(a:Int)(r:Bool×Bool×Bool×Bool)(b:di a=r):
  Calls prog 40 #[(Y a)] w0 (fun e w'=>Grow w0 w'/\e=.returned (.tuple #[.bool r.1,.bool r.2.1,.bool r.2.2.1,.bool r.2.2.2])):=by
 refine cst func40 ntmps40 Z ?_;have h:=SH.init u;refine D<|aB Z<|aB Z<|aB Z<|aB Z<|nK<|mI Z<|nN<|aL<|bP (σ:=Bool) (inl<|rg 7 8) (fun f=>[(7,(.bool<|f))]) (fun f w=>SH w0 M BE w (hset [])/\dh a f=r) ?_ ?_;rintro f w o⟨h,b⟩;refine ay b Z (fun c2 b=>?_) fun c2 b=>?_;refine D<|aB Z<|aB Z<|aB Z<|aB Z<|nR<|ai<|ah<|ZE (v1:=(.bool<|true)) (v2:=(.bool<|false)) (v3:=(.bool<|false)) (v4:=(.bool<|true)) results40 Z Z Z Z ?_;obtain rfl:=b;exact⟨h.grown,Z⟩;refine bP (σ:=Bool) (inl [15,16,17,18]) (fun d=>[(15,(.bool<|d))]) (fun d w=>SH w0 M BE w (hset [])/\dC a d=r) ?_ ?_;rintro d w o⟨h,b⟩;refine ay b Z (fun s b=>?_) fun s b=>?_;refine D<|aB Z<|aB Z<|aB Z<|aB Z<|nR<|ai<|ah<|ZE (v1:=(.bool<|true)) (v2:=(.bool<|true)) (v3:=(.bool<|false)) (v4:=(.bool<|true)) results40 Z Z Z Z ?_;obtain rfl:=b;exact⟨h.grown,Z⟩;refine D<|dA Z<|aB Z<|nN<|ay b Z (fun q b=>?_) fun q b=>?_;refine D<|aB Z<|aB Z<|aB Z<|aB Z<|nR<|ai<|ah<|ZE (v1:=(.bool<|true)) (v2:=(.bool<|true)) (v3:=(.bool<|true)) (v4:=(.bool<|true)) results40 Z Z Z Z ?_;obtain rfl:=b;exact⟨h.grown,Z⟩;refine bP (σ:=Bool) (inl [21,22,23]) (fun c=>[(21,(.bool<|c))]) (fun c w=>SH w0 M BE w (hset [])/\dG c=r) ?_ ?_;rintro c w o⟨h,b⟩;refine ay b Z (fun p b=>?_) fun p b=>?_;refine D<|aB Z<|aB Z<|aB Z<|aB Z<|nR<|ai<|ah<|ZE (v1:=(.bool<|false)) (v2:=(.bool<|false)) (v3:=(.bool<|false)) (v4:=(.bool<|true)) results40 Z Z Z Z ?_;obtain rfl:=b;exact⟨h.grown,Z⟩;refine aA<|ae<|aa<|D<|aB Z<|aB Z<|aB Z<|aB Z<|nR<|ZE (v1:=(.bool<|false)) (v2:=(.bool<|false)) (v3:=(.bool<|false)) (v4:=(.bool<|false)) results40 Z Z Z Z ?_;obtain rfl:=b;exact⟨h.grown,Z⟩;refine D<|dA Z<|aB Z<|nN<|ay b Z (fun t b=>?_) fun t b=>?_;refine aA<|ag ?_;exact bI (decide<|a=10) ⟨h.cn _,b⟩;refine ax<|dA Z<|aB Z<|ak<|ag ?_;exact bI (decide<|a=12) ⟨h.cn _,b⟩;refine D<|dA Z<|aB Z<|nN<|ay b Z (fun c9 b=>?_) fun c9 b=>?_;refine aA<|ag ?_;exact bI (decide<|a=2) ⟨h.cn _,b⟩;refine D<|dA Z<|aB Z<|nN<|ay b Z (fun m b=>?_) fun m b=>?_;refine aA<|ag ?_;exact bI (decide<|a=4) ⟨h.cn _,b⟩;refine ax<|dA Z<|aB Z<|ak<|ag ?_;exact bI (decide<|a=6) ⟨h.cn _,b⟩;refine D<|dA Z<|aB Z<|nN<|ay b Z (fun j b=>?_) fun j b=>?_;refine aA<|ag ?_;exact bI (decide<|a=1) ⟨h.cn _,b⟩;refine D<|dA Z<|aB Z<|nN<|ay b Z (fun n b=>?_) fun n b=>?_;refine aA<|ag ?_;exact bI (decide<|a=5) ⟨h.cn _,b⟩;refine D<|dA Z<|aB Z<|nN<|ay b Z (fun l b=>?_) fun l b=>?_;refine aA<|ag ?_;exact bI (decide<|a=8) ⟨h.cn _,b⟩;refine D<|dA Z<|aB Z<|nN<|ay b Z (fun k b=>?_) fun k b=>?_;refine aA<|ag ?_;exact bI (decide<|a=9) ⟨h.cn _,b⟩
 refine D<|dA Z<|aB Z<|nN<|ay b Z (fun i b=>?_) fun i b=>?_;refine aA<|ag ?_;exact bI (decide<|a=11) ⟨h.cn _,b⟩;refine D<|dA Z<|aB Z<|nN<|ay b Z (fun g b=>?_) fun g b=>?_;refine aA<|ag ?_;exact bI (decide<|a=13) ⟨h.cn _,b⟩;refine ax<|dA Z<|aB Z<|ak<|ag ?_;exact bI (decide<|a=7) ⟨h.cn _,b⟩
def dx(a:Bool)(b:Int)(c:Int):Bool:=
 ((!a)||(decide (0<=b)&&decide (b<c)))
theorem Eu(w0:World)(M:BS)(i:qJ M w0)(a:Bool)(b:Int)(c:Int)(f:Nat)(d:∃E,w0.heap[f]? =some (.cells #[(Y c)] E (0,0)))(r:Bool)(g:dx a b c=r):
  Calls prog 41 #[(.bool (a)),(Y b),(pT f)] w0 (fun e w'=>Grow w0 w'/\e=.returned (.bool r)):=by
 refine cst func41 ntmps41 Z ?_;have h:=SH.init i;replace h:=h.O5 1 (cs:=[(Y c)]) d bO;refine D<|aB Z<|nJ<|mB Z<|F (gY Z)<|mB Z<|Jh Z<|aO Z Z (fun q=>lJ (ed q) Z)<|aO Z Z (fun q=>bM (v:=(.bool<|decide (0<=b)))<|ed q)<|gW ((!a)==false) Z Z (fun q=>bM (v:=(Y b)) Z)<|gW ((!a)==false) Z Z (fun q=>gu (k:=0) h 1 Z aR Z Z)<|gW ((!a)==false) Z Z (fun q=>ym (ed q)<|ed q)<|aO Z Z (fun q=>fK (ed q) (O0 q) ku)<|F (fE Z Z ku)<|aB Z<|nR<|cz results41 Z ?_;obtain rfl:=g;exact⟨h.grown,Z⟩
def lL(d:Int)(a:Int)(s:Unit)(b:Unit->Option Int):Option Int:=
 bif (!(decide (0<=a)&&decide (a<d)))then some 3 else b ()
def rV(s:Unit):Option Int:=
 some 0
def cZ(g:Bool)(a:Ins)(b:Int)(f:Int)(c:List aX)(e:Int)(i:Int)(d:Int)(h:Int):Option Int:=
 bif (!g)then some 3 else bif (((decide (a.a≠h)||decide (a.b≠f))||decide (a.c≠e))||decide ((a.args.length:Int)≠i))then some 4 else bif decide (a.op=7)then each (lL d) rV a.args ()else some 0
def bH(a:Ins)(b:Int)(c:List aX)(d:Int)(g:Bool)(h:Int)(i:Int)(f:Int)(e:Int):Option Int:=
 bif decide (a.op=12)then cZ g a b f c e h d 0 else cZ g a b f c e h d i
def bQ(a:Ins)(b:Int)(c:List aX)(d:Int)(e:Bool):Option Int:=
 bif e then bH a b c d ((di a.op).2.2.2) 0 a.a 0 0 else bif decide (a.op=10)then bH a b c d ((di a.op).2.2.2) 0 0 0 0 else bH a b c d ((di a.op).2.2.2) 0 a.a a.b 0
def bT(a:Ins)(b:Int)(c:List aX)(d:Int)(e:Int)(g:Bool):Option Int:=
 bif g then bH a b c d (decide (0<=a.b)&&decide (a.b<e)) 0 a.a a.b 0 else bif decide (a.op=7)then bif (decide (a.b<0)||decide ((c.length:Int)<=a.b))then some 5 else(idx c a.b).bind fun f=>bH a b c d ((di a.op).2.2.2) f.params a.a a.b 0 else bif decide (a.op=8)then bQ a b c d (decide (a.op=8))else bif decide (a.op=9)then bQ a b c d (decide (a.op=9))else bQ a b c d (decide (a.op=11))
def bU(a:Ins)(b:Int)(c:List aX)(d:Int)(e:Int)(g:Bool):Option Int:=
 bif g then bH a b c d (decide (0<=a.c)&&decide (a.c<4)) 0 a.a a.b a.c else bif decide (a.op=3)then bif decide ((a.args.length:Int)=1)then(idx a.args 0).bind fun f=>bH a b c d (decide (1<=f)&&decide (f<=5)) 1 a.a a.b a.c else bH a b c d false 1 a.a a.b a.c else bif decide (a.op=12)then bT a b c d e (decide (a.op=12))else bT a b c d e (decide (a.op=13))
def dR(a:Ins)(b:Int)(c:List aX)(d:Int)(e:Int):Option Int:=
 bif (!(di a.op).2.2.2)then some 4 else bif (((!((!(di a.op).1)||(decide (0<=a.a)&&decide (a.a<d))))||(!(dx ((di a.op).2.1) a.b d)))||(!(dx ((di a.op).2.2.1) a.c d)))then some 3 else bif decide (a.op=1)then bH a b c d (decide (-1000000000<=a.b)&&decide (a.b<=1000000000)) 0 a.a a.b 0 else bif decide (a.op=5)then bH a b c d (decide (1<=a.b)&&decide (a.b<=4)) 0 a.a a.b 0 else bif decide (a.op=4)then bU a b c d e (decide (a.op=4))else bU a b c d e (decide (a.op=6))
theorem QT(w0:World)(M:BS)(hM:qJ M w0)(a:Ins)(m:Value)(S:ik dm w0 BE M m a.args)(b:Int)(z:Value)(c:List aX)(hc:ik lN w0 BE M z c)(d:Int)(e:Int)(r:Int)(f:dR a b c d e=some r):
  Calls prog 26 #[(.agg #[(Y a.op),(Y a.a),(Y a.b),(Y a.c),m]),(Y b),z,(Y d),(Y e)] w0 (fun e w'=>Grow w0 w'/\e=.returned (.int .i64 r)):=by
 refine cst func26 ntmps26 Z ?_;have h:=SH.init hM;replace h:=(h.il 1 S bO).il 2 hc<|dK bO;have d0:=hc.bZ;refine D<|pE (cs:=[(Y a.op),(Y a.a),(Y a.b),(Y a.c),m]) h 3 Z Z fun w I h=>pE (cs:=[(Y d)]) h 4 Z Z fun w i h=>aI Z<|nJ<|dM sF Z<|lB h 3 aR Z<|bW h fo Z Z (Si _ _ h.lt a.op _ Z) fun w h=>?_;refine mV (.tuple #[(.bool ((di a.op).1)),(.bool ((di a.op).2.1)),(.bool ((di a.op).2.2.1)),(.bool ((di a.op).2.2.2))]) Z<|gQ Z<|gQ Z<|gQ Z<|gQ Z<|aB Z<|aB Z<|aB Z<|aB Z<|nK<|mB Z<|F (gY Z)<|nN<|ay f Z (fun c4 f=>?_) fun c4 f=>?_;refine D<|aI Z<|nR<|ah<|cz results26 Z ?_;cases f;exact⟨h.grown,Z⟩;refine yn<|F (wo (c1:=[]) (c2:=[(pT i)]) Z Z)<|aV (.func (.func 41) #[] #[(pT i)]) Z<|nK<|mV (.func (.func 41) #[] #[(pT i)]) Z<|mB Z<|dM mK Z<|lB h 3 aR Z<|kz (args:=[(.bool ((di a.op).1)),(Y a.a),(pT i)]) fo Z Z<|cst func41 ntmps41 Z<|D<|aB Z<|nJ ?_;refine mB Z<|F (gY Z)<|mB Z<|Jh Z<|aO Z Z (fun q=>lJ (ed q) Z)<|aO Z Z (fun q=>bM (v:=(.bool<|decide (0<=a.a)))<|ed q)<|gW ((!(di a.op).1)==false) Z Z (fun q=>bM (v:=(Y a.a)) Z)<|gW ((!(di a.op).1)==false) Z Z (fun q=>df h 4 Z aR Z Z)<|gW ((!(di a.op).1)==false) Z Z (fun q=>ym (ed q)<|ed q)<|aO Z Z (fun q=>fK (ed q) (O0 q) ku)<|F (fE Z Z ku)<|aB Z<|nR<|cz results41 Z (⟨_,Z,?_⟩);refine F (gY Z)<|mB Z<|aO Z Z (fun q=>bM (v:=(.func (.func 41) #[] #[(pT i)])) Z)<|Xk Z<|vT jg Z<|uI h 3 aR Z<|Me [(pT i)] Z Z fo (fun q=>(ed q)) (fun q=>om (ed q)<|om (ed q) Z) (Eu _ _ h.lt ((di a.op).2.1) a.b d i (h.uX 4 Z) _ Z) fun w k5=>?_;replace h:=h.grow k5;refine aO Z Z (fun q=>gY<|ed q)<|F (fE Z Z ku)<|mB Z<|aO Z Z (fun q=>bM (v:=(.func (.func 41) #[] #[(pT i)])) Z)<|Xk Z<|vT uK Z<|uI h 3 aR Z<|Me [(pT i)] Z Z fo (fun q=>(ed q)) (fun q=>om (ed q)<|om (ed q) Z) (Eu _ _ h.lt ((di a.op).2.2.1) a.c d i (h.uX 4 Z) _ Z) fun w k6=>?_;replace h:=h.grow k6;refine aO Z Z (fun q=>gY<|ed q)<|F (fE Z Z ku)<|nN<|ay f Z (fun c7 f=>?_) fun c7 f=>?_;refine D<|aI Z<|nR<|ah<|cz results26 Z ?_;cases f;exact⟨h.grown,Z⟩;refine yn<|dM uK Z<|lB h 3 aR Z<|F (lJ Z Z)<|mB Z<|vT uK Z<|uI h 3 aR Z<|aO Z Z (fun q=>ym (ed q) Z)<|F (fK Z Z ku)<|aB Z<|nJ<|aI Z<|nJ<|dM sF Z<|lB h 3 aR Z ?_
 refine dM mK Z<|lB h 3 aR Z<|dM jg Z<|lB h 3 aR Z<|jf gz Z (bL Z)<|bJ h 5 rX fun w N h=>bS h 5 rX Z (bL Z) fun w h=>nN<|bP (σ:=Bool×Int×Int×Int×Int) (inl ([10,14,17]++rg 69 91)) (fun⟨B,E,K,x,j⟩=>[(14,(.bool<|B)),(17,(Y E))]) (fun⟨B,E,K,x,j⟩w=>SH w0 M BE w (hset [(1,.sr dm m a.args),(3,.blk I [(Y a.op),(Y a.a),(Y a.b),(Y a.c),m]),(4,.blk i [(Y d)]),(5,.blk N [(Y a.op),(Y K),(Y x),(Y j),nS])])/\bH a b c d B E K x j=some r) ?_ ?_;rintro⟨B,E,K,x,j⟩w A⟨h,f⟩;refine bP (σ:=Int) (inl [160,161,162,163]) (fun P=>[]) (fun P w=>SH w0 M BE w (hset [(1,.sr dm m a.args),(3,.blk I [(Y a.op),(Y a.a),(Y a.b),(Y a.c),m]),(4,.blk i [(Y d)]),(5,.blk N [(Y a.op),(Y P),(Y x),(Y j),nS])])/\cZ B a b x c j E d P=some r) ?_ ?_;rintro P w A⟨h,f⟩;refine aK<|D<|mB Z<|F (gY Z)<|nN<|ay f Z (fun b9 f=>?_) fun b9 f=>?_;refine D<|aI Z<|nR<|ah<|cz results26 Z ?_;cases f;exact⟨h.grown,Z⟩;refine aA<|aa<|aK<|D<|dM mK Z<|lB h 3 aR Z<|dM mK Z<|lB h 5 aR Z<|qE Z<|mB Z<|vT jg Z<|uI h 3 aR Z<|vT jg Z<|uI h 5 aR Z<|aO Z Z (fun q=>wH (ed q)<|ed q)<|F (fE Z Z ku)<|mB Z<|vT uK Z<|uI h 3 aR Z<|vT uK Z<|uI h 5 aR Z<|aO Z Z (fun q=>wH (ed q)<|ed q)<|F (fE Z Z ku) ?_;refine mB Z<|vT Ai Z<|uI h 3 uZ Z<|aO Z Z (fun q=>iH dZ (ed q)<|h.l7 1 Z)<|Jh Z<|aO Z Z (fun q=>wH (ed q)<|ed q)<|F (fE Z Z ku)<|nN<|ay f Z (fun b4 f=>?_) fun b4 f=>?_;refine D<|aI Z<|nR<|ah<|cz results26 Z ?_;cases f;exact⟨h.grown,Z⟩;refine aA<|aa<|aK<|D<|dM sF Z<|lB h 3 aR Z<|dA Z<|nN<|ay f Z (fun a2 f=>?_) fun a2 f=>?_;refine D<|dM Ai Z<|lB h 3 uZ Z<|jF h 1 dZ Z<|mI Z<|nN<|aL<|gZ (σ:=Nat×Int) (inl ([10,20]++rg 198 9)) (fun⟨l,n⟩=>[(198,(Y n))]) (fun⟨l,n⟩w=>SH w0 M BE w (hset [(1,.sr dm m a.args),(4,.blk i [(Y d)])])/\n=(l:Int)/\each (lL d) rV (a.args.drop l) ()=some r) (fun⟨l,n⟩=>a.args.length-l) ⟨0,0⟩ ⟨Z,U⟩ ?_ ?_;exact⟨h.cn _,Z,f⟩;rintro⟨l,n⟩w A⟨h,o,f⟩;refine D ?_;refine iV Z<|nN ?_;refine aK<|iU Z (fun p=>?_) fun p=>?_;refine aA<|aa ?_;obtain⟨y,Uf,L,Z4,f⟩:=lQ o p f;have C:=gU ((h.l7 1 Z)).bZ o p;refine aK<|aL<|D ?_;obtain⟨d7,d9,Z5,h,b6,a1⟩:=h.Dv 1 6 Z dZ Z (je o)<|gT o L;obtain rfl:=b6;refine pY a1 Z<|F (gu (k:=0) h 6 Z aR Z Z)<|aI Z<|nJ<|mV (.func (.func 41) #[] #[(pT i)]) Z<|mI Z<|kz (args:=[(.bool<|true),(Y y),(pT i)]) fo Z Z<|cst func41 ntmps41 Z<|D<|aB Z<|nJ<|mB Z<|F (gY Z)<|mB Z<|KU Z Z<|mI Z<|KU Z Z ?_
 refine F (lJ Z Z)<|KU Z Z<|mB Z<|Jh Z<|aO Z Z (fun q=>df h 4 Z aR Z Z)<|aO Z Z (fun q=>ym (ed q)<|ed q)<|KU Z Z<|F (fK Z Z ku)<|F (mG (b:=false) (v:=(.bool ((decide (0<=y)&&decide (y<d))))) Z Z)<|aB Z<|nR<|cz results41 Z (⟨_,Z,?_⟩);refine F (gY Z)<|nN<|ay f Z (fun c5 f=>?_) fun c5 f=>?_;refine D<|aI Z<|nR<|ai<|ah<|ah<|ai<|ah<|cz results26 Z ?_;cases f;exact⟨h.grown,Z⟩;refine aA<|ae<|aa<|ax<|fD Z C<|mI Z<|ak<|ag ?_;subst Z4;exact ky ⟨l+1,n+1⟩ ⟨h.cn _,by omega,f⟩<|vI o p;replace f:=qI o p f;refine nE<|aI Z<|nR<|cz results26 Z ?_;cases f;exact⟨h.grown,Z⟩;refine yn<|aI Z<|nR<|cz results26 Z ?_;cases f;exact⟨h.grown,Z⟩;refine D<|dM sF Z<|lB h 3 aR Z<|dA Z<|nN<|ay f Z (fun c3 f=>?_) fun c3 f=>?_;refine ax<|dM mK Z<|fP h 5 [(Y a.op),(Y 0),(Y x),(Y j),nS] Z aR Z Z Z Z Z fun w h=>ak<|ag ?_;exact bI 0 ⟨h.cn _,f⟩;refine aA<|ag ?_;exact bI K ⟨h.cn _,f⟩;refine D<|dM sF Z<|lB h 3 aR Z<|nN<|aL<|D<|dA Z<|aB Z<|nN<|ay f Z (fun Q f=>?_) fun Q f=>?_;refine ax<|dM jg Z<|lB h 3 aR Z<|F (lJ Z Z)<|mB Z<|vT jg Z<|uI h 3 aR Z<|aO Z Z (fun q=>Eo (ed q) Z)<|F (fK Z Z ku)<|aB Z<|ak<|ae<|ag ?_;exact bI ((decide (-1000000000<=a.b)&&decide (a.b<=1000000000)),0,a.a,a.b,0) ⟨h.cn _,f⟩;refine D<|dA Z<|aB Z<|nN<|ay f Z (fun b3 f=>?_) fun b3 f=>?_;refine ax<|dM jg Z<|lB h 3 aR Z<|F (lJ Z Z)<|mB Z<|vT jg Z<|uI h 3 aR Z<|aO Z Z (fun q=>Eo (ed q) Z)<|F (fK Z Z ku)<|aB Z<|ak<|ae<|ag ?_;exact bI ((decide (1<=a.b)&&decide (a.b<=4)),0,a.a,a.b,0) ⟨h.cn _,f⟩;refine bP (σ:=Bool) (inl [91,92,93]) (fun u=>[(91,(.bool<|u))]) (fun u w=>SH w0 M BE w (hset [(1,.sr dm m a.args),(2,.sr lN z c),(3,.blk I [(Y a.op),(Y a.a),(Y a.b),(Y a.c),m]),(4,.blk i [(Y d)]),(5,.blk N [(Y a.op),(Y a.a),(Y a.b),(Y 0),nS])])/\bU a b c d e u=some r) ?_ ?_;rintro u w A⟨h,f⟩;refine ay f Z (fun a3 f=>?_) fun a3 f=>?_;refine qf 5 mixed zq2 h fun w h=>kB Z<|aG (aH uK Z)<|aG (df h 3 Z aR Z Z)<|aG (lM (v:=(.bool ((decide (0<=a.c)&&decide (a.c<4))))) Z)<|aG (aH uK Z)<|zU<|fP h 5 [(Y a.op),(Y a.a),(Y a.b),(Y a.c),nS] Z aR Z Z Z Z Z fun w h=>ak<|ae<|ag ?_;exact bI ((decide (0<=a.c)&&decide (a.c<4)),0,a.a,a.b,a.c) ⟨h.cn _,f⟩;refine D<|dA Z<|aB Z<|nN<|ay f Z (fun a0 f=>?_) fun a0 f=>?_
 refine aK<|qf 4 mixed zq2 h fun w h=>aG (aH uK Z)<|aG (df h 3 Z aR Z Z)<|aG (lM (v:=(Y 1)) Z)<|aG (aH uK Z)<|zU<|fP h 5 [(Y a.op),(Y a.a),(Y a.b),(Y a.c),nS] Z aR Z Z Z Z Z fun w h=>nN<|ax<|dM Ai Z<|lB h 3 uZ Z<|jF h 1 dZ Z<|dA Z<|mB Z<|oh (b:=decide ((a.args.length:Int)=1)) f (fun g f=>?_) fun g f=>?_;refine oN g Z<|dM Ai Z<|oN g Z<|lB h 3 uZ Z<|oN g Z ?_;obtain⟨G,t,f⟩:=aC f;obtain⟨d6,d4,c9,h,a4,T⟩:=h.Dv 1 7 Z dZ Z (aD t).1 (aD t).2;obtain rfl:=a4;refine pY T Z<|oN g Z<|F (gu (k:=0) h 7 Z aR Z Z)<|oN g Z<|F (lJ Z Z)<|Y1 g Z<|mB Z<|vT Ai Z<|uI h 3 uZ Z ?_;obtain⟨d3,d5,c8,h,b0,X⟩:=h.Dv 1 8 Z dZ Z (aD t).1 (aD t).2;obtain rfl:=b0;refine aO Z Z (fun q=>X _ _ _ _ _ _ _ _ _ (ed q) Z)<|aO Z Z (fun q=>gu (k:=0) h 8 Z aR (ed q) Z)<|aO Z Z (fun q=>Eo (ed q) Z)<|F (fK Z Z ku)<|aB Z<|ak<|ae<|ag ?_;exact bI ((decide (1<=G)&&decide (G<=5)),1,a.a,a.b,a.c) ⟨h.cn _,f⟩;refine Bz g Z<|Bz g Z<|Bz g Z<|Bz g Z<|Bz g Z<|Y2 g Z<|mB Z<|jy (b':=false) Z Z Z<|jy (b':=false) Z Z Z<|jy (b':=false) Z Z Z<|jy (b':=false) Z Z Z<|jy (b':=false) Z Z Z<|F (mG (b:=false) (v:=(.bool<|false)) Z Z)<|aB Z<|ak<|ae<|ag ?_;exact bI (false,1,a.a,a.b,a.c) ⟨h.cn _,f⟩;refine bP (σ:=Bool) (inl [121,122,123]) (fun s=>[(121,(.bool<|s))]) (fun s w=>SH w0 M BE w (hset [(1,.sr dm m a.args),(2,.sr lN z c),(3,.blk I [(Y a.op),(Y a.a),(Y a.b),(Y a.c),m]),(4,.blk i [(Y d)]),(5,.blk N [(Y a.op),(Y a.a),(Y a.b),(Y 0),nS])])/\bT a b c d e s=some r) ?_ ?_;rintro s w A⟨h,f⟩;refine ay f Z (fun a9 f=>?_) fun a9 f=>?_;refine ax<|dM jg Z<|lB h 3 aR Z<|F (lJ Z Z)<|mB Z<|vT jg Z<|uI h 3 aR Z<|Jh Z<|aO Z Z (fun q=>ym (ed q)<|ed q)<|F (fK Z Z ku)<|aB Z<|ak<|ae<|ag ?_;exact bI ((decide (0<=a.b)&&decide (a.b<e)),0,a.a,a.b,0) ⟨h.cn _,f⟩;refine D<|dA Z<|aB Z<|nN<|ay f Z (fun Ga f=>?_) fun Ga f=>?_;refine aK<|D<|dM jg Z<|lB h 3 aR Z<|iV Z<|mB Z<|vT jg Z<|uI h 3 aR Z<|aO Z Z (fun q=>bM (v:=z) Z)<|aO Z Z (fun q=>iH lC (ed q)<|h.l7 2 Z)<|aO Z Z (fun q=>lJ (ed q)<|ed q)<|F (fE Z Z ku)<|nN<|ay f Z (fun c6 f=>?_) fun c6 f=>?_;refine D<|aI Z<|nR<|ah<|ai<|ah<|cz results26 Z ?_;cases f;exact⟨h.grown,Z⟩;refine aA<|aa<|ax<|mV z Z<|dM jg Z<|lB h 3 aR Z ?_;obtain⟨a5,J,f⟩:=aC f;obtain⟨d2,d8,d1,h,R,b5⟩:=h.Dv 2 9 Z lC Z (aD J).1 (aD J).2;obtain⟨e0,rfl,a7⟩:=qN R;replace h:=h.bA 10 a7.up;refine pY b5 Z<|dM IB Z<|F (gu (k:=0) h 9 Z aR Z Z)<|aI Z<|ak<|ae<|ag ?_;exact bI ((di a.op).2.2.2,a5.params,a.a,a.b,0) ⟨h.cn _,f⟩
 refine bP (σ:=Bool) (inl [151,152,153,154]) (fun O=>[(151,(.bool<|O))]) (fun O w=>SH w0 M BE w (hset [(1,.sr dm m a.args),(3,.blk I [(Y a.op),(Y a.a),(Y a.b),(Y a.c),m]),(4,.blk i [(Y d)]),(5,.blk N [(Y a.op),(Y a.a),(Y a.b),(Y 0),nS])])/\bQ a b c d O=some r) ?_ ?_;rintro O w A⟨h,f⟩;refine ay f Z (fun a6 f=>?_) fun a6 f=>?_;refine ax<|dM jg Z<|fP h 5 [(Y a.op),(Y a.a),(Y 0),(Y 0),nS] Z aR Z Z Z Z Z fun w h=>ak<|ae<|ag ?_;exact bI ((di a.op).2.2.2,0,a.a,0,0) ⟨h.cn _,f⟩;refine D<|dA Z<|aB Z<|nN<|ay f Z (fun Gb f=>?_) fun Gb f=>?_;refine ax<|dM mK Z<|fP h 5 [(Y a.op),(Y 0),(Y a.b),(Y 0),nS] Z aR Z Z Z Z Z fun w h=>dM jg Z<|fP h 5 [(Y a.op),(Y 0),(Y 0),(Y 0),nS] Z aR Z Z Z Z Z fun w h=>ak<|ae<|ag ?_;exact bI ((di a.op).2.2.2,0,0,0,0) ⟨h.cn _,f⟩;refine aA<|ae<|ag ?_;exact bI ((di a.op).2.2.2,0,a.a,a.b,0) ⟨h.cn _,f⟩;refine D<|dA Z<|aB Z<|nN<|ay f Z (fun c0 f=>?_) fun c0 f=>?_;refine aA<|ag ?_;exact bI (decide<|a.op=8) ⟨h.cn _,f⟩;refine D<|dA Z<|aB Z<|nN<|ay f Z (fun b7 f=>?_) fun b7 f=>?_;refine aA<|ag ?_;exact bI (decide<|a.op=9) ⟨h.cn _,f⟩;refine ax<|dA Z<|aB Z<|ak<|ag ?_;exact bI (decide<|a.op=11) ⟨h.cn _,f⟩;refine D<|dA Z<|aB Z<|nN<|ay f Z (fun a8 f=>?_) fun a8 f=>?_;refine aA<|ag ?_;exact bI (decide<|a.op=12) ⟨h.cn _,f⟩;refine ax<|dA Z<|aB Z<|ak<|ag ?_;exact bI (decide<|a.op=13) ⟨h.cn _,f⟩;refine D<|dA Z<|aB Z<|nN<|ay f Z (fun Xr f=>?_) fun Xr f=>?_;refine aA<|ag ?_;exact bI (decide<|a.op=4) ⟨h.cn _,f⟩;refine ax<|dA Z<|aB Z<|ak<|ag ?_;exact bI (decide<|a.op=6) ⟨h.cn _,f⟩
def eX(a:List aX)(d:aX)(b:Int)(e:Ins)(s:Unit)(f:Unit->Option Int):Option Int:=
 (dR e b a d.regs (d.code.length:Int)).bind fun c=>bif decide (c≠0)then some c else f ()
def nu(b:aX)(c:Unit->Option Int)(s:Unit):Option Int:=
 gD (jY ((b.code.length:Int)-1)) ((idx b.code ((b.code.length:Int)-1)).bind fun a=>bif (decide (a.op≠8)&&decide (a.op≠12))then some 4 else c ())
def jQ(a:List aX)(b:aX)(s:Unit)(c:Unit->Option Int):Option Int:=
 gF (eX a b) (nu b c) 0 b.code ()
def ny(s:Unit):Option Int:=
 some 0
def jR(c:Int)(a:aX)(s:Unit)(b:Unit->Option Int):Option Int:=
 bif (((((decide (a.params<0)||decide (3<a.params))||decide (a.regs<1))||decide (a.regs<a.params))||decide (40<a.regs))||(decide (c=0)&&decide (0<a.params)))then some 3 else bif (decide ((a.code.length:Int)=0)||decide (2000<(a.code.length:Int)))then some 2 else b ()
def lU(a:List aX)(s:Unit):Option Int:=
 each (jQ a) ny a ()
def mg(a:List aX):Option Int:=
 bif (decide ((a.length:Int)=0)||decide (4<(a.length:Int)))then some 2 else gF jR (lU a) 0 a ()
theorem DW(w0:World)(M:BS)(hM:qJ M w0)(j:Value)(a:List aX)(ha:ik lN w0 BE M j a)(r:Int)(b:mg a=some r):
  Calls prog 15 #[j] w0 (fun e w'=>Grow w0 w'/\e=.returned (.int .i64 r)):=by
 refine cst func15 ntmps15 Z ?_;have h:=SH.init hM;replace h:=h.il 1 ha bO;have vC:=ha.bZ;refine D<|aI Z<|nK<|mV j Z<|jF h 1 lC Z<|dA Z<|mB Z<|aO Z Z (fun q=>bM (v:=j) Z)<|aO Z Z (fun q=>iH lC (ed q)<|h.l7 1 Z)<|aO Z Z (fun q=>iW (ed q) Z)<|F (fE Z Z ku)<|nN<|ay b Z (fun c1 b=>?_) fun c1 b=>?_;refine D<|aI Z<|nR<|ah<|cz results15 Z ?_;cases b;exact⟨h.grown,Z⟩;refine aA<|aa<|aK<|D<|mV j Z<|jF h 1 lC Z<|mI Z<|nN<|aL<|gZ (σ:=Nat×Int) (inl ([2,3,4]++rg 21 50)) (fun⟨p,o⟩=>[(21,(Y o))]) (fun⟨p,o⟩w=>SH w0 M BE w (hset [(1,.sr lN j a)])/\o=(p:Int)/\gF jR (lU a) o (a.drop p) ()=some r) (fun⟨p,o⟩=>a.length-p) ⟨0,0⟩ ⟨Z,U⟩ ?_ ?_;exact⟨h.cn _,Z,b⟩;rintro⟨p,o⟩w dJ⟨h,c,b⟩;refine D ?_;refine iV Z<|nN ?_;refine aK<|iU Z (fun x=>?_) fun x=>?_;refine aA<|aa ?_;obtain⟨d,OB,G,QP,b⟩:=Cg c x b;have S:=gU ((h.l7 1 Z)).bZ c x;refine aK<|aL<|D<|mI Z ?_;obtain⟨b9,b3,a7,h,X,i9⟩:=h.Dv 1 2 Z lC Z (je c)<|gT c G;obtain⟨b2,rfl,a6⟩:=qN X;replace h:=h.bA 3 a6.up;refine pY i9 Z<|EW (k:=0) h 2 zF Z<|bJ h 4 zF fun w b5 h=>aI Z<|bS h 4 zF Z (aj Z<|aj Z<|aj (h.fH 3 Z).one bE) fun w h=>nK<|dM IB Z<|lB h 4 aR Z<|iV Z<|mB Z<|vT IB Z<|uI h 4 aR Z<|aO Z Z (fun q=>iW (ed q) Z)<|F (fE Z Z ku)<|mB Z<|vT DR Z<|uI h 4 aR Z<|aO Z Z (fun q=>ym (ed q) Z)<|F (fE Z Z ku)<|mB Z ?_;refine vT DR Z<|uI h 4 aR Z<|vT IB Z<|uI h 4 aR Z<|aO Z Z (fun q=>ym (ed q)<|ed q)<|F (fE Z Z ku)<|mB Z<|vT DR Z<|uI h 4 aR Z<|aO Z Z (fun q=>iW (ed q) Z)<|F (fE Z Z ku)<|mB Z<|Jh Z<|aO Z Z (fun q=>rC (ed q) Z)<|aO Z Z (fun q=>bM (v:=(.bool<|decide<|o=0))<|ed q)<|gW (((((decide (d.params<0)||decide (3<d.params))||decide (d.regs<1))||decide (d.regs<d.params))||decide (40<d.regs))==false) Z Z (fun q=>aH IB Z)<|gW (((((decide (d.params<0)||decide (3<d.params))||decide (d.regs<1))||decide (d.regs<d.params))||decide (40<d.regs))==false) Z Z (fun q=>df h 4 Z aR (ed q) Z)<|gW (((((decide (d.params<0)||decide (3<d.params))||decide (d.regs<1))||decide (d.regs<d.params))||decide (40<d.regs))==false) Z Z (fun q=>iW (ed q) Z)<|aO Z Z (fun q=>fK (ed q) (O0 q) ku)<|F (fE Z Z ku)<|nN<|ay b Z (fun J b=>?_) fun J b=>?_;refine D<|aI Z<|nR<|ah<|ai<|ah<|ah<|ai<|ah<|cz results15 Z ?_;cases b;exact⟨h.grown,Z⟩;refine yn<|dM vV Z<|lB h 4 qK Z<|ng h 3 gX Z<|dA Z<|mB Z<|vT vV Z<|uI h 4 qK Z<|aO Z Z (fun q=>iH gX (ed q)<|h.rD 3 Z)<|aO Z Z (fun q=>iW (ed q) Z)<|F (fE Z Z ku)<|nN<|ay b Z (fun a3 b=>?_) fun a3 b=>?_;refine D<|aI Z<|nR<|ai<|ah<|ah<|ai<|ah<|cz results15 Z ?_;cases b
 exact⟨h.grown,Z⟩;refine aA<|ae<|aa<|ax<|fD Z S<|mI Z<|ak<|ag ?_;subst QP;exact ky ⟨p+1,o+1⟩ ⟨h.cn _,by omega,b⟩<|vI c x;replace b:=Gw c x b;refine gJ<|bz<|bz<|dD<|aa<|aK<|D<|mV j Z<|jF h 1 lC Z<|mI Z<|nN<|aL<|gZ (σ:=Nat×Int) (inl ([2,6,7,8,9,10]++rg 73 41)) (fun⟨g,i⟩=>[(73,(Y i))]) (fun⟨g,i⟩w=>SH w0 M BE w (hset [(1,.sr lN j a)])/\i=(g:Int)/\each (jQ a) ny (a.drop g) ()=some r) (fun⟨g,i⟩=>a.length-g) ⟨0,0⟩ ⟨Z,U⟩ ?_ ?_;exact⟨h.cn _,Z,b⟩;rintro⟨g,i⟩w dJ⟨h,c,b⟩;refine D ?_;refine iV Z<|nN ?_;refine aK<|iU Z (fun l=>?_) fun l=>?_;refine aA<|aa ?_;obtain⟨n,ow,t,a1,b⟩:=lQ c l b;have A:=gU ((h.l7 1 Z)).bZ c l;refine aK<|aL<|D ?_;obtain⟨b6,b4,a9,h,a0,a5⟩:=h.Dv 1 5 Z lC Z (je c)<|gT c t;obtain⟨z,rfl,R⟩:=qN a0;replace h:=h.bA 6 R.up;refine pY a5 Z<|EW (k:=0) h 5 zF Z<|bJ h 7 zF fun w E h=>bS h 7 zF Z (aj Z<|aj Z<|aj (h.fH 6 Z).one bE) fun w h=>nK<|dM vV Z<|lB h 7 qK Z<|ng h 6 gX Z<|mI Z<|nN<|aL<|gZ (σ:=Nat×Int) (inl ([2,7,8,9]++rg 80 18)) (fun⟨s,f⟩=>[(80,(Y f))]) (fun⟨s,f⟩w=>SH w0 M BE w (hset [(1,.sr lN j a),(6,.rd fT z n.code),(7,.blk E [(Y n.params),(Y n.regs),z])])/\f=(s:Int)/\gF (eX a n) (nu n ow) f (n.code.drop s) ()=some r) (fun⟨s,f⟩=>n.code.length-s) ⟨0,0⟩ ⟨Z,U⟩ ?_ ?_;exact⟨h.cn _,Z,b⟩;rintro⟨s,f⟩w dJ⟨h,c,b⟩;refine D ?_;refine iV Z<|nN ?_;refine aK<|iU Z (fun m=>?_) fun m=>?_;refine aA<|aa ?_;obtain⟨EI,QU,y,K,b⟩:=Cg c m b;have B:=gU ((h.rD 6 Z)).bZ c m;refine aK<|aL<|D<|mI Z ?_;obtain⟨c4,c3,a8,h,I,L⟩:=h.EH 6 8 Z gX Z (je c)<|gT c y;obtain⟨a4,rfl,N⟩:=yB I;replace h:=h.bA 9 N.up;refine pY L Z<|EW (k:=0) h 8 rX Z<|bJ h 10 rX fun w b8 h=>aI Z<|bS h 10 rX Z (aj Z<|aj Z<|aj Z<|aj Z<|aj (h.fH 9 Z).one bE) fun w h=>nJ<|vR h 10 rX Z<|mI Z<|mV j Z<|dM DR Z<|lB h 7 aR Z<|dM vV Z<|lB h 7 qK Z<|ng h 6 gX Z ?_;obtain⟨V8,T,b⟩:=aC b;refine bW h fo Z Z (QT _ _ h.lt EI a4 (h.rD 9 Z) f j a (h.l7 1 Z) n.regs (n.code.length:Int) _ T) fun w h=>?_;refine aI Z<|nJ<|mI Z<|qE Z<|nN<|ay b Z (fun Ga b=>?_) fun Ga b=>?_;refine D<|mI Z<|aI Z<|nR<|ai<|ah<|ah<|ai<|ah<|ai<|ah<|ah<|ai<|ah<|cz results15 Z ?_;cases b;exact⟨h.grown,Z⟩;refine aA<|ae<|aa<|ax<|fD Z B<|mI Z<|ak<|ag ?_;subst K;exact ky ⟨s+1,f+1⟩ ⟨h.cn _,by omega,b⟩<|vI c m;replace b:=Gw c m b;refine nE<|dM vV Z<|lB h 7 qK Z<|dM vV Z<|lB h 7 qK Z<|ng h 6 gX Z ?_;obtain⟨P,b⟩:=bg b;refine F (lY Z Z P) ?_;obtain⟨b7,u,b⟩:=aC b;obtain⟨b1,c0,b0,h,C,a2⟩:=h.EH 6 11 Z gX Z (aD u).1 (aD u).2;obtain⟨c2,rfl,Q⟩:=yB C;replace h:=h.bA 12 Q.up
 refine pY a2 Z<|dM sF Z<|F (gu (k:=0) h 11 Z aR Z Z)<|aI Z<|nJ<|mI Z<|qE Z<|mB Z<|Jh Z<|aO Z Z (fun q=>wH (ed q) Z)<|F (fK Z Z ku)<|nN<|ay b Z (fun O b=>?_) fun O b=>?_;refine D<|aI Z<|nR<|ai<|ah<|ah<|ai<|ah<|cz results15 Z ?_;cases b;exact⟨h.grown,Z⟩;refine aA<|ae<|aa<|ax<|fD Z A<|mI Z<|ak<|ag ?_;subst a1;exact ky ⟨g+1,i+1⟩ ⟨h.cn _,by omega,b⟩ (by have:=odt l;dsimp only;omega);replace b:=qI c l b;refine nE<|aI Z<|nR<|cz results15 Z ?_;cases b;exact⟨h.grown,Z⟩
def wm(N:Nat)(a:List dw)(b:dw)(f:List aX)(g:List aX->Option (List aX×Int)):Option (List aX×Int):=
 gD (jY (b.locals+1)) ((iR N (bC (⟨a,([]:List Ins),0⟩:dB) (b.locals+1)) b.body b.locals).bind fun e=>(dL e (⟨1,b.locals,0,0,[]⟩:Ins)).bind fun d=>(dL d.2 (⟨8,b.locals,0,0,[]⟩:Ins)).bind fun c=>gD (Room 40 f [(⟨b.params,c.2.regs,c.2.code⟩:aX)]) (g (f++[(⟨b.params,c.2.regs,c.2.code⟩:aX)])))
def rM(b:List aX):Option (List aX×Int):=
 (mg b).bind fun a=>bif decide (a≠0)then some ([],a)else some (b,0)
def uN(N:Nat)(a:List dw):Option (List aX×Int):=
 (pK N a).bind fun b=>bif decide (b≠0)then some ([],b)else each (wm N a) rM a []
theorem MN(N:Nat)(w0:World)(M:BS)(hM:qJ M w0)(s:Value)(a:List dw)(ha:fC eU w0 M s a)(r:List aX×Int)(c:uN N a=some r):
  Calls prog 4 #[s] w0 (fun e w'=>Grow w0 w'/\∃u0,e=.returned (.tuple #[u0,.int .i64 r.2])/\eP lN 58 w' M u0 r.1/\(∀b,ob u0 b->w0.heap.size<=b)):=by
 refine cst func4 ntmps4 Z ?_;have h:=SH.init hM;replace h:=h.Y9 1 ha bO;have vC:=ha.bZ;refine D<|aV nS Z<|aI Z<|nK<|mV s Z ?_;obtain⟨y1,e2,c⟩:=aC c;refine bW h fo Z Z (MF N _ _ h.lt s a (h.rD 1 Z) _ e2) fun w h=>?_;refine aI Z<|nJ<|mI Z<|qE Z<|nN<|ay c Z (fun c4 c=>?_) fun c4 c=>?_;refine D<|mI Z<|aV nS Z<|aI Z<|nR<|ah<|yV (v1:=nS) (v2:=(Y y1)) results4 Z Z ?_;cases c;exact⟨h.grown,_,Z,eP.nil,lZ⟩;refine yn<|aV nS Z<|nK<|mV s Z<|ng h 1 eG Z<|mI Z<|nN<|aL ?_;replace h:=h.yX (R:=lN) (E:=58) 5;refine gZ (σ:=Nat×Int×Value×List aX) (inl ([5,7,8]++rg 17 43)) (fun⟨f,j,d,z⟩=>[(5,d),(17,(Y j))]) (fun⟨f,j,d,z⟩w=>SH w0 M BE w (hset [(1,.rd eU s a),(5,.own lN 58 d z)])/\j=(f:Int)/\each (wm N a) rM (a.drop f) z=some r) (fun⟨f,j,d,z⟩=>a.length-f) ⟨0,0,nS,[]⟩ ⟨Z,Z,U⟩ ?_ ?_;exact⟨h.cn _,Z,c⟩;rintro⟨f,j,d,z⟩w dJ⟨h,l,c⟩;refine D ?_;refine iV Z<|nN ?_;refine aK<|iU Z (fun n=>?_) fun n=>?_;refine aA<|aa ?_;obtain⟨g,Ls,S,d5,c⟩:=lQ l n c;have G:=gU ((h.rD 1 Z)).bZ l n;refine aK<|aL<|D ?_;obtain⟨OA,d9,d6,h,a8,b4⟩:=h.EH 1 6 Z eG Z (je l)<|gT l S;obtain⟨d4,rfl,b1⟩:=kW a8;replace h:=h.bA 7 b1.up;refine pY b4 Z<|EW (k:=0) h 6 lg Z<|bJ h 8 lg fun w d7 h=>bS h 8 lg Z (aj Z<|aj Z<|aj (h.fH 7 Z).one bE) fun w h=>nJ<|mV s Z<|jf ZV Z (aj (h.fH 1 Z).one bE)<|pE (cs:=[s,nS,(Y 0)]) h 9 Z Z fun w i h=>aP Z<|nJ<|mP Z<|dM sD Z<|lB h 8 aR Z ?_;obtain⟨a7,c⟩:=bg c;refine fD Z a7 ?_;replace h:=(h.yX (R:=fT) (E:=56) 10).pr 9 10;obtain⟨T,J,a1⟩:=h.eT 9 ⟨U,U⟩;refine cO fo Z Z (BQ _ _ a1 i (⟨a,([]:List Ins),0⟩:dB) s nS T J (h.yh 9 1 Z Z) (g.locals+1) _ Z) ?_;rintro _ w⟨QQ,c9,d3,rfl,c6,b9,c2⟩;refine⟨_,Z,?_⟩;replace h:=((h.jE 9 c6 ⟨U,U⟩ QQ b9).bA 11<|ji c2).un 9 10 Z Z;refine nJ<|mP Z<|dM Ah Z<|lB h 8 l6 Z<|dM sD Z<|lB h 8 aR Z ?_;replace h:=h.pr 9 10;obtain⟨P,O,K⟩:=h.eT 9 ⟨U,U⟩;obtain⟨a3,b7,c⟩:=aC c;refine cO fo Z Z (GH N _ _ K i (bC (⟨a,([]:List Ins),0⟩:dB)<|g.locals+1) c9 d3 P O (h.yh 9 11 Z Z) d4 g.body (h.yh 9 7 Z Z) g.locals _ b7) ?_;rintro _ w⟨a4,b8,a9,rfl,b6,c5,a6⟩;refine⟨_,Z,?_⟩;replace h:=((h.jE 9 b6 ⟨U,U⟩ a4 c5).bA 12<|ji a6).un 9 10 Z Z;refine nJ<|mP Z<|dM sD Z<|lB h 8 aR Z<|jf gz Z (bL Z) ?_;replace h:=h.pr 9 10;obtain⟨Q,B,C⟩:=h.eT 9 ⟨U,U⟩;obtain⟨d1,a2,c⟩:=aC c;refine cO fo Z Z (dW _ _ C i a3 b8 a9 Q B (h.yh 9 12 Z Z) (⟨1,g.locals,0,0,[]⟩:Ins) nS ik.nil _ a2) ?_;rintro _ w⟨b5,c1,b0,rfl,a5,d2,b2⟩;refine⟨_,Z,?_⟩;replace h:=((h.jE 9 a5 ⟨U,U⟩ b5 d2).bA 13<|ji b2).un 9 10 Z Z;refine nJ<|mP Z<|dM sD Z<|lB h 8 aR Z<|jf gz Z (bL Z) ?_
 replace h:=h.pr 9 10;obtain⟨X,A,a0⟩:=h.eT 9 ⟨U,U⟩;obtain⟨o,c3,c⟩:=aC c;refine cO fo Z Z (dW _ _ a0 i d1.2 c1 b0 X A (h.yh 9 13 Z Z) (⟨8,g.locals,0,0,[]⟩:Ins) nS ik.nil _ c3) ?_;rintro _ w⟨c7,d8,q,rfl,c8,c0,d0⟩;refine⟨_,Z,?_⟩;replace h:=((h.jE 9 c8 ⟨U,U⟩ c7 c0).bA 14<|ji d0).un 9 10 Z Z;refine nN (kC (L:=(ob d)) mixed h fun w h=>ll 0 kR d Z (ib 1 kR pJ Z (bF 2 kR Z (fun w x=>have h:=h.pG 5 Z x;df h 8 Z aR Z Z) (ll 3 kR (pT i) Z (bF 4 kR Z (fun w x=>aJ Z) (ib 5 kR QJ Z (bF 6 kR Z (fun w x=>have h:=h.pG 5 Z x;df h 9 Z aR Z Z) (ll 7 kR (pT i) Z (bF 8 kR Z (fun w x=>aJ Z) (ib 9 kR uJ Z (bF 10 kR Z (fun w x=>have h:=h.pG 5 Z x;df h 9 Z qK Z Z) (bF 11 kR Z (fun w x=>Ac (pv:=[(0,(Y g.params)),(1,(Y o.2.regs)),(2,q)]) (out:=[(Y g.params),(Y o.2.regs),q]) Sb Z ⟨0,1,[(Y g.params)],rfl,rfl,rfl,pU Z,⟨1,1,[(Y o.2.regs)],rfl,rfl,rfl,pU Z,⟨2,1,[q],rfl,(jw (h.dS 10 Z).one),rfl,pU Z,rfl⟩⟩⟩) ?_))))))))))));refine jA fun I p=>dI 12 Z ?_;replace h:=h.freeze 10 Z;refine wJ (R:=lN) (vs:=[(.agg #[(Y g.params),(Y o.2.regs),q])]) (xs:=[(⟨g.params,o.2.regs,o.2.code⟩:aX)]) h 159 Iy Z Z Z ⟨⟨_,Z,(h.fH 10 Z)⟩,U⟩ Z fun w y h Ul Um=>?_;have t:=vJ p Um;replace p:=p.grow Ul;refine ak<|aM p<|dI 13 Z ?_;obtain⟨Pm,c⟩:=bg c;have v:=p.size;refine lh (R:=lN) (m:=[(⟨g.params,o.2.regs,o.2.code⟩:aX)]) h 5 Z (h.eH 159 Z) Iy Z Z Z Pm.1 Pm.2 fun w Jy h Un Uo=>?_;have u:∀b,ob Jy b->b<I.heap.size->ob d b:=fun b hb hl=>Uo b hb<|Nat.lt_of_lt_of_le hl (p).size;replace p:=p.same Un;refine ak<|aM p<|BK 14 p Jy Z<|lS<|ae<|aa<|ax<|fD Z G<|mI Z<|ak<|ag ?_;subst d5;exact ky ⟨f+1,j+1,Jy,(z++[(⟨g.params,o.2.regs,o.2.code⟩:aX)])⟩ ⟨h.cn _,by omega,c⟩<|vI l n;replace c:=qI l n c;refine gJ<|bz<|bz<|dD<|aa<|aK<|D<|mV d Z ?_;obtain⟨yQ,Uh,c⟩:=aC c;refine bW h fo Z Z (DW _ _ h.lt d z (h.eH 5 Z) _ Uh) fun w h=>?_;refine aI Z<|nJ<|mI Z<|qE Z<|nN<|ay c Z (fun b3 c=>?_) fun b3 c=>?_;refine D<|mI Z<|aV nS Z<|aI Z<|nR<|ah<|yV (v1:=nS) (v2:=(Y yQ)) results4 Z Z ?_;cases c;exact⟨h.grown,_,Z,eP.nil,lZ⟩;refine yn<|mV d Z<|aV d Z<|aI Z<|nR<|yV (v1:=d) (v2:=(Y 0)) results4 Z Z ?_;cases c;exact⟨h.grown,_,Z,(h.oI 5 Z).1,(h.oI 5 Z).2⟩
theorem Lt(w0:World)(M:BS)(f:qJ M w0)(d:yZ prog 4 w0)(a:Str)(b:Str)(r:List Str)(c:Qv a b=some r):
  Calls prog 43 #[bD a,bD b] w0 (fun e w'=>Grow w0 w'/\∃u,e=.returned u/\fC qD w' M u r):=
 split_w Tryz.strings_Split f d c
theorem sZ(w0:World)(M:BS)(d:qJ M w0)(c:yZ prog 4 w0)(a:Str)(r:Int×Bool)(b:EP a=some r):
  Calls prog 44 #[bD a] w0 (fun e w'=>Grow w0 w'/\∃u,e=.returned (.tuple #[.int .i64 r.1,u])/\Zv u r.2):=
 atoi_w Tryz.strconv_Atoi_ok Tryz.strconv_Atoi_syntax_var Tryz.strconv_Atoi_range_var c b
def bB(a:Int)(b:Int)(c:Int):Bool:=
 (decide (b<=a)&&decide (a<=c))
theorem iT(w0:World)(M:BS)(f:qJ M w0)(a:Int)(b:Int)(c:Int)(r:Bool)(d:bB a b c=r):
  Calls prog 45 #[(Y a),(Y b),(Y c)] w0 (fun e w'=>Grow w0 w'/\e=.returned (.bool r)):=by
 refine cst func45 ntmps45 Z ?_;have h:=SH.init f;refine D<|aB Z<|nJ<|mI Z<|mI Z<|F (Eo Z Z)<|mB Z<|Jh Z<|Jh Z<|aO Z Z (fun q=>Eo (ed q)<|ed q)<|F (fK Z Z ku)<|aB Z<|nR<|cz results45 Z ?_;obtain rfl:=d;exact⟨h.grown,Z⟩
def qP(b:Int->Option (Int×Bool))(a:Int):Option (Int×Bool):=
 b a
def xw(F0:List aN->Int->Option (Int×Bool))(b:Int)(d:List aN)(a:Int)(e:Int->Option (Int×Bool)):Option (Int×Bool):=
 bif decide (0<(d.length:Int))then gD (jY (b-1)) ((F0 d (b-1)).bind fun c=>gD (jY (a+c.1)) (bif ((!c.2)||decide (30<(a+c.1)))then some (0,false)else qP e (a+c.1)))else qP e a
def xx(b:Int->Option (Int×Bool))(a:Int):Option (Int×Bool):=
 bif decide (30<a)then some (0,false)else b a
def xy(F0:List aN->Int->Option (Int×Bool))(b:Int)(a:List aN)(d:aN)(c:Int)(e:Int->Option (Int×Bool)):Option (Int×Bool):=
 gD (jY (c+1)) (each (xw F0 b) (xx e) [d.a,d.b] (c+1))
def xz(a:Int):Option (Int×Bool):=
 some (a,true)
def zW(F0:List aN->Int->Option (Int×Bool))(a:List aN)(b:Int):Option (Int×Bool):=
 bif decide (b<1)then some (0,false)else each (xy F0 b a) xz a 0
def pO:Nat->List aN->Int->Option (Int×Bool)
 |0=>fun _ _=>none
 |N+1=>zW (pO N)
end
end Go.Proofs.YtcbdckebgjdlhaaGreatDoor