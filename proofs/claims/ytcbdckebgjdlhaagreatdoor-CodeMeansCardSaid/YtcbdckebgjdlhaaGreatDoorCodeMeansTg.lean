/-
  What the law CodeMeans needs of our own library and of the walks, no more.
-/
import Derived.Test.YtcbdckebgjdlhaaGreatDoorCodeMeansTf
set_option linter.unusedSimpArgs false
set_option linter.unusedVariables false
set_option maxRecDepth 10000
namespace Go.Proofs.YtcbdckebgjdlhaaGreatDoor
open Go Go.Proofs Go.LX
namespace Cm
abbrev VT:=LX.aF->List Tok->List Val->Option (Val×Int×LX.aF)
abbrev ST:=LX.aF->List Val->List aN->Option (Val×Bool×LX.aF×List Val)
abbrev RT:=LX.aF->Int->List Val->Option (Val×LX.aF)
def mk(a:List dw)(m:MS):LX.aF:=⟨a,m.said,m.left,m.cells,m.deep,false,false⟩
structure Ct(m:MS):Prop where
 left:0<=m.left
 said:(m.said.length:Int)+m.left<=2000
 deep:0<=m.deep/\m.deep<=10
 many:m.cells.length<=24
 cells:∀l∈m.cells,∀v∈l,fV m.cells.length v
def Vs(m:MS)(l:List Val):Prop:=∀v∈l,fV m.cells.length v
structure KS(m m':MS):Prop where
 ok:Ct m'
 left:m'.left<=m.left
 said:(m'.said.length:Int)+m'.left<=(m.said.length:Int)+m.left
 deep:m'.deep=m.deep
 cells:m.cells.length<=m'.cells.length
theorem KS.refl{m:MS}(h:Ct m):KS m m:=⟨h,Int.le_refl _,Int.le_refl _,rfl,Nat.le_refl _⟩
theorem KS.trans{a b c:MS}(h:KS a b)(g:KS b c):KS a c:=⟨g.ok,Int.le_trans g.left h.left,Int.le_trans g.said h.said,g.deep.trans h.deep,Nat.le_trans h.cells g.cells⟩
theorem LW{n m:Nat}(h:n<=m){v:Val}(a:fV n v):fV m v:=by
 unfold fV at a⊢;omega
theorem Vs.mono{m m':MS}(h:KS m m'){l:List Val}(a:Vs m l):Vs m' l:=fun v b=>LW h.cells (a v b)
theorem Vs.nil{m:MS}:Vs m []:=fun v a=>by cases a
theorem Vs.app{m:MS}{a b:List Val}(h:Vs m a)(g:Vs m b):Vs m (a++b):=fun v c=>(List.mem_append.1 c).elim (h v) (g v)
def Ends{α:Type}(M:LX.aF)(q:Out α):Prop:=match q with
 | .ok _ _=>False
 | .bad l=>M.failed=true/\M.short=false/\M.said=l
 | .short=>M.short=true
theorem Ends.or{α:Type}{M:LX.aF}{q:Out α}(h:Ends M q):(M.failed||M.short)=true:=by
 cases q with
 |ok x m=>exact h.elim
 |bad l=>rw[h.1];rfl
 |short=>rw[show M.short=true from h,Bool.or_true]
theorem Ends.re{α β:Type}{M a:LX.aF}{q:Out α}(h:Ends M q)(d:a.failed=M.failed)(b:a.short=M.short)(c:a.said=M.said)(k:α->MS->Out β):Ends a (q.bind k):=by
 cases q with
 |ok x m=>exact h.elim
 |bad l=>exact⟨d.trans h.1,b.trans h.2.1,c.trans h.2.2⟩
 |short=>exact b.trans h
def RelV(a:List dw)(m:MS)(len:Nat)(o:Option (Val×Int×LX.aF))(q:Out (Val×Nat)):Prop:=
 (∃x m',q=.ok x m'/\o=some (x.1,(x.2:Int),mk a m')/\x.2=len/\KS m m'/\fV m'.cells.length x.1)\/∃v n M,o=some (v,n,M)/\Ends M q/\M.deep=m.deep
def RelR(a:List dw)(m:MS)(o:Option (Val×LX.aF))(q:Out Val):Prop:=
 (∃x m',q=.ok x m'/\o=some (x,mk a m')/\KS m m'/\fV m'.cells.length x)\/∃v M,o=some (v,M)/\Ends M q/\M.deep=m.deep
def RelS(a:List dw)(m:MS)(c:List Val)(o:Option (Val×Bool×LX.aF×List Val))(q:Out (Option Val×List Val)):Prop:=
 (∃w vs m' v b,q=.ok (w,vs) m'/\o=some (v,b,mk a m',vs)/\KS m m'/\vs.length=c.length/\Vs m' vs/\((∃x,w=some x/\v=x/\b=true/\fV m'.cells.length x)\/(w=none/\b=false)))\/∃v M vs,o=some (v,true,M,vs)/\Ends M q/\M.deep=m.deep
def jv(m:MS):MS:=⟨m.said,m.left-1,m.cells,m.deep⟩
theorem H9{m:MS}(h:Ct m)(a:¬m.left-1<0):KS m (jv m):=⟨⟨by show 0<=m.left-1;omega,by show(m.said.length:Int)+(m.left-1)<=2000;have:=h.said;omega,h.deep,h.many,h.cells⟩,by show m.left-1<=m.left;omega,by show(m.said.length:Int)+(m.left-1)<=_;omega,rfl,Nat.le_refl _⟩
theorem Ia(a:List dw){m:MS}(h:Ct m):iw (mk a m)=some (if m.left-1<0 then(true,⟨a,m.said,m.left-1,m.cells,m.deep,false,true⟩)else(false,mk a (jv m))):=by
  unfold iw jD;have:=h.left;have:=h.said;show gD (jY<|m.left-1) (bif decide (m.left-1<0)then _ else _)=_;rw[gI V V];by_cases b:m.left-1<0
  · rw[dT b,cond_true,if_pos b];rfl
  · rw[dF b,cond_false,if_neg b];rfl
theorem Ru{β:Type}{m:MS}(h:m.left-1<0)(k:MS->Out β):tick m k=.short:=if_pos h
theorem Rv{β:Type}{m:MS}(h:¬m.left-1<0)(k:MS->Out β):tick m k=k (jv m):=if_neg h
def Gd(a:List aX)(y:aX)(c:List Ins):Prop:=∀i∈c,qH a y.regs y.code.length i
theorem Gd.left{a:List aX}{y:aX}{c d:List Ins}(h:Gd a y (c++d)):Gd a y c:=fun i b=>h i (List.mem_append.2 (.inl b))
def HV(b:List dw)(a:List aX)(N:Nat)(f:VT)(d:VF):Prop:=∀(y:aX) (L:Int) (e rest:List Tok) (h:Int) (c:List Ins) (g:List Val) (m:MS),CX b L y.regs 1 e h c->Gd a y c->(g.length:Int)=L->Vs m g->Ct m->4*m.left+60<=N->(e++rest).length<=1000000->RelV b m e.length (f (mk b m) (e++rest) g) (d (e++rest) g m)
def HS(b:List dw)(a:List aX)(N:Nat)(f:ST)(S:SF):Prop:=∀(y:aX) (L:Int) (p:Nat) (l:List aN) (c:List Ins) (d:List Val) (m:MS),CS b L y.regs p l c->Gd a y c->(d.length:Int)=L->Vs m d->Ct m->4*m.left+60<=N->c.length<=1000000->RelS b m d (f (mk b m) d l) (S l d m)
def HR(a:List dw)(N:Nat)(f:RT)(R:RF):Prop:=∀(k:Int) (x:dw) (b:List Val) (m:MS),idx a k=some x->(b.length:Int)=x.params->Vs m b->Ct m->4*m.left+61<=N->RelR a m (f (mk a m) k b) (R k b m)
end Cm
open Go Go.Proofs Go.LX
namespace Cm
theorem Vp{n:Nat}{k:Int}{b c w:Val}(h:TM k b c=some w):fV n w:=by
  unfold TM at h;by_cases d:k=5
  · rw[if_pos d]at h;cases h;refine .inr<|.inl ⟨Z,?_⟩;show-1000000000<=(if b=c then(1:Int)else 0)/\(if b=c then(1:Int)else 0)<=1000000000;split<;>omega
  rw[if_neg d]at h;by_cases e:b.kind≠1\/c.kind≠1
  · rw[if_pos e]at h;cases h
  rw[if_neg e]at h;by_cases f:k=4
  · rw[if_pos f]at h;cases h;refine .inr<|.inl ⟨Z,?_⟩;show-1000000000<=(if b.n<c.n then(1:Int)else 0)/\(if b.n<c.n then(1:Int)else 0)<=1000000000;split<;>omega
  rw[if_neg f]at h;simp only[]at h;generalize (if k=1 then b.n+c.n else if k=2 then b.n-c.n else b.n*c.n:Int)=z at h;by_cases a: -1000000000<=z/\z<=1000000000
  · rw[if_pos a]at h;cases h;exact .inr<|.inl ⟨Z,a⟩
  · rw[if_neg a]at h;cases h
theorem TC{m:MS}(h:Ct m){v:Val}(b:fV m.cells.length v)(d:v.kind=2):idx m.cells v.n=some (cellAt m.cells v.n)/\cellAt m.cells v.n∈m.cells:=by
 have c:=b.ref d;obtain⟨n,hn⟩:=Int.eq_ofNat_of_zero_le c.1;have a:n<m.cells.length:=by omega
 rw[hn,Vt a,oJ a];exact⟨Z,List.getElem_mem a⟩
theorem endV{b:List dw}(hF:∀x∈b,0<=x.params){a:List aX}{N:Nat}{F0:VT}{F2:RT}{R:RF}(hR:HR b N F2 R){y:aX}{L tg:Int}{t:Tok}(Q:YV b L t)(g:qH a y.regs y.code.length (uV b t tg)){c d:List Val}{m:MS}(hl:(c.length:Int)=L)(a0:Vs m c)(q:Vs m d)(z:d.length=nZ b t)(k:Ct m)(hN:4*m.left+61<=N)
    (n i A:Int) (a1:¬i<A) (e:List Tok) (m0:MS) (nx:Int×List Val×Int×List Int×Int×List (List Val)×Int×Bool×Bool->Option (Val×Int×LX.aF)):
    (∃v m',Tq R t c d m=.ok v m'/\bK F0 F2 A e (mk b m0) c t (n,d,i,m.said,m.left,m.cells,m.deep,false,false) nx=some (v,n,mk b m')/\KS m m'/\fV m'.cells.length v)\/
    ∃v n' M,bK F0 F2 A e (mk b m0) c t (n,d,i,m.said,m.left,m.cells,m.deep,false,false) nx=some (v,n',M)/\(Ends M (Tq R t c d m)/\M.deep=m.deep):=by
  unfold bK Tq;simp only[];rw[dF a1,cond_false];unfold uV at g;have hk:=Q.kind;by_cases C:t.kind=1
  · rw[dT C,cond_true,if_pos C];rw[if_pos C]at g;unfold qH at g;simp at g;exact .inl ⟨_,_,Z,Z,KS.refl k,.inr<|.inl ⟨Z,g.2⟩⟩
  rw[dF C,cond_false,if_neg C];rw[if_neg C]at g;by_cases B:t.kind=2
  · rw[dT B,cond_true,if_pos B];obtain⟨v1,v2⟩:=Q.var B;obtain⟨E,J⟩:=rR hl ⟨v1,v2⟩;rw[E];exact .inl ⟨_,_,Z,Z,KS.refl k,a0 _ J⟩
  rw[dF B,cond_false,if_neg B];rw[if_neg B]at g;by_cases p:t.kind=3
  · rw[dT p,cond_true,if_pos p];rw[if_pos p]at g;have h2:d.length=2:=by rw[z];unfold nZ;rw[if_pos p]
    unfold qH at g;simp at g;have S:1<=t.n/\t.n<=5:=g.2.2;obtain⟨E,J⟩:=rR (r:=d) (R:=2) V (i:=0) ⟨by omega,by omega⟩;obtain⟨f1,f2⟩:=rR (r:=d) (R:=2) V (i:=1) ⟨by omega,by omega⟩;rw[E,f1];simp only[bnd];obtain⟨v,u,hw⟩:=YM S (q _ J)<|q _ f2;rw[u];simp only[bnd];unfold mi;cases ho:TM t.n (dP d 0) (dP d 1)with
    |some w=>
      have:=hw w ho;subst this;exact .inl ⟨_,_,Z,Z,KS.refl k,Vp ho⟩
    |none=>exact .inr ⟨_,_,_,rfl,⟨rfl,rfl,rfl⟩,rfl⟩
  rw[dF p,cond_false,if_neg p];rw[if_neg p]at g;by_cases s:t.kind=4
  · rw[dT s,cond_true,if_pos s];have h2:d.length=1:=by rw[z];unfold nZ;rw[if_neg p,if_pos s]
    obtain⟨E,J⟩:=rR (r:=d) (R:=1) V (i:=0) ⟨by omega,by omega⟩;rw[E];simp only[bnd];have u:=q _ J;generalize dP d 0=v at u;unfold jV;by_cases G:v.kind=2
    · obtain⟨c1,c2⟩:=TC k u G;rw[dF (show¬v.kind≠2 from fun h=>h G),cond_false,c1];simp only[bnd];by_cases P:((cellAt m.cells v.n).length:Int)<=t.n
      · rw[dT P,cond_true,if_pos (show noCell m.cells v t.n from .inr P)];exact .inr ⟨_,_,_,Z,⟨Z,Z,Z⟩,Z⟩
      · rw[dF P,cond_false,if_neg (show¬noCell m.cells v t.n from fun h=>h.elim (fun h=>h G) P)];obtain⟨g1,g2⟩:=rR (r:=cellAt m.cells v.n) Z (i:=t.n) ⟨Q.fld s,by omega⟩;rw[g1];exact .inl ⟨_,_,Z,Z,KS.refl k,k.cells _ c2 _ g2⟩
    · rw[dT (show v.kind≠2 from G),cond_true,cond_true,if_pos (show noCell m.cells v t.n from .inl G)];exact .inr ⟨_,_,_,Z,⟨Z,Z,Z⟩,Z⟩
  rw[dF s,cond_false,if_neg s];rw[if_neg s]at g;by_cases O:t.kind=5
  · rw[dT O,cond_true,if_pos O];rw[if_pos O]at g;unfold qH at g;simp at g;have hn:1<=t.n/\t.n<=4:=g.2;have X:=k.many;by_cases K:m.cells.length=24
    · rw[dT (show((m.cells.length:Int))=24 by omega),cond_true,if_pos K];exact .inr ⟨_,_,_,Z,Z,Z⟩
    · rw[dF (show¬((m.cells.length:Int))=24 by omega),cond_false,if_neg K,uY ⟨by omega,by omega⟩,uY (Room.mk (by simp<;>omega) (by simp<;>omega)),gI (by simp<;>omega) (by simp<;>omega)];refine .inl ⟨_,_,Z,?_,⟨⟨k.left,k.said,k.deep,by show(m.cells++[List.replicate t.n.toNat (⟨0,0⟩:Val)]).length<=24;rw[List.length_append,List.length_singleton];omega,?_⟩,Int.le_refl _,Int.le_refl _,rfl,by show m.cells.length<=(m.cells++[List.replicate t.n.toNat (⟨0,0⟩:Val)]).length;rw[List.length_append];omega⟩,.inr (.inr ⟨rfl,by show(0:Int)<=(m.cells.length:Int);omega,by show(m.cells.length:Int)<(((m.cells++[List.replicate t.n.toNat (⟨0,0⟩:Val)]).length:Nat):Int);rw[List.length_append,List.length_singleton];omega⟩)⟩
      · have:(((m.cells++[List.replicate t.n.toNat (⟨0,0⟩:Val)]).length:Int)-1)=(m.cells.length:Int):=by simp
        rw[this];rfl
      · intro l o v u;rcases List.mem_append.1 o with o|o
        · exact LW zq3<|k.cells l o v u
        · rw[List.mem_singleton.1 o]at u;rw[List.eq_of_mem_replicate u];exact .inl ⟨Z,Z⟩
  rw[dF O,cond_false,if_neg O];have k6:t.kind=6:=by omega
  obtain⟨f1,f2⟩:=Q.fn k6;obtain⟨j,hj⟩:=Int.eq_ofNat_of_zero_le f1;have I:j<b.length:=by omega
  have hx:idx b t.n=some b[j]:=by rw[hj,oJ I]
  have T:(d.length:Int)=b[j].params:=by
    rw[z];unfold nZ vO;rw[if_neg p,if_neg s,if_pos k6,hx];have:=hF b[j]<|List.getElem_mem I;simp only[Option.map_some,Option.getD_some];omega
  rcases hR t.n b[j] d m hx T q k hN with⟨x,m',q1,q2,q3,q4⟩|⟨v,M,q1,q2,q3⟩
  · rw[show(⟨(mk b m0).f,m.said,m.left,m.cells,m.deep,false,false⟩:LX.aF)=mk b m from rfl,q2,q1];exact .inl ⟨_,_,Z,Z,q3,q4⟩
  · rw[show(⟨(mk b m0).f,m.said,m.left,m.cells,m.deep,false,false⟩:LX.aF)=mk b m from rfl,q1];refine .inr ⟨_,_,_,Z,?_,q3⟩;cases hq:R t.n d m with
    |ok x m'=>rw[hq]at q2;exact q2
    |bad l=>rw[hq]at q2;exact q2
    |short=>rw[hq]at q2;exact q2
end Cm
open Go Go.Proofs Go.LX
namespace Cm
theorem asks_eq{a:List dw}(h:∀x∈a,0<=x.params/\x.params<=40){L:Int}{t:Tok}(k:YV a L t):lF t a=some ((nZ a t:Nat):Int)/\nZ a t<=40:=by
  unfold lF nZ;by_cases d:t.kind=3
  · rw[dT d,cond_true,if_pos d];exact⟨Z,by omega⟩
  rw[dF d,cond_false,if_neg d];by_cases e:t.kind=4
  · rw[dT e,cond_true,if_pos e];exact⟨Z,by omega⟩
  rw[dF e,cond_false,if_neg e];by_cases c:t.kind=6
  · rw[dT c,cond_true,if_pos c];obtain⟨i,l⟩:=k.fn c;obtain⟨j,g⟩:=Int.eq_ofNat_of_zero_le i;have b:j<a.length:=by omega
    have f:idx a t.n=some a[j]:=by rw[g,oJ b]
    have:=h a[j]<|List.getElem_mem b;unfold vO;rw[f];simp only[bnd,Option.map_some,Option.getD_some];exact⟨by rw[Int.toNat_of_nonneg this.1],by omega⟩
  · rw[dF c,cond_false,if_neg c];exact⟨Z,by omega⟩
theorem TD{d:List dw}{a:List aX}{N:Nat}{F0:VT}{F2:RT}{f:VF}(S:HV d a N F0 f){y:aX}{L:Int}{g:List Val}(T:(g.length:Int)=L){e:List Tok}(he:e.length<=1000000){t:Tok}{m0:MS}{o:Nat}(P:o<=40):
    ∀(w M n i:Nat) (k:List Val) (m:MS) (z rest:List Tok) (p:Int) (c:List Ins),i+w=o->w<M->e.drop n=z++rest->n<=e.length->CX d L y.regs w z p c->Gd a y c->Vs m g->Vs m k->k.length=i->Ct m->4*m.left+60<=N->
    (∃q m' s,Ex f g w (e.drop n) m=.ok q m'/\again (bK F0 F2 (o:Int) e (mk d m0) g t) M ((n:Int),k,(i:Int),m.said,m.left,m.cells,m.deep,false,false)=bK F0 F2 (o:Int) e (mk d m0) g t (((n+q.2:Nat):Int),k++q.1,(o:Int),m'.said,m'.left,m'.cells,m'.deep,false,false) s/\q.2=z.length/\q.1.length=w/\KS m m'/\Vs m' q.1)\/
    ∃v G A,again (bK F0 F2 (o:Int) e (mk d m0) g t) M ((n:Int),k,(i:Int),m.said,m.left,m.cells,m.deep,false,false)=some (v,G,A)/\(Ends A (Ex f g w (e.drop n) m)/\A.deep=m.deep)
  |w,0,n,i,k,m,z,rest,p,c,hi,hM,_,_,_,_,_,_,_,_,_=>by omega
  |0,M+1,n,i,k,m,z,rest,p,c,hi,hM,hd,hn,hc,hg,hvs,hacc,hal,hm,hN=>by
    cases hc;obtain rfl:i=o:=by omega
    refine .inl ⟨([],0),m,again (bK F0 F2 (i:Int) e (mk d m0) g t) M,Z,?_,Z,Z,KS.refl hm,Vs.nil⟩;rw[List.append_nil];rfl
  |w+1,M+1,n,i,k,m,z,rest,p,c,hi,hM,hd,hn,hc,hg,hvs,hacc,hal,hm,hN=>by
    cases hc with
    | @cons _ t' e1' e2 _ c1 c2 ht hr h1 h2=>
      have hx:CX d L y.regs 1 (t'::e1') p (c1++[uV d t' p]):=by
        have:=CX.cons ht hr h1<|CX.nil<|p+1;simpa using this
      have J:Gd a y (c1++[uV d t' p]):=fun j u=>by
        rcases List.mem_append.1 u with u|u
        · exact hg j (by simp[u])
        · rw[List.mem_singleton.1 u];exact hg _ zq3
      have K:Gd a y c2:=fun j u=>hg j (by simp[u]);have r:e.drop n=(t'::e1')++(e2++rest):=by rw[hd];simp
      have C:((t'::e1')++(e2++rest)).length<=1000000:=by rw[<-r,List.length_drop];omega
      have R:=sub_s (l:=e) (a:=n) (b:=e.length) hn<|Nat.le_refl _;rw[List.take_length]at R;have B:=S y L (t'::e1') (e2++rest) p _ g m hx J T hvs hm hN C;rw[<-r]at B;have X:∀s,bK F0 F2 (o:Int) e (mk d m0) g t ((n:Int),k,(i:Int),m.said,m.left,m.cells,m.deep,false,false) s=(F0 (mk d m) (e.drop n) g).bind fun h=>bif (h.2.2.failed||h.2.2.short)then some ((⟨0,0⟩:Val),(e.length:Int),(⟨d,h.2.2.said,h.2.2.left,h.2.2.cells,h.2.2.deep,h.2.2.failed,h.2.2.short⟩:LX.aF))else gD (jY ((n:Int)+h.2.1)) (gD (Room 16 k [h.1])<|gD (jY ((i:Int)+1))<|s (((n:Int)+h.2.1),(k++[h.1]),((i:Int)+1),h.2.2.said,h.2.2.left,h.2.2.cells,h.2.2.deep,h.2.2.failed,h.2.2.short)):=by
        intro s;unfold bK;simp only[];rw[dT (show(i:Int)<(o:Int) by omega),cond_true,R];rfl
      show(∃q m' s,_/\bK F0 F2 (o:Int) e (mk d m0) g t ((n:Int),k,(i:Int),m.said,m.left,m.cells,m.deep,false,false) (again _ M)=_/\_)\/∃v G A,bK F0 F2 (o:Int) e (mk d m0) g t ((n:Int),k,(i:Int),m.said,m.left,m.cells,m.deep,false,false) (again _ M)=_/\_;rw[X];rcases B with⟨x,m',q1,q2,q3,q4,q5⟩|⟨v,G,A,q1,q2,q2d⟩
      · rw[q2];have I:n+x.2<=e.length:=by
          have:=congrArg List.length r;rw[List.length_drop,List.length_append]at this;omega
        have Q:e.drop (n+x.2)=e2++rest:=by
          rw[<-List.drop_drop,r,q3,List.drop_left]
        simp only[bnd];rw[show((mk d m').failed||(mk d m').short)=false from rfl,cond_false,gI V V,uY (Room.mk (by simp;omega) (by simp;omega)),gI V V];have ih:=TD S T he (t:=t) (m0:=m0) (F2:=F2) P w M (n+x.2) (i+1) (k++[x.1]) m' e2 rest (p+1) c2 V V Q I h2 K (hvs.mono q4) ((hacc.mono q4).app (fun v E=>by rw[List.mem_singleton.1 E];exact q5)) (by simp;omega) q4.ok (by have:=q4.left;omega);have O:(((n:Int)+(x.2:Int)),(k++[x.1]),((i:Int)+1),(mk d m').said,(mk d m').left,(mk d m').cells,(mk d m').deep,(mk d m').failed,(mk d m').short)=(((n+x.2:Nat):Int),(k++[x.1]),((i+1:Nat):Int),m'.said,m'.left,m'.cells,m'.deep,false,false):=rfl;rw[O];have ha:Ex f g (w+1) (e.drop n) m=(Ex f g w (e.drop<|n+x.2) m').bind fun q m=>.ok (x.1::q.1,x.2+q.2) m:=by
          show(f (e.drop n) g m).bind _=_;rw[q1];show(Ex f g w ((e.drop n).drop x.2) m').bind _=_;rw[List.drop_drop]
        rw[ha];rcases ih with⟨q,m2,s,r1,r2,r3,r4,r5,r6⟩|⟨v,G,A,r1,r2,r2d⟩
        · rw[r1,r2];refine .inl ⟨(x.1::q.1,x.2+q.2),m2,s,Z,?_,?_,?_,q4.trans r5,?_⟩
          · rw[show n+x.2+q.2=n+(x.2+q.2) by omega,List.append_assoc];rfl
          · simp only[List.length_append,List.length_cons]at q3⊢;omega
          · simp[r4]
          · intro v E;rcases List.mem_cons.1 E with rfl|E
            · exact LW r5.cells q5
            · exact r6 v E
        · rw[r1];exact .inr ⟨_,_,_,Z,r2.re Z Z Z _,r2d.trans q4.deep⟩
      · rw[q1];simp only[bnd];rw[q2.or,cond_true];exact .inr ⟨_,_,_,Z,q2.re Z Z Z _,q2d⟩
theorem val_step{b:List dw}(r:∀x∈b,0<=x.params/\x.params<=40){a:List aX}{N:Nat}{F0:VT}{F1:ST}{F2:RT}{d:VF}{R:RF}(E:HV b a N F0 d)(A:HR b N F2 R):HV b a (N+1) (jb N F0 F1 F2) (valR b d R):=by
  intro y L e rest s c g m B w u k o O h;cases B with
  | @cons _ t e1 e2 _ c1 c2 ht hr h1 h2=>
    cases h2;unfold jb;rw[Ia b o];show RelV b m _ _ (tick m fun m=>(Ex d g (nZ b t) (e1++[]++rest) m).bind _);by_cases j:m.left-1<0
    · rw[if_pos j,Ru j];exact .inr ⟨_,_,_,Z,Z,Z⟩
    rw[if_neg j,Rv j];simp only[bnd];rw[cond_false];have z:idx (t::e1++[]++rest) 0=some t:=rfl;rw[z];simp only[bnd];obtain⟨C,I⟩:=asks_eq r ht;rw[show(mk b m).f=b from rfl,C];simp only[bnd];have l:=H9 o j;have p:=o.left;have M:(jv m).left=m.left-1:=rfl;have J:qH a y.regs y.code.length (uV b t s):=w _ zq3;have i:=TD E u (e:=t::e1++[]++rest) h (t:=t) (m0:=m) (F2:=F2) I (nZ b t) N 1 0 [] (jv m) e1 rest s c1 V V zq3 zq3 h1 w.left (k.mono l) Vs.nil Z l.ok V;have K:(t::e1++[]++rest).drop 1=e1++[]++rest:=rfl;rw[K]at i;show RelV b m _ (again (bK F0 F2 _ (t::e1++[]++rest) (mk b m) g t) N (((1:Nat):Int),[],((0:Nat):Int),(jv m).said,(jv m).left,(jv m).cells,(jv m).deep,false,false)) _;rcases i with⟨q,m',nx,r1,r2,r3,r4,r5,r6⟩|⟨v,n',M',r1,r2,r2d⟩
    · rw[r1,r2];have n:=l.trans r5;show RelV b m _ _ ((Tq R t g q.1 m').bind fun v m=>.ok (v,1+q.2) m);rw[List.nil_append];rcases endV (F0:=F0) (fun x G=>(r x G).1) A ht J u (k.mono n) r6 r4 r5.ok (by have:=r5.left;omega) ((1+q.2:Nat):Int) (nZ b t:Int) (nZ b t:Int) V (t::e1++[]++rest) m nx with⟨v,m2,s1,s2,s3,s4⟩|⟨v,n',M',s1,s2,s2d⟩
      · rw[s1,s2];refine .inl ⟨(v,1+q.2),m2,Z,Z,?_,n.trans s3,s4⟩;simp;omega
      · rw[s1];exact .inr ⟨_,_,_,Z,s2.re Z Z Z _,s2d.trans n.deep⟩
    · rw[r1];exact .inr ⟨_,_,_,Z,r2.re Z Z Z _,r2d.trans l.deep⟩
end Cm
open Go Go.Proofs Go.LX
namespace Cm
theorem CX.len{a:List dw}{L R:Int}{w:Nat}{e:List Tok}{b:Int}{c:List Ins}(h:CX a L R w e b c):c.length=e.length:=by
 induction h with
 |nil=>rfl
 |cons ht hr h1 h2 i1 i2=>simp only[List.length_append,List.length_cons,i1,i2];omega
theorem Oj(v:Val):(decide (v.kind=2)||decide (v.n≠0))=decide (uC v):=by
 unfold uC;by_cases h:v.kind=2<;>by_cases a:v.n=0<;>simp[h,a]
abbrev NX:=List Val×List Int×Int×List (List Val)×Int×Bool×Bool->Option (Val×Bool×LX.aF×List Val)
def flat(a:List Val)(m:MS):List Val×List Int×Int×List (List Val)×Int×Bool×Bool:=(a,m.said,m.left,m.cells,m.deep,false,false)
def Ib(a:List dw)(m:MS)(b:List Val)(c:NX)(o:Option (Val×Bool×LX.aF×List Val))(q:Out (Option Val×List Val)):Prop:=
 (∃vs m',q=.ok (none,vs) m'/\o=c (flat vs m')/\KS m m'/\vs.length=b.length/\Vs m' vs)\/
 (∃v vs m',q=.ok (some v,vs) m'/\o=some (v,true,mk a m',vs)/\KS m m'/\vs.length=b.length/\Vs m' vs/\fV m'.cells.length v)\/
 ∃v M vs,o=some (v,true,M,vs)/\Ends M q/\M.deep=m.deep
theorem TE{d:List dw}{a:List aX}{N:Nat}{F0:VT}{F1:ST}{S:SF}(k:HS d a N F1 S){y:aX}{L:Int}{p:Nat}{l:List aN}{c:List Ins}{e:List Val}{m m0:MS}(j:CS d L y.regs p l c)(q:Gd a y c)(r:(e.length:Int)=L)(h:Vs m e)(n:Ct m)(o:4*m.left+60<=N)(g:c.length<=1000000)(i:NX):
    Ib d m e i (fw F1 (mk d m0) m.said m.left m.cells m.deep false false e i l) (S l e m):=by
  unfold fw;rw[show(⟨(mk d m0).f,m.said,m.left,m.cells,m.deep,false,false⟩:LX.aF)=mk d m from rfl];rcases k y L p l c e m j q r h n o g with⟨w,vs,m',v,b,q1,q2,q3,q4,q5,q6⟩|⟨v,M,vs,q1,q2,q2d⟩
  · rw[q1,q2];simp only[bnd];rcases q6 with⟨x,rfl,rfl,rfl,hx⟩|⟨rfl,rfl⟩
    · rw[cond_true];exact .inr<|.inl ⟨_,_,_,Z,Z,q3,q4,q5,hx⟩
    · rw[cond_false];exact .inl ⟨_,_,Z,Z,q3,q4,q5⟩
  · rw[q1];simp only[bnd];rw[cond_true];refine .inr<|.inr ⟨_,_,_,Z,?_,q2d⟩;cases hq:S l e m with
    |ok x m'=>rw[hq]at q2;exact q2.elim
    |bad l=>rw[hq]at q2;exact q2
    |short=>rw[hq]at q2;exact q2
theorem WU{c:List dw}{a:List aX}{N:Nat}{F0:VT}{F1:ST}{d:VF}{S:SF}(R:HV c a N F0 d)(T:HS c a N F1 S){y:aX}{L:Int}{p:Nat}{s:aN}{B C:List Ins}(K:CX c L y.regs 1 s.e L B)(hge:Gd a y B)(A:B.length<=1000000)(P:CS c L y.regs p s.a C)(X:Gd a y C)(h:C.length<=1000000)(t:List aN)(m0:MS)(i:NX):∀(n:Nat) (v:Val) (k j:Int) (g:List Val) (m:MS),(g.length:Int)=L->Vs m g->Ct m->4*m.left+60<=N->m.left+1<=n->
    Ib c m g i (again (dV F0 F1 (mk c m0) s t i) n (g,decide (uC v),m.said,m.left,m.cells,m.deep,false,false,k,j)) (yL d S s n v g m)
  |0,v,k,j,g,m,hl,hvs,hm,hN,hn=>by have:=hm.left;omega
  |n+1,v,k,j,g,m,hl,hvs,hm,hN,hn=>by
    have Q:=fun v k j g m=>WU R T K hge A P X h t m0 i n v k j g m;show Ib c m g i (dV F0 F1 (mk c m0) s t i (g,decide<|uC v,m.said,m.left,m.cells,m.deep,false,false,k,j)<|again (dV F0 F1 (mk c m0) s t i) n) (yL d S s (n+1) v g m);generalize again (dV F0 F1 (mk c m0) s t i) n=G at Q⊢;unfold dV;simp only[];by_cases E:uC v
    · rw[dT E,cond_true];rw[show(⟨(mk c m0).f,m.said,m.left,m.cells,m.deep,false,false⟩:LX.aF)=mk c m from rfl];have J:yL d S s (n+1) v g m=(S s.a g m).bind fun q m=>match q.1 with
          |some w=>.ok (some w,q.2) m
          |none=>tick m fun m=>(d s.e q.2 m).bind fun x m=>yL d S s n x.1 q.2 m:=if_pos E
      rcases T y L p s.a C g m P X hl hvs hm hN h with⟨w,vs,m',v',b,q1,q2,q3,q4,q5,q6⟩|⟨v',M,vs,q1,q2,q2d⟩
      · rw[q2];simp only[bnd];rcases q6 with⟨x,rfl,rfl,rfl,hx⟩|⟨rfl,rfl⟩
        · rw[cond_true,J,q1];exact .inr<|.inl ⟨_,_,_,Z,Z,q3,q4,q5,hx⟩
        have O:yL d S s (n+1) v g m=tick m' fun m=>(d s.e vs m).bind fun x m=>yL d S s n x.1 vs m:=by rw[J,q1];rfl
        rw[cond_false,O,show(⟨(mk c m0).f,(mk c m').said,(mk c m').left,(mk c m').cells,(mk c m').deep,(mk c m').failed,(mk c m').short⟩:LX.aF)=mk c m' from rfl,Ia c q3.ok];by_cases z:m'.left-1<0
        · rw[if_pos z,Ru z];exact .inr<|.inr ⟨_,_,_,Z,Z,q3.deep⟩
        rw[if_neg z,Rv z];simp only[bnd];rw[cond_false];have o:=H9 q3.ok z;have tl:(jv m').left=m'.left-1:=rfl;have h3:=q3.left;have r:(s.e++[]).length<=1000000:=by rw[List.append_nil,<-K.len];exact A
        have l:=R y L s.e [] L B vs (jv m') K hge V (q5.mono o) o.ok V r;rw[List.append_nil]at l;rw[show(⟨(mk c m0).f,(mk c (jv m')).said,(mk c (jv m')).left,(mk c (jv m')).cells,(mk c (jv m')).deep,(mk c (jv m')).failed,(mk c (jv m')).short⟩:LX.aF)=mk c (jv m')from rfl];rcases l with⟨x,m2,r1,r2,r3,r4,r5⟩|⟨x,n',M',r1,r2,r2d⟩
        · rw[r1,r2];simp only[bnd];rw[show((mk c m2).failed||(mk c m2).short)=false from rfl,cond_false,Oj];have h4:=r4.left;have I:=(q3.trans o).trans r4;rcases Q x.1 x.1.kind x.1.n vs m2 V ((q5.mono o).mono r4) r4.ok V V with⟨us,m3,s1,s2,s3,s4,s5⟩|⟨u,us,m3,s1,s2,s3,s4,s5,s6⟩|⟨u,M,us,s1,s2,s2d⟩
          · exact .inl ⟨us,m3,s1,s2,I.trans s3,s4.trans q4,s5⟩
          · exact .inr<|.inl ⟨u,us,m3,s1,s2,I.trans s3,s4.trans q4,s5,s6⟩
          · exact .inr<|.inr ⟨u,M,us,s1,s2,s2d.trans I.deep⟩
        · rw[r1];simp only[bnd];rw[r2.or,cond_true];exact .inr<|.inr ⟨_,_,_,Z,r2.re Z Z Z _,r2d.trans (q3.trans o).deep⟩
      · rw[q1];simp only[bnd];rw[cond_true,J];exact .inr<|.inr ⟨_,_,_,Z,q2.re Z Z Z _,q2d⟩
    · rw[dF E,cond_false,show yL d S s (n+1) v g m=.ok (none,g) m from if_neg E];exact .inl ⟨_,_,Z,Z,KS.refl hm,Z,hvs⟩
end Cm
open Go Go.Proofs Go.LX
namespace Cm
theorem Ib.pre{a:List dw}{p m:MS}{b:List Val}{c:NX}{o:Option (Val×Bool×LX.aF×List Val)}{q:Out (Option Val×List Val)}(h:Ib a m b c o q)(hp:KS p m):Ib a p b c o q:=by
  rcases h with⟨us,m3,s1,s2,s3,s4,s5⟩|⟨u,us,m3,s1,s2,s3,s4,s5,s6⟩|⟨u,M,us,s1,s2,s2d⟩
  · exact .inl ⟨us,m3,s1,s2,hp.trans s3,s4,s5⟩
  · exact .inr<|.inl ⟨u,us,m3,s1,s2,hp.trans s3,s4,s5,s6⟩
  · exact .inr<|.inr ⟨u,M,us,s1,s2,s2d.trans hp.deep⟩
theorem do_step{d:List dw}{a:List aX}{N:Nat}{F0:VT}{F1:ST}{e:VF}{S:SF}(hV:HV d a N F0 e)(hS:HS d a N F1 S){y:aX}{L:Int}{p:Nat}{s:aN}{l:List aN}{c:List Ins}(hc:CS d L y.regs p (s::l) c)(R:Gd a y c)(t:c.length<=1000000){g:List Val}{v:Val}{m m0 pm:MS}(Q:(g.length:Int)=L)(o:Vs m g)(hv:fV m.cells.length v)(B:Ct m)(X:4*m.left+60<=N)(A:KS pm m)(a3:(m.said.length:Int)+m.left+1<=(pm.said.length:Int)+pm.left)(hp:Ct pm)(l0:List aN)(k:NX):
    Ib d pm g k (fA N F0 F1 (mk d m0) g s k l0 m.said m.left m.cells m.deep false false v.kind v.n) (TN e S N s g v m):=by
  have hr:Ib d pm g k (k<|flat g m) (.ok (none,g) m):=.inl ⟨_,_,Z,Z,A,Z,o⟩;unfold fA TN;rw[Bool.or_self,cond_false];have J:Ib d pm g k (some ((⟨0,0⟩:Val),true,(⟨d,m.said,m.left,m.cells,m.deep,true,false⟩:LX.aF),g)) (.bad m.said):=.inr<|.inr ⟨_,_,_,Z,⟨Z,Z,Z⟩,A.deep⟩;cases hc with
  | @set _ _ _ c1 c2 hk hn h1 h2=>
    rw[hk];show Ib d pm g k ((idx g s.n).bind fun x=>k<|flat (g.set s.n.toNat v) m) (.ok (none,g.set s.n.toNat v) m);obtain⟨e1,e2⟩:=rR Q (i:=s.n) ⟨hn.1,hn.2⟩;rw[e1];refine .inl ⟨_,_,Z,Z,A,by simp,fun x hx=>?_⟩;rcases List.mem_or_eq_of_mem_set hx with hx|rfl
    · exact o x hx
    · exact hv
  | @put _ _ _ c1 c2 c3 hk hn h1 h2 h3=>
    rw[hk];have a1:(s.f++[]).length<=1000000:=by
      rw[List.append_nil,<-h2.len];simp only[List.length_append]at t;omega
    have O:=hV y L s.f [] (L+1) c2 g m h2 (fun j E=>R j (by simp[E])) Q o B X a1;rw[List.append_nil]at O;show Ib d pm g k ((F0 (mk d m) s.f g).bind fun C=>bif (C.2.2.failed||C.2.2.short)then some ((⟨0,0⟩:Val),true,(⟨d,C.2.2.said,C.2.2.left,C.2.2.cells,C.2.2.deep,C.2.2.failed,C.2.2.short⟩:LX.aF),g)else bif decide ((v.kind:Int)≠2)then gM (mk d m0) C g v.n s k true else(idx C.2.2.cells v.n).bind fun LA=>gM (mk d m0) C g v.n s k<|decide (((LA.length:Int):Int)<=s.n)) ((e s.f g m).bind fun w m=>if noCell m.cells v s.n then .bad m.said else .ok (none,g) ⟨m.said,m.left,m.cells.set v.n.toNat ((cellAt m.cells v.n).set s.n.toNat w.1),m.deep⟩);rcases O with⟨x,m2,r1,r2,r3,r4,r5⟩|⟨x,n',M',r1,r2,r2d⟩
    · rw[r1,r2];simp only[bnd];rw[show((mk d m2).failed||(mk d m2).short)=false from rfl,cond_false];show Ib d pm g k _ (if noCell m2.cells v s.n then .bad m2.said else _);have P:=LW r4.cells hv;have u:=A.trans r4;unfold gM;by_cases K:v.kind=2
      · obtain⟨c1,c2⟩:=TC r4.ok P K;have a5:=P.ref K;rw[dF (show¬v.kind≠2 from fun h=>h K),cond_false,show(mk d m2).cells=m2.cells from rfl,c1];simp only[bnd];by_cases T:((cellAt m2.cells v.n).length:Int)<=s.n
        · rw[dT T,cond_true,if_pos (show noCell m2.cells v s.n from .inr T)];exact .inr<|.inr ⟨_,_,_,Z,⟨Z,Z,Z⟩,u.deep⟩
        · rw[dF T,cond_false,if_neg (show¬noCell m2.cells v s.n from fun h=>h.elim (fun h=>h K) T)];obtain⟨g1,g2⟩:=rR (r:=cellAt m2.cells v.n) Z (i:=s.n) ⟨hn,by omega⟩;rw[g1];refine .inl ⟨_,_,Z,Z,⟨⟨u.ok.left,u.ok.said,u.ok.deep,by show(m2.cells.set _ _).length<=24;rw[List.length_set];exact u.ok.many,fun q hq z M=>?_⟩,u.left,u.said,u.deep,by show pm.cells.length<=(m2.cells.set _ _).length;rw[List.length_set];exact u.cells⟩,Z,fun z M=>?_⟩
          · show fV (m2.cells.set _ _).length z;rw[List.length_set];rcases List.mem_or_eq_of_mem_set hq with hq|rfl
            · exact u.ok.cells q hq z M
            · rcases List.mem_or_eq_of_mem_set M with M|rfl
              · exact u.ok.cells _ c2 z M
              · exact r5
          · show fV (m2.cells.set _ _).length z;rw[List.length_set];exact(o.mono r4) z M
      · rw[dT (show v.kind≠2 from K),cond_true,cond_true,if_pos (show noCell m2.cells v s.n from .inl K)];exact .inr<|.inr ⟨_,_,_,Z,⟨Z,Z,Z⟩,u.deep⟩
    · rw[r1];simp only[bnd];rw[r2.or,cond_true];exact .inr<|.inr ⟨_,_,_,Z,r2.re Z Z Z _,r2d.trans A.deep⟩
  | @say _ _ _ c1 c2 hk h1 h2=>
    rw[hk];by_cases G:v.kind=1
    · rw[dF (show¬v.kind≠1 from fun h=>h G),Bool.and_false,cond_false,if_neg (show¬(((3:Int)=3\/(3:Int)=5)/\v.kind≠1)from fun h=>h.2 G)];show Ib d pm g k (gD (Room 8 m.said [v.n])<|k<|flat g ⟨m.said++[v.n],m.left,m.cells,m.deep⟩) (.ok (none,g) ⟨m.said++[v.n],m.left,m.cells,m.deep⟩);have a2:=B.said;have a4:=B.left;have a0:=hp.said;rw[uY (Room.mk (by simp;omega) (by simp;omega))];have I:(((m.said++[v.n]).length:Nat):Int)+m.left<=(pm.said.length:Int)+pm.left:=by rw[List.length_append,List.length_singleton];omega
      exact .inl ⟨_,_,Z,Z,⟨⟨B.left,Int.le_trans I a0,B.deep,B.many,B.cells⟩,A.left,I,A.deep,A.cells⟩,Z,o⟩
    · rw[dT (show v.kind≠1 from G),Bool.and_true,show(decide ((3:Int)=3)||decide ((3:Int)=5))=true from rfl,cond_true,if_pos (show(((3:Int)=3\/(3:Int)=5)/\v.kind≠1)from⟨.inl rfl,G⟩)];exact J
  | @pause _ _ _ c2 hk he h2=>
    rw[hk];exact hr
  | @go _ _ _ c1 c2 hk h1 h2=>
    rw[hk];by_cases G:v.kind=1
    · rw[dF (show¬v.kind≠1 from fun h=>h G),Bool.and_false,cond_false,if_neg (show¬(((5:Int)=3\/(5:Int)=5)/\v.kind≠1)from fun h=>h.2 G)];exact hr
    · rw[dT (show v.kind≠1 from G),Bool.and_true,show(decide ((5:Int)=3)||decide ((5:Int)=5))=true from rfl,cond_true,if_pos (show(((5:Int)=3\/(5:Int)=5)/\v.kind≠1)from⟨.inr rfl,G⟩)];exact J
  | @ret _ _ _ c1 c2 hk h1 h2=>
    rw[hk];exact .inr<|.inl ⟨_,_,_,Z,Z,A,Z,o,hv⟩
  | @ite _ _ _ c1 ca cb c2 hk h1 hca hcb h2=>
    rw[hk];show Ib d pm g k (bif !(decide (v.kind=2)||decide (v.n≠0))then fw F1 (mk d m0) m.said m.left m.cells m.deep false false g k s.b else fw F1 (mk d m0) m.said m.left m.cells m.deep false false g k s.a) (S (if uC v then s.a else s.b) g m);rw[Oj];by_cases ht:uC v
    · rw[dT ht,Bool.not_true,cond_false,if_pos ht];exact(TE (F0:=F0) hS hca (fun j E=>R j (by simp[E])) Q o B X (by simp only[List.length_append,List.length_cons]at t;omega) k).pre A
    · rw[dF ht,Bool.not_false,cond_true,if_neg ht];exact(TE (F0:=F0) hS hcb (fun j E=>R j (by simp[E])) Q o B X (by simp only[List.length_append,List.length_cons]at t;omega) k).pre A
  | @loop _ _ _ c1 ca c2 hk h1 hca h2=>
    rw[hk];show Ib d pm g k (again (dV F0 F1 (mk d m0) s l0 k) N (g,(decide (v.kind=2)||decide (v.n≠0)),m.said,m.left,m.cells,m.deep,false,false,v.kind,v.n)) (yL e S s N v g m);rw[Oj];have:=B.left;exact(WU hV hS h1 (fun j E=>R j (by simp[E])) (by simp only[List.length_append,List.length_cons]at t;omega) hca (fun j E=>R j (by simp[E])) (by simp only[List.length_append,List.length_cons]at t;omega) l0 m0 k N v v.kind v.n g m Q o B X V).pre A
end Cm
open Go Go.Proofs Go.LX
namespace Cm
theorem CS.head{a:List dw}{L R:Int}{p:Nat}{s:aN}{l:List aN}{c:List Ins}(h:CS a L R p (s::l) c):(s.e=[]\/∃c1 r,CX a L R 1 s.e L c1/\c=c1++r)/\∃q u c2,CS a L R q l c2/\c=u++c2:=by
 cases h with
 |set hk hn h1 h2=>exact⟨.inr ⟨_,_,h1,rfl⟩,_,_,_,h2,by rw[List.append_cons]⟩
 |put hk hn h1 h2 h3=>exact⟨.inr ⟨_,_,h1,by rw[List.append_assoc]⟩,_,_,_,h3,by rw[List.append_cons]⟩
 |say hk h1 h2=>exact⟨.inr ⟨_,_,h1,rfl⟩,_,_,_,h2,by rw[List.append_cons]⟩
 |pause hk he h2=>exact⟨.inl he,_,[_],_,h2,rfl⟩
 |go hk h1 h2=>exact⟨.inr ⟨_,_,h1,rfl⟩,_,_,_,h2,by rw[List.append_cons]⟩
 |ret hk h1 h2=>exact⟨.inr ⟨_,_,h1,rfl⟩,_,_,_,h2,by rw[List.append_cons]⟩
 | @ite _ _ _ c1 ca cb c2 hk h1 ha hb h2=>exact⟨.inr ⟨_,_,h1,rfl⟩,_,c1++_::(ca++_::cb),_,h2,by simp only[List.append_assoc,List.cons_append];rfl⟩
 | @loop _ _ _ c1 ca c2 hk h1 ha h2=>exact⟨.inr ⟨_,_,h1,rfl⟩,_,c1++_::(ca++[_]),_,h2,by simp only[List.append_assoc,List.cons_append,List.nil_append];rfl⟩
theorem TF{d:List dw}{a:List aX}{N:Nat}{F0:VT}{F1:ST}{g:VF}{S:SF}(P:HV d a N F0 g)(hS:HS d a N F1 S){y:aX}{L:Int}(A:List aN)(m0:MS):∀(l:List aN) (p:Nat) (c:List Ins) (h:List Val) (m:MS),CS d L y.regs p l c->Gd a y c->(h.length:Int)=L->Vs m h->Ct m->4*m.left+56<=N->c.length<=1000000->
    RelS d m h (each (iL N F0 F1 (mk d m0) A) (jM (mk d m0)) l (flat h m)) (LB g S N l h m)
  |[],p,c,h,m,hc,hg,hl,hvs,hm,hN,hlen=>.inl ⟨none,h,m,⟨0,0⟩,false,rfl,rfl,KS.refl hm,rfl,hvs,.inr ⟨rfl,rfl⟩⟩
  |s::l,p,c,h,m,hc,hg,hl,hvs,hm,hN,hlen=>by
    obtain⟨hh,q,u,c2,h2,B⟩:=hc.head;have ih:=fun vars' m' k R h3 h4=>TF P hS A m0 l q c2 vars' m' h2 (fun j Q=>hg j (by rw[B];simp[Q])) k R h3 h4 (by rw[B,List.length_append]at hlen;omega);rw[oW];generalize each (iL N F0 F1 (mk d m0) A) (jM (mk d m0)) l=G at ih⊢;unfold iL flat;simp only[];have hw:LB g S N (s::l) h m=tick m fun m=>(Oa g s h m).bind fun x m=>(TN g S N s h x.1 m).bind fun q m=>match q.1 with
      |some w=>.ok (some w,q.2) m
      |none=>LB g S N l q.2 m:=rfl
    rw[show(⟨(mk d m0).f,m.said,m.left,m.cells,m.deep,false,false⟩:LX.aF)=mk d m from rfl,Ia d hm,hw];by_cases C:m.left-1<0
    · rw[if_pos C,Ru C];exact .inr ⟨_,_,_,Z,Z,Z⟩
    rw[if_neg C,Rv C];simp only[bnd];rw[cond_false];have t:=H9 hm C;have tl:(jv m).left=m.left-1:=rfl;have ts:(jv m).said=m.said:=rfl;have X:=hm.left
    --what follows the expression
    have E:∀(x:Val×Nat) (i:MS),KS (jv m) i->fV i.cells.length x.1->RelS d m h (fA N F0 F1 (mk d m0) h s G A i.said i.left i.cells i.deep false false x.1.kind x.1.n) ((TN g S N s h x.1 i).bind fun q m=>match q.1 with
        |some w=>.ok (some w,q.2) m
        |none=>LB g S N l q.2 m):=by
      intro x i k hx;have K:=k.left;have O:=k.said;have a0:((jv m).said.length:Int)=m.said.length:=rfl;have o:=do_step P hS hc hg hlen (m0:=m0) (pm:=m) hl ((hvs.mono t).mono k) hx k.ok V (t.trans k) V hm A G;rcases o with⟨us,m3,s1,s2,s3,s4,s5⟩|⟨w,us,m3,s1,s2,s3,s4,s5,s6⟩|⟨w,M,us,s1,s2,s2d⟩
      · rw[s2,s1];show RelS d m h _ (LB g S N l us m3);have J:=s3.left;rcases ih us m3 V s5 s3.ok V with⟨w,vs,m',v,b,q1,q2,q3,q4,q5,q6⟩|⟨v,M,vs,q1,q2,q2d⟩
        · exact .inl ⟨w,vs,m',v,b,q1,q2,s3.trans q3,q4.trans s4,q5,q6⟩
        · exact .inr ⟨v,M,vs,q1,q2,q2d.trans s3.deep⟩
      · rw[s2,s1];exact .inl ⟨_,_,_,_,_,Z,Z,s3,s4,s5,.inl ⟨_,Z,Z,Z,s6⟩⟩
      · rw[s1];exact .inr ⟨_,_,_,Z,s2.re Z Z Z _,s2d⟩
    by_cases I:s.e=[]
    · rw[dF (show¬(0:Int)<(s.e.length:Int) by rw[I];decide),cond_false,show Oa g s h (jv m)=.ok (⟨0,0⟩,0) (jv m)from if_pos I];exact E (⟨0,0⟩,0) (jv m) (KS.refl t.ok)<|.inl ⟨Z,Z⟩
    · rw[dT (show(0:Int)<(s.e.length:Int) by have:=List.length_pos_iff.2 I;omega),cond_true,show Oa g s h (jv m)=g s.e h (jv m)from if_neg I];obtain⟨c1,r,k,z⟩:=hh.resolve_left I;have T:(s.e++[]).length<=1000000:=by rw[List.append_nil,<-k.len];rw[z,List.length_append]at hlen;omega
      have o:=P y L s.e [] L c1 h (jv m) k (fun j Q=>hg j (by rw[z];simp[Q])) hl (hvs.mono t) t.ok V T;rw[List.append_nil]at o;rw[show(⟨(mk d m0).f,(mk d (jv m)).said,(mk d (jv m)).left,(mk d (jv m)).cells,(mk d (jv m)).deep,(mk d (jv m)).failed,(mk d (jv m)).short⟩:LX.aF)=mk d (jv m)from rfl];rcases o with⟨x,i,r1,r2,r3,r4,r5⟩|⟨x,n',M',r1,r2,r2d⟩
      · rw[r1,r2];exact E x i r4 r5
      · rw[r1];simp only[bnd];unfold fA;rw[r2.or,cond_true];exact .inr ⟨_,_,_,Z,r2.re Z Z Z _,r2d.trans t.deep⟩
theorem sts_step{b:List dw}{a:List aX}{N:Nat}{F0:VT}{F1:ST}{F2:RT}{d:VF}{S:SF}(j:HV b a N F0 d)(n:HS b a N F1 S):HS b a (N+1) (jZ N F0 F1 F2) (LB d S N):=by
 intro y L p l c f m h o k g i q e;exact TF j n l m l p c f m h o k g i V e
theorem run_step{c:List dw}{a:List aX}(hM:Made c a)(L:kU a){N:Nat}{F0:VT}{F1:ST}{F2:RT}{S:SF}(hS:HS c a N F1 S):HR c (N+1) (jG F0 F1 F2) (YU c S):=by
  intro k x g m O X s l hN;unfold jG YU;have hd:=l.deep;by_cases d:m.deep=10
  · rw[show(mk c m).deep=m.deep from rfl,dT d,cond_true,if_pos d];exact .inr ⟨_,_,Z,⟨Z,Z,Z⟩,Z⟩
  rw[show(mk c m).deep=m.deep from rfl,dF d,cond_false,if_neg d,gI V V,show(mk c m).f=c from rfl,O];simp only[bnd];obtain⟨y,Q,hp⟩:=hM.all k x O;obtain⟨C,p,u⟩:=hp.code;obtain⟨j,hj,o⟩:∃j:Nat,k=j/\a[j]? =some y:=by
    obtain⟨h0,h1⟩:=aD Q;exact⟨k.toNat,by omega,h1⟩
  have E:y∈a:=List.mem_of_getElem? o;obtain⟨-,G,-,J⟩:=L.head j y o;have hr:=hp.regs;have a0:=hp.LV;rw[uY ⟨by omega,by omega⟩];have e:List.take (List.replicate x.locals.toNat (⟨0,0⟩:Val)).length g++List.drop g.length (List.replicate x.locals.toNat (⟨0,0⟩:Val))=zeros x.locals g:=by
    unfold zeros;rw[List.length_replicate,List.take_of_length_le V,List.drop_replicate];congr 2;omega
  rw[e];have A:Gd a y C:=fun i hi=>L.ins y E i (by rw[p];simp[hi]);have B:((zeros x.locals g).length:Int)=x.locals:=by unfold zeros;rw[List.length_append,List.length_replicate];omega
  have t:Ct ⟨m.said,m.left,m.cells,m.deep+1⟩:=⟨l.left,l.said,⟨by show 0<=m.deep+1;omega,by show m.deep+1<=10;omega⟩,l.many,l.cells⟩;have I:Vs ⟨m.said,m.left,m.cells,m.deep+1⟩ (zeros x.locals g):=fun v n=>by
    rcases List.mem_append.1 n with n|n
    · exact s v n
    · rw[List.eq_of_mem_replicate n];exact .inl ⟨Z,Z⟩
  have q:=J.2;have h:C.length<=1000000:=by rw[p,List.length_append]at q;omega
  rw[show(⟨c,(mk c m).said,(mk c m).left,(mk c m).cells,m.deep+1,(mk c m).failed,(mk c m).short⟩:LX.aF)=mk c ⟨m.said,m.left,m.cells,m.deep+1⟩from rfl];have r:4*(⟨m.said,m.left,m.cells,m.deep+1⟩:MS).left+60<=N:=by show 4*m.left+60<=(N:Int);omega
  rcases hS y x.locals 0 x.body C (zeros x.locals g) ⟨m.said,m.left,m.cells,m.deep+1⟩ u A B I t r h with⟨w,vs,m',v,b,q1,q2,q3,q4,q5,q6⟩|⟨v,M,vs,q1,q2,q2d⟩
  · rw[q1,q2];simp only[bnd];have T:m'.deep=m.deep+1:=q3.deep;have P:=q3.ok.deep;have K:KS m ⟨m'.said,m'.left,m'.cells,m'.deep-1⟩:=⟨⟨q3.ok.left,q3.ok.said,⟨by show 0<=m'.deep-1;omega,by show m'.deep-1<=10;omega⟩,q3.ok.many,q3.ok.cells⟩,q3.left,q3.said,by show m'.deep-1=m.deep;omega,q3.cells⟩;rw[show(mk c m').deep=m'.deep from rfl,gI V V];unfold jq;rcases q6 with⟨z,rfl,rfl,rfl,hz⟩|⟨rfl,rfl⟩
    · rw[Bool.not_true,cond_false];exact .inl ⟨_,_,Z,Z,K,hz⟩
    · rw[Bool.not_false,cond_true];exact .inl ⟨_,_,Z,Z,K,.inr (.inl ⟨Z,by show(-1000000000:Int)<=0;omega,by show(0:Int)<=1000000000;omega⟩)⟩
  · rw[q1];simp only[bnd];have R:M.deep=m.deep+1:=q2d;rw[gI V V];unfold jq;rw[Bool.not_true,cond_false];exact .inr ⟨_,_,Z,q2.re Z Z Z _,by show M.deep-1=m.deep;omega⟩
end Cm
open Go Go.Proofs Go.LX
namespace Cm
theorem TG{b:List dw}{a:List aX}(h:Made b a)(e:kU a):∀x∈b,0<=x.params/\x.params<=40:=by
 intro x f;obtain⟨j,g,rfl⟩:=List.getElem_of_mem f;obtain⟨y,d,hp⟩:=h.all (j:Int) b[j]<|oJ g;obtain⟨k,i⟩:=aD d;obtain⟨-,c,-,-⟩:=e.head _ y i;have:=hp.regs;have:=hp.LV;omega
theorem mean3{b:List dw}{a:List aX}(h:Made b a)(g:kU a):∀N:Nat,HV b a N (bu N).1 (ev b N).val/\HS b a N (bu N).2.1 (ev b N).sts/\HR b N (bu N).2.2 (ev b N).run
 |0=>⟨fun y L e rest q c f m _ _ _ _ d j=>by have:=d.left;omega,fun y L p l c f m _ _ _ _ d j=>by have:=d.left;omega,fun k x r m _ _ _ d j=>by have:=d.left;omega⟩
 |N+1=>by
  obtain⟨n,i,o⟩:=mean3 h g N;exact⟨val_step (F1:=(bu N).2.1) (TG h g) n o,sts_step (F2:=(bu N).2.2) n i,run_step (F0:=(bu N).1) (F2:=(bu N).2.2) h g i⟩
theorem mean_run{b:List dw}{a:List aX}(f:Made b a)(d:kU a){x:dw}(e:idx b 0=some x)(hp:x.params=0){N:Nat}(h:8061<=N):∃v M,(bu N).2.2 ⟨b,[],2000,[],0,false,false⟩ 0 []=some (v,M)/\match (ev b N).run 0 [] ⟨[],2000,[],0⟩with
    | .ok _ m'=>M.short=false/\M.failed=false/\M.said=m'.said
    | .bad l=>M.short=false/\M.failed=true/\M.said=l
    | .short=>M.short=true:=by
  have c:=(mean3 f d N).2.2 0 x [] ⟨[],2000,[],0⟩ e (by rw[hp];rfl) Vs.nil ⟨by decide,by decide,⟨by decide,by decide⟩,by decide,fun l g=>by cases g⟩ (by show 4*(2000:Int)+61<=N;omega);rw[show mk b ⟨[],2000,[],0⟩=⟨b,[],2000,[],0,false,false⟩from rfl]at c;rcases c with⟨v,m',q1,q2,-,-⟩|⟨v,M,q1,q2,-⟩
  · rw[q1,q2];exact⟨v,_,Z,Z,Z,Z⟩
  · rw[q1];refine⟨v,M,Z,?_⟩;cases hq:(ev b N).run 0 [] ⟨[],2000,[],0⟩with
    |ok x m=>rw[hq]at q2;exact q2.elim
    |bad l=>rw[hq]at q2;exact⟨q2.2.1,q2.1,q2.2.2⟩
    |short=>rw[hq]at q2;exact q2
end Cm
open Go Go.Proofs Go.LX
theorem ran_ok:rP NN=some true:=by
 unfold rP;rw[YJ];kernel_rfl
namespace Cm
theorem Ol{a:List aX}(k:SS a=0)(e:Int)(d:Val×LX.aF){N:Nat}(n:3000<=N):∀(m M i:Nat) (b:List Int) (s:LX.State),(i:Int)+m=3000->m<M->b.length<=40*i->vH a s->
    again (fQ N (a,e) d) M (b,(i:Int),s.frames,s.cells,s.status,s.bR)=gB d (p9 a 2000 m b s).1 (p9 a 2000 m b s).2.frames (p9 a 2000 m b s).2.cells (p9 a 2000 m b s).2.status (p9 a 2000 m b s).2.bR
  |m,0,i,b,s,hi,hM,hl,hs=>by omega
  |0,M+1,i,b,s,hi,hM,hl,hs=>by
    rw[Ja];unfold fQ p9;simp only;rw[dF V,cond_false]
  |m+1,M+1,i,b,s,hi,hM,hl,hs=>by
    rw[Ja];have p:=Dr k;have l:=Ol k e d n m M<|i+1;generalize again (fQ N (a,e) d) M=K at l⊢;have go:jI N d b (a,e) i K (wake s).frames (wake s).cells (wake s).status (wake s).bR=gB d (p9 a 2000 (m+1) b s).1 (p9 a 2000 (m+1) b s).2.frames (p9 a 2000 (m+1) b s).2.cells (p9 a 2000 (m+1) b s).2.status (p9 a 2000 (m+1) b s).2.bR:=by
      unfold jI;by_cases f:(wake s).status=0
      · have g:=Rs hs;rw[dF V,cond_false,show(⟨(wake s).frames,(wake s).cells,(wake s).status,(wake s).bR⟩:LX.State)=wake s from rfl,YS a _ 2000 n,bnd,if_neg V,if_neg (by rw[Rn.2 g];omega),if_neg V,if_neg V];simp only;obtain⟨o,j,-⟩:=KJ p 2000 [] 0 (wake s) g zq3;rw[show((2000:Int)).toNat=2000 from rfl,dF zq3,cond_false,Tp V];rw[uY (Room.mk V V),gI V V];have:=l (b++(qc a 2000 [] 0 (wake s)).2.1) (qc a 2000 [] 0 (wake s)).1 (by push_cast;omega) V (by rw[List.length_append];omega) o;rw[<-this];push_cast;rfl
      · have c:s.status≠3:=fun h=>f (by rw[WN s h]);rw[dT f,cond_true,N9 f];rw[show wake s=s from if_neg c]
    unfold fQ;simp only;rw[dT V,cond_true];by_cases c:s.status=3
    · rw[dT c,cond_true,show(⟨s.frames,s.cells,s.status,s.bR⟩:LX.State)=s from rfl,Vr,bnd,if_neg V,if_neg (by rw[Rn.2 hs];omega),if_neg V];simp only;rw[dF zq3,cond_false];rw[WN s c]at go;exact go
    · rw[dF c,cond_false];rw[show wake s=s from if_neg c]at go;exact go
theorem codeMeans(f:List dw):sj NN f=some true:=by
  obtain⟨r,j,t⟩:=Cc.KD NN zq1 f;unfold sj;by_cases i:r=0
  · subst i;have g:=t Z;obtain⟨a,c1,c2,z⟩:=Cc.VD zq1 j g;have y:SS a=0:=by
      rw[Rm]at c2;exact osi c2
    have k:=Dr y;obtain⟨C,-⟩:=Cc.Oh zq1 j;obtain⟨x,r,m⟩:∃x r,f=x::r:=by
      match f,g.many with
      |x::r,_=>exact⟨x,r,rfl⟩
    have w:idx f 0=some x:=by rw[m];rfl
    have hp:x.params=0:=by
      have G:=C x r m;have E:=(g.fn x (by rw[m];simp)).params;omega
    rw[c1];simp only[bnd];rw[ran_ok];simp only[bnd];rw[show((!true)||decide ((0:Int)≠0))=false from rfl,cond_false];obtain⟨v,M,B,q2⟩:=mean_run z k w hp (N:=NN) zq1;rw[B];simp only[bnd];have e:=means z k w hp NN;have n:=Ol y 0 (v,M) (N:=NN) zq1 3000 NN 0 [] (oV a) zq1 zq1 zq3<|Tn k;have d:∀b,b=false->(bif b then some true else(JI a).bind fun c=>bif decide ((c.2:Int)≠0)then some false else again (fQ NN (a,0) (v,M)) NN ([],0,c.1.frames,c.1.cells,c.1.status,c.1.bR))=gB (v,M) (p9 a 2000 3000 []<|oV a).1 (p9 a 2000 3000 []<|oV a).2.frames (p9 a 2000 3000 []<|oV a).2.cells (p9 a 2000 3000 []<|oV a).2.status (p9 a 2000 3000 []<|oV a).2.bR:=by
      intro b A;rw[A,cond_false,YT,bnd,if_neg V];simp only;rw[dF zq3,cond_false];exact n
    cases hq:(ev f NN).run 0 [] ⟨[],2000,[],0⟩with
    |short=>
      rw[hq]at q2;rw[show M.short=true from q2,cond_true]
    |ok u m'=>
      rw[hq]at q2 e;obtain⟨q,p,o⟩:=q2;obtain⟨st,s,h⟩:=e;rw[d _ q,s];unfold gB jT;rw[p,cond_false,dT h,cond_true,eqInt,o,dT rfl];rfl
    |bad l=>
      rw[hq]at q2 e;obtain⟨q,p,o⟩:=q2;obtain⟨st,s,h⟩:=e;rw[d _ q,s];unfold gB jT;rw[p,cond_true,dT h,cond_true,eqInt,o,dT rfl];rfl
  · rw[Cc.TA j i];simp only[bnd];rw[ran_ok];simp only[bnd];rw[dT (show r≠0 from i),Bool.or_true,cond_true]
end Cm
end Go.Proofs.YtcbdckebgjdlhaaGreatDoor