/-
  What the law WorldStands needs of our own library and of the walks, no more.
-/
import Derived.Test.YtodkbibbgakkdaaGreatDoorWorldStandsTg
set_option linter.unusedSimpArgs false
set_option linter.unusedVariables false
set_option maxRecDepth 10000
namespace Go.Proofs.YtodkbibbgakkdaaGreatDoor
open Go Go.Proofs Go.LX
noncomputable section
abbrev preL:List (Int×Str):=[(2,[118]),(4,[46]),(5,[110,101,119]),(6,[102]),(1,[])]
theorem bnd{α β:Type}(a:α)(f:α->Option β):(some a).bind f=f a:=rfl
theorem find_uniq{α σ:Type}{g:α->Option σ}{l:List α}(b:∀p∈l,∀q∈l,g p≠none->g q≠none->p=q){p:α}(hp:p∈l){t:σ}(h:g p=some t):l.findSome? g=some t:=by
 cases e:l.findSome? g with
 |none=>
  rw[List.findSome?_eq_none_iff]at e;rw[e p hp]at h;cases h
 |some u=>
  obtain⟨q,c,a⟩:=List.exists_of_findSome?_eq_some e;have:=b p hp q c (by rw[h];simp) (by rw[a];simp);subst this;rw[h]at a;exact a.symm
theorem Yp{α σ:Type}{step:α->σ->Option σ}{g:α->Option σ}:∀{l:List α},(∀p∈l,∀s,step p s=some ((g p).getD s))->(∀p∈l,g p=none)->∀s,Ul step l s=some s
 |[],_,_,s=>rfl
 |p::l,h,hn,s=>by
  unfold Ul;rw[h p zq3,hn p zq3,Option.getD_none,bnd];exact Yp (fun q a=>h q<|List.mem_cons_of_mem _ a) (fun q a=>hn q<|List.mem_cons_of_mem _ a) s
theorem Yq{α σ:Type}{step:α->σ->Option σ}{g:α->Option σ}:∀{l:List α},(∀p∈l,∀s,step p s=some ((g p).getD s))->(∀p∈l,∀q∈l,g p≠none->g q≠none->p=q)->l.Nodup->∀s,Ul step l s=some ((l.findSome? g).getD s)
  |[],_,_,_,s=>rfl
  |p::l,h,hu,hn,s=>by
    unfold Ul;rw[h p zq3,bnd];have d:=List.nodup_cons.1 hn;cases e:g p with
    |none=>
      rw[Option.getD_none,Yq (fun q c=>h q (List.mem_cons_of_mem _ c)) (fun a f b i=>hu a (List.mem_cons_of_mem _ f) b (List.mem_cons_of_mem _ i)) d.2 s,List.findSome?_cons,e]
    |some t=>
      rw[Option.getD_some,Yp (fun q c=>h q (List.mem_cons_of_mem _ c)) (fun q c=>?_) t,List.findSome?_cons,e]
      · rfl
      · cases e2:g q with
        |none=>rfl
        |some u=>
          have:=hu p zq3 q (List.mem_cons_of_mem _ c) (by rw[e];simp) (by rw[e2];simp);subst this;exact absurd c d.1
theorem folds_one{α σ:Type}{step:α->σ->Option σ}{g:α->Option σ}{L:List α}(h:∀p∈L,∀s,step p s=some ((g p).getD s))(c:∀p∈L,∀q∈L,g p≠none->g q≠none->p=q)(hn:L.Nodup)(s:σ):yX step L s ((L.findSome? g).getD s):=by
 intro l a;rw[Yq (fun p hp=>h p (a.mem_iff.1 hp)) (fun p hp q b=>c p (a.mem_iff.1 hp) q (a.mem_iff.1 b)) (a.nodup_iff.2 hn) s];congr 2;cases e:L.findSome? g with
 |none=>
  rw[List.findSome?_eq_none_iff]at e⊢;exact fun x d=>e x<|a.mem_iff.1 d
 |some t=>
  obtain⟨p,hp,f⟩:=List.exists_of_findSome?_eq_some e;exact find_uniq (fun p hp q b=>c p (a.mem_iff.1 hp) q<|a.mem_iff.1 b) (a.mem_iff.2 hp) f
def joO(a:Int×Str)(y:Int×Bool)(x:Bool):Option (Int×Int):=bif x then some (a.1,y.1)else none
def stepO(s:Str)(b:Int×Str):Option (Option (Int×Int)):=
 (strings_TrimPrefix s b.2).bind fun c=>(Gh c).bind fun a=>bif (!a.2)then(nC (⟨b.1,a.1⟩:Tok)).bind fun d=>some (joO b a (decide ((d:Str)=s)))else some (joO b a false)
theorem j227_eq(c:Int×Str)(y:Int×Bool)(a b:Int)(x:Bool):AQ c y a b x=some ((joO c y x).getD (a,b)):=by
 unfold AQ joO;cases x<;>rfl
theorem b228_eq(s:Str)(c:Int×Str)(d:Int×Int):uV s c d=(stepO s c).bind fun o=>some (o.getD d):=by
 obtain⟨a,b⟩:=d;unfold uV stepO;simp only[j227_eq];cases strings_TrimPrefix s c.2 with
 |none=>rfl
 |some y=>
  simp only[bnd];cases Gh y with
  |none=>rfl
  |some z=>
   simp only[bnd];cases z.2 with
   |true=>rfl
   |false=>
    simp only[Bool.not_false,cond_true];cases nC (⟨c.1,z.1⟩:Tok)<;>rfl
def gO(s:Str)(p:Int×Str):Option (Int×Int):=(stepO s p).join
def okW(s:Str):Bool:=preL.all (fun p=>(stepO s p).isSome)&&preL.all (fun p=>preL.all fun q=>(gO s p).isNone||(gO s q).isNone||decide (p=q))
def preC(s:Str):Int×Int:=(preL.findSome? (gO s)).getD (0,0)
theorem fold_ok{s:Str}(h:okW s=true):Gm (uV s) preL (0,0)=some (preC s):=by
  unfold okW at h;rw[Bool.and_eq_true,List.all_eq_true,List.all_eq_true]at h;refine foldAny_eq<|folds_one (g:=gO s) (fun p hp d=>?_) (fun p hp q b a c=>?_) zq1 (0,0)
  · have a:=h.1 p hp;rw[b228_eq];unfold gO;cases e:stepO s p with
    |none=>rw[e]at a;cases a
    |some o=>cases o<;>rfl
  · have:=List.all_eq_true.1 (h.2 p hp) q b;rw[Bool.or_eq_true,Bool.or_eq_true]at this;rcases this with(e|e)|e
    · exact absurd (Option.isNone_iff_eq_none.1 e) a
    · exact absurd (Option.isNone_iff_eq_none.1 e) c
    · exact Xv e
def foldC(s:Str):Option (Int×Int):=bif okW s then some (preC s)else Gm (uV s) preL (0,0)
theorem foldC_eq(s:Str):foldC s=Gm (uV s) preL (0,0):=by
 unfold foldC;cases e:okW s with
 |false=>rfl
 |true=>exact(fold_ok e).symm
def CX(N:Nat)(e:List Tok)(a:List iQ)(h:Int)(f:(List Tok×Int×Bool×Int)->Option (List Tok×gu))(c:Str)(g:Bool)(d:Int):Option (List Tok×gu):=
 (foldC c).bind fun b=>(Py N c e a d h f g) b
theorem VT: @CX= @AR:=by
 funext a b c d e f g h;unfold CX AR;rw[foldC_eq]
def Ha(N:Nat)(b:List Str)(a:List iQ)(s:List Tok×Int×Bool×Int)(d:List Tok×Int×Bool×Int->Option (List Tok×gu)):Option (List Tok×gu):=
 match s with|(oF,xh,Qz,y20)=>bif (decide ((0:Int)<xh)&&Qz)then bif decide (((b.length:Int):Int)<=y20)then CX N oF a xh d [] false y20 else iC (lK (y20+1)) (iC (lK ((y20+1)-1)) ((idx b ((y20+1)-1)).bind fun c=>CX N oF a xh d c Qz (y20+1)))else some (oF,(⟨y20,Qz⟩:gu))
theorem VU: @Ha= @AU:=by
 unfold Ha AU;rw[VT]
def Qo(N:Nat)(c:gu)(a:List Str)(b:List iQ):Option (List Tok×gu):=
 again (Ha N a b) N ([],1,c.ok,c.at_)
theorem Yr: @Qo= @Pz:=by
 unfold Qo Pz;rw[VU]
def CY(N:Nat)(j:gu->List Str->List iQ->Int->Option (List cO×gu))(e:Int)(c:List Str)(b:List iQ)(a:Int)(f:List cO)(h:Int)(l:(List cO×Int×Bool)->Option (List cO×gu))(k:Int)(i:Bool)(g:List Tok):Option (List cO×gu):=
 bif decide (((e+1):Int)=2)then(Qo N (⟨k,i⟩:gu) c b).bind fun d=>AV j e a c b f h g l d.2.at_ d.2.ok d.1 else AV j e a c b f h g l k i []
theorem VV: @CY= @AX:=by
 unfold CY AX;rw[Yr]
def yO(N:Nat)(h:gu->List Str->List iQ->Int->Option (List cO×gu))(e:Int)(c:List Str)(b:List iQ)(a:Int)(f:List cO)(k:(List cO×Int×Bool)->Option (List cO×gu))(j:Int)(i:Bool)(g:Int):Option (List cO×gu):=
 bif decide (((e+1):Int)≠4)then(Qo N (⟨j,i⟩:gu) c b).bind fun d=>CY N h e c b a f g k d.2.at_ d.2.ok d.1 else CY N h e c b a f g k j i []
theorem VW: @yO= @xR:=by
 unfold yO xR;rw[Yr,VV]
def CZ(N:Nat)(m:gu->List Str->List iQ->Int->Option (List cO×gu))(k:List cO)(c:List Str)(b:List iQ)(a:Int)(n:(List cO×Int×Bool)->Option (List cO×gu))(g:Str)(d:Int)(e:Bool):Option (List cO×gu):=
 bif decide ((g:Str)=[125])then some (k,(⟨d,e⟩:gu))else(Ph [115,101,116,32,112,117,116,32,115,97,121,32,112,97,117,115,101,32,103,111,32,105,102,32,119,104,105,108,101,32,114,101,116,117,114,110]).bind fun l=>(slices_Index_string l g).bind fun f=>iC (lK (f+1)) (bif (!(e&&decide ((0:Int)<(f+1))))then some ([],(⟨d,(e&&decide ((0:Int)<(f+1)))⟩:gu))else bif decide (((f+1):Int)<=2)then bif decide (((c.length:Int):Int)<=d)then(Gh []).bind fun i=>yO N m f c b a k n d false i.1 else iC (lK (d+1)) (iC (lK ((d+1)-1)) ((idx c ((d+1)-1)).bind fun j=>(Gh j).bind fun h=>yO N m f c b a k n (d+1) (e&&decide ((0:Int)<(f+1))) h.1))else yO N m f c b a k n d (e&&decide ((0:Int)<(f+1))) 0)
theorem VX: @CZ= @AY:=by
 unfold CZ AY;rw[VW]
def Hd(N:Nat)(d:gu->List Str->List iQ->Int->Option (List cO×gu))(c:List Str)(b:List iQ)(a:Int)(s:List cO×Int×Bool)(e:List cO×Int×Bool->Option (List cO×gu)):Option (List cO×gu):=
 match s with|(qm,KH,Ex)=>bif Ex then bif decide (((c.length:Int):Int)<=KH)then CZ N d qm c b a e [] KH false else iC (lK (KH+1)) (iC (lK ((KH+1)-1)) ((idx c ((KH+1)-1)).bind fun f=>CZ N d qm c b a e f (KH+1) Ex))else some ([],(⟨KH,Ex⟩:gu))
theorem VY: @Hd= @AZ:=by
 unfold Hd AZ;rw[VX]
def EF(N:Nat)(d:gu->List Str->List iQ->Int->Option (List cO×gu))(c:List Str)(b:List iQ)(a:Int)(f:Int)(e:Bool):Option (List cO×gu):=
 again (Hd N d c b a) N ([],f,e)
theorem Xh: @EF= @Dq:=by
 unfold EF Dq;rw[VY]
def C8(N:Nat)(d:gu->List Str->List iQ->Int->Option (List cO×gu))(c:List Str)(b:List iQ)(a:Int)(f:Bool)(e:Int)(g:Bool):Option (List cO×gu):=
 bif f then EF N d c b a e false else EF N d c b a e g
theorem VZ: @C8= @A7:=by
 unfold C8 A7;rw[Xh]
def GH(N:Nat)(f:gu->List Str->List iQ->Int->Option (List cO×gu))(d:gu)(c:List Str)(b:List iQ)(a:Int):Option (List cO×gu):=
 bif decide (((c.length:Int):Int)<=d.at_)then C8 N f c b a true d.at_ false else iC (lK (d.at_+1)) (iC (lK ((d.at_+1)-1)) ((idx c ((d.at_+1)-1)).bind fun e=>C8 N f c b a (decide ((e:Str)≠[123])||decide ((6:Int)<a)) (d.at_+1) d.ok))
theorem ZQ: @GH= @Fb:=by
 unfold GH Fb;rw[VZ]
def I7:Nat->gu->List Str->List iQ->Int->Option (List cO×gu)
 |0=>fun _ _ _ _=>none
 |N+1=>GH N (I7 N)
theorem V3:∀N,I7 N=Dr N
 |0=>rfl
 |N+1=>by show GH N (I7 N)=Fb N (Dr N);rw[ZQ,V3 N]
def mq(N:Nat)(h:List Str)(c:List iQ)(a:Int)(e:(List iQ×Int×Bool)->Option (List iQ×Int))(f:Int)(b:Bool):Option (List iQ×Int):=
 (I7 N (⟨f,b⟩:gu) h c 1).bind fun d=>(idx c a).bind fun g=>e ((c.set (a).toNat {g with body:=d.1}),d.2.at_,d.2.ok)
theorem D7: @mq= @kM:=by
 unfold mq kM;rw[show @I7= @Dr from funext V3]
def mr(N:Nat)(c:List Str)(f:List iQ)(a:Int)(e:(List iQ×Int×Bool)->Option (List iQ×Int))(b:Int)(g:Bool):Option (List iQ×Int):=
 bif decide (((c.length:Int):Int)<=b)then mq N c f a e b false else iC (lK (b+1)) (iC (lK ((b+1)-1)) ((idx c ((b+1)-1)).bind fun d=>mq N c f a e (b+1) g))
theorem D8: @mr= @kN:=by
 unfold mr kN;rw[D7]
def mD(N:Nat)(c:List Str)(f:List iQ)(a:Int)(d:(List iQ×Int×Bool)->Option (List iQ×Int))(b:Int)(g:Bool):Option (List iQ×Int):=
 bif decide (((c.length:Int):Int)<=b)then mr N c f a d b false else iC (lK (b+1)) (iC (lK ((b+1)-1)) ((idx c ((b+1)-1)).bind fun e=>mr N c f a d (b+1) g))
theorem D9: @mD= @kP:=by
 unfold mD kP;rw[D8]
def mE(N:Nat)(f:List Str)(e:List iQ)(a:Int)(d:(List iQ×Int×Bool)->Option (List iQ×Int))(b:Bool)(c:Int)(g:Bool):Option (List iQ×Int):=
 bif b then mD N f e a d c false else mD N f e a d c g
theorem Ea: @mE= @kQ:=by
 unfold mE kQ;rw[D9]
def qd(N:Nat)(c:List Str)(a:Int)(s:List iQ×Int×Bool)(d:List iQ×Int×Bool->Option (List iQ×Int)):Option (List iQ×Int):=
 match s with|(yI,y98,y99)=>bif decide (((c.length:Int):Int)<=y98)then mE N c yI a d true y98 false else iC (lK (y98+1)) (iC (lK ((y98+1)-1)) ((idx c ((y98+1)-1)).bind fun b=>mE N c yI a d (decide ((b:Str)≠[102,117,110])) (y98+1) y99))
theorem Eb: @qd= @mW:=by
 unfold qd mW;rw[Ea]
def qf(N:Nat)(c:List Str)(a:Str)(b:List iQ)(s:Unit):Option (List iQ×Int):=
 upto (qd N c) (qL N c a) 0 ((b.length:Int)).toNat (b,0,true)
theorem Ec: @qf= @mX:=by
 unfold qf mX;rw[Eb]
def qg(N:Nat)(c:List Str)(a:Str)(b:List iQ):Option (List iQ×Int):=
 bif (decide (((b.length:Int):Int)=0)||decide ((4:Int)<(b.length:Int)))then some ([],1)else upto (qM b) (qf N c a b) 0 ((b.length:Int)).toNat ()
theorem Ed: @qg= @mY:=by
 unfold qg mY;rw[Ec]
def uG(N:Nat)(a:Str):Option (List iQ×Int):=
 (Ni a [32]).bind fun b=>fO (qN b) (qg N b a) 0 b []
theorem He: @uG= @qa:=by
 unfold uG qa;rw[Ed]
def xJ(N:Nat):Option (List iQ):=
 (uG N [102,117,110,32,48,32,49,32,123,32,115,101,116,32,48,32,51,32,119,104,105,108,101,32,118,48,32,123,32,115,97,121,32,102,49,32,118,48,32,118,48,32,103,111,32,118,48,32,112,97,117,115,101,32,115,101,116,32,48,32,45,32,118,48,32,49,32,125,32,125,32,102,117,110,32,50,32,50,32,123,32,114,101,116,117,114,110,32,42,32,118,48,32,118,49,32,125]).bind fun a=>some a.1
theorem Ki: @xJ= @pR:=by
 unfold xJ pR;rw[He]
abbrev NN:Nat:=70000
theorem program_p:pR NN=xJ NN:=by rw[Ki]
end
open Go Go.Proofs Go.LX
theorem eqInt(a b:List Int):slices_Equal_int a b=some (decide (a=b)):=by
  unfold slices_Equal_int;by_cases h:a.length=b.length
  · rw[dF V];simp only[cond_false,Int.toNat_natCast];rw[L6 (fun x y=>decide (x=y)) a b h rfl (fun i x y f c d=>by
      unfold tQ;rw[lF,lF,c,d];by_cases e:x=y<;>simp[e]),Aj (fun _ _=>rfl)]
  · rw[dT V];have:a≠b:=fun e=>h (by rw[e]);rw[dF this];rfl
theorem Qp(a b:Int):(decide (a<0)||decide (b<=a))= !bD a b:=by
 unfold bD;rw[Bool.eq_iff_iff];simp;try omega
theorem idx0{α:Type}(x:α)(l:List α):idx (x::l) 0=some x:=by simp[idx]
theorem len_one{l:List Int}:l.length=1↔∃x,l=[x]:=by
 match l with
 |[]=>simp
 |[x]=>simp
 |x::y::r=>simp
def Hf(i:Nat)(x:dm):Int:=
 if(0<=x.params/\x.params<=3)/\(1<=x.regs/\x.params<=x.regs/\x.regs<=40)/\¬(i=0/\x.params≠0)then(if 1<=x.code.length/\x.code.length<=2000 then 0 else 2)else 3
theorem b39_eq(i:Nat)(x:dm)(b:Unit->Option Int):mZ (i:Int) x () b=if Hf i x≠0 then some (Hf i x)else b ():=by
  unfold mZ Hf;by_cases a:(0<=x.params/\x.params<=3)/\(1<=x.regs/\x.params<=x.regs/\x.regs<=40)/\¬(i=0/\x.params≠0)
  · have e:(((((decide ((x.params:Int)<0)||decide ((3:Int)<x.params))||decide ((x.regs:Int)<1))||decide ((x.regs:Int)<x.params))||decide ((40:Int)<x.regs))||(decide ((i:Int)=0)&&decide ((0:Int)<x.params)))=false:=by
      simp only[Bool.or_eq_false_iff,Bool.and_eq_false_iff,decide_eq_false_iff_not];omega
    rw[e,if_pos a];simp only[cond_false];by_cases c:1<=x.code.length/\x.code.length<=2000
    · rw[if_pos c,show(decide (((x.code.length:Int):Int)=0)||decide ((2000:Int)<(x.code.length:Int)))=false by simp only[Bool.or_eq_false_iff,decide_eq_false_iff_not];omega];rfl
    · rw[if_neg c,show(decide (((x.code.length:Int):Int)=0)||decide ((2000:Int)<(x.code.length:Int)))=true by simp only[Bool.or_eq_true,decide_eq_true_eq];omega];rfl
  · have e:(((((decide ((x.params:Int)<0)||decide ((3:Int)<x.params))||decide ((x.regs:Int)<1))||decide ((x.regs:Int)<x.params))||decide ((40:Int)<x.regs))||(decide ((i:Int)=0)&&decide ((0:Int)<x.params)))=true:=by
      simp only[Bool.or_eq_true,Bool.and_eq_true,decide_eq_true_eq];omega
    rw[e,if_neg a];rfl
def heads:Nat->List dm->Int
 |_,[]=>0
 |i,x::p=>if Hf i x≠0 then Hf i x else heads (i+1) p
theorem V4(k:Unit->Option Int):∀(p:List dm) (i:Nat),fO mZ k (i:Int) p ()=if heads i p≠0 then some (heads i p)else k ()
 |[],i=>by simp[heads,fO]
 |x::p,i=>by
  show mZ (i:Int) x () (fO mZ k ((i:Int)+1) p)=_;rw[b39_eq,show((i:Int)+1)=((i+1:Nat):Int) by omega,V4 k p (i+1),heads];by_cases h:Hf i x=0<;>simp[h]
def zh(x:dm):Prop:=1<=x.code.length/\x.code.length<=2000
theorem jC{α σ ρ:Type}{body:α->σ->(σ->ρ)->ρ}{k:σ->ρ}(x:α)(l:List α)(s:σ):each body k (x::l) s=body x s (each body k l):=rfl
theorem b8_tot(d:Int):∀l:List Int,∃y,each (vQ d) CS l ()=some y
 |[]=>⟨0,rfl⟩
 |x::l=>by
  obtain⟨y,a⟩:=b8_tot d l;rw[jC];unfold vQ;cases (!(decide ((0:Int)<=x)&&decide ((x:Int)<d)))with
  |true=>exact⟨3,rfl⟩
  |false=>exact⟨y,a⟩
theorem j5_tot(i:Bool)(a:Ins)(b j:Int)(c:List dm)(e f d k:Int):∃y,gY i a b j c e f d k=some y/\(y=0->(a.args.length:Int)=f):=by
 unfold gY;cases i with
 |false=>exact⟨3,rfl,fun h=>absurd h zq1⟩
 |true=>
  simp only[Bool.not_true,cond_false];generalize g:(((decide ((a.a:Int)≠k)||decide ((a.b:Int)≠j))||decide ((a.c:Int)≠e))||decide (((a.args.length:Int):Int)≠f))=C;cases C with
  |true=>exact⟨4,rfl,fun h=>absurd h zq1⟩
  |false=>
   simp only[Bool.or_eq_false_iff,decide_eq_false_iff_not,Decidable.not_not]at g;simp only[cond_false];cases decide ((a.op:Int)=7)with
   |true=>obtain⟨y,l⟩:=b8_tot d a.args;exact⟨y,l,fun _=>g.2⟩
   |false=>exact⟨0,rfl,fun _=>g.2⟩
theorem j4_tot(a:Ins)(b:Int)(c:List dm)(d:Int)(g:Bool)(f i h e:Int):∃y,dU a b c d g f i h e=some y/\(y=0->(a.args.length:Int)=f):=by
 unfold dU;cases decide ((a.op:Int)=12)with
 |true=>exact j5_tot g a b h c e f d 0
 |false=>exact j5_tot g a b h c e f d i
def ZR(a:Ins)(r:Option Int):Prop:=∃y,r=some y/\(y=0->a.args.length<=3)
theorem Xi(a:Ins)(b:Int)(c:List dm)(d:Int)(g:Bool){f:Int}(j i e:Int)(h:f<=3):ZR a (dU a b c d g f j i e):=by
 obtain⟨y,k,m⟩:=j4_tot a b c d g f j i e;exact⟨y,k,fun l=>by have:=m l;omega⟩
theorem vM{a:Ins}{c:Bool}{x y:Option Int}(b:ZR a x)(d:ZR a y):ZR a (bif c then x else y):=by
  cases c
  · exact d
  · exact b
theorem V5{a:Ins}{e:Int}(h:e≠0):ZR a (some e):=⟨e,rfl,fun b=>absurd b h⟩
theorem check_ins(a:Ins)(b:Int)(c:List dm)(d e:Int)(hp:∀x∈c,x.params<=3):ZR a (ko a b c d e):=by
  unfold ko;refine vM (V5 zq1)<|vM (V5 zq1)<|vM (Xi _ _ _ _ _ _ _ _ zq1)<|vM (Xi _ _ _ _ _ _ _ _ zq1) ?_;have f:∀x,ZR a (fJ a b c d x):=fun x=>by
    unfold fJ;exact vM (Xi _ _ _ _ _ _ _ _ zq1)<|vM (Xi _ _ _ _ _ _ _ _ zq1)<|Xi _ _ _ _ _ _ _ _ zq1
  have h:∀x,ZR a (fV a b c d e x):=fun x=>by
    unfold fV;refine vM (Xi _ _ _ _ _ _ _ _ zq1) ?_;cases decide ((a.op:Int)=7)with
    |false=>
      rw[cond_false];exact vM (f _)<|vM (f _)<|f _
    |true=>
      simp only[cond_true];rw[Qp];cases hb:bD a.b (c.length:Int)with
      |false=>exact V5 zq1
      |true=>
        simp only[Bool.not_true,cond_false];unfold bD at hb;simp only[Bool.and_eq_true,decide_eq_true_eq]at hb;obtain⟨n,hn⟩:=Int.eq_ofNat_of_zero_le hb.1;rw[hn,BZ V,Option.bind_some];exact Xi _ _ _ _ _ _ _ _<|hp _<|List.getElem_mem _
  have g:∀x,ZR a (fZ a b c d e x):=fun x=>by
    unfold fZ;refine vM (Xi _ _ _ _ _ _ _ _ zq1) ?_;cases decide ((a.op:Int)=3)with
    |false=>
      rw[cond_false];exact vM (h _)<|h _
    |true=>
      simp only[cond_true];by_cases i:a.args.length=1
      · rw[dT (show((a.args.length:Int):Int)=1 by omega)];obtain⟨y,j⟩:=len_one.1 i;simp only[cond_true];rw[show idx a.args 0=some y by rw[j,idx0],Option.bind_some];exact Xi _ _ _ _ _ _ _ _ zq1
      · rw[dF (show¬((a.args.length:Int):Int)=1 by omega)];exact Xi _ _ _ _ _ _ _ _ zq1
  exact vM (g _)<|g _
def Good(a:List dm):Prop:=a.length<=4/\∀x∈a,zh x/\∀c∈x.code,c.args.length<=3
theorem headOk_zero{i:Nat}{x:dm}(h:Hf i x=0):x.params<=3/\zh x:=by
  unfold Hf at h;split at h
  · split at h
    · exact⟨by omega,by unfold zh;omega⟩
    · cases h
  · cases h
theorem V6:∀(p:List dm) (i:Nat),heads i p=0->∀x∈p,x.params<=3/\zh x
  |[],_,_,x,hx=>by cases hx
  |y::p,i,h,x,hx=>by
    unfold heads at h;split at h
    · rename_i a;exact absurd h a
    · rename_i a;rcases List.mem_cons.1 hx with rfl|hx
      · exact headOk_zero<|Decidable.not_not.1 a
      · exact V6 p (i+1) h x hx
theorem b35_tot(a:List dm)(x:dm)(k:Unit->Option Int)(hp:∀x∈a,x.params<=3)(Q:Prop)(j:∃y,k ()=some y/\(y=0->Q)):∀(l:List Ins) (i:Int),∃y,fO (jZ a x) k i l ()=some y/\(y=0->Q/\∀c∈l,c.args.length<=3)
  |[],i=>by
    obtain⟨y,e,b⟩:=j;exact⟨y,e,fun h=>⟨b h,by intro c m;cases m⟩⟩
  |c::l,i=>by
    obtain⟨y,e,b⟩:=b35_tot a x k hp Q j l<|i+1;have n:fO (jZ a x) k i (c::l) ()=jZ a x i c () (fO (jZ a x) k (i+1) l):=rfl;rw[n];unfold jZ;obtain⟨z,g1,g2⟩:=check_ins c i a x.regs (x.code.length:Int) hp;rw[g1,Option.bind_some];by_cases f:z=0
    · rw[dF V,cond_false];refine⟨y,e,fun h=>⟨(b h).1,fun d g=>?_⟩⟩;rcases List.mem_cons.1 g with rfl|g
      · exact g2 f
      · exact(b h).2 d g
    · rw[dT f,cond_true];exact⟨z,Z,fun h=>absurd h f⟩
theorem b37_tot(a:List dm)(hp:∀x∈a,x.params<=3/\zh x):∀l:List dm,(∀x∈l,x.params<=3/\zh x)->∃y,each (qP a) xm l ()=some y/\(y=0->∀x∈l,∀c∈x.code,c.args.length<=3)
  |[],_=>⟨0,rfl,fun _ x b=>by cases b⟩
  |x::l,hl=>by
    obtain⟨y,e,i⟩:=b37_tot a hp l fun z g=>hl z<|List.mem_cons_of_mem _ g;rw[jC];unfold qP;have b:=hl x zq3;obtain⟨z,g1,g2⟩:=b35_tot a x (xk x (each (qP a) xm l)) (fun x b=>(hp x b).1) (∀x∈l,∀c∈x.code,c.args.length<=3) (by
      unfold xk;have f:=b.2;unfold zh at f;rw[gI,show((x.code.length:Int)-1)=((x.code.length-1:Nat):Int) by omega,BZ V,Option.bind_some];cases (decide ((x.code[x.code.length-1].op:Int)≠8)&&decide ((x.code[x.code.length-1].op:Int)≠12))with
      |true=>exact⟨4,rfl,fun h=>absurd h zq1⟩
      |false=>exact⟨y,e,i⟩) x.code 0
    refine⟨z,g1,fun h=>?_⟩;intro w d;rcases List.mem_cons.1 d with rfl|d
    · exact(g2 h).2
    · exact(g2 h).1 w d
theorem Yt(a:List dm):∃y,qQ a=some y/\(y=0->Good a):=by
  unfold qQ;generalize e:(decide (((a.length:Int):Int)=0)||decide ((4:Int)<(a.length:Int)))=C;cases C with
  |true=>exact⟨2,rfl,fun h=>absurd h zq1⟩
  |false=>
    simp only[Bool.or_eq_false_iff,decide_eq_false_iff_not]at e;have d:fO mZ (uw a) 0 a ()=_:=V4 (uw a) a 0;rw[cond_false,d];by_cases b:heads 0 a=0
    · rw[if_neg V];have hp:=V6 a 0 b;obtain⟨y,g1,g2⟩:=b37_tot a hp a hp;exact⟨y,g1,fun h=>⟨by omega,fun x c=>⟨(hp x c).2,g2 h x c⟩⟩⟩
    · rw[if_pos b];exact⟨_,Z,fun h=>absurd h b⟩
def chk(a:List dm):Int:=(qQ a).getD 0
theorem ZT(a:List dm):qQ a=some (chk a):=by
 obtain⟨y,h,_⟩:=Yt a;unfold chk;rw[h];rfl
def SG(R x:Int):Prop:=0<=x/\x<R
def LK(a:List dm)(R L:Int)(c:Ins):Prop:=
 (c.op=1/\SG R c.a/\(-1000000000<=c.b/\c.b<=1000000000))\/
 (c.op=2/\SG R c.a/\SG R c.b)\/
 (c.op=3/\SG R c.a/\SG R c.b/\SG R c.c/\∃n,c.args=[n]/\1<=n/\n<=5)\/
 ((c.op=4\/c.op=6)/\SG R c.a/\SG R c.b/\(0<=c.c/\c.c<4))\/
 (c.op=5/\SG R c.a/\(1<=c.b/\c.b<=4))\/
 (c.op=7/\SG R c.a/\(∃p,idx a c.b=some p/\(c.args.length:Int)=p.params)/\∀x∈c.args,SG R x)\/
 ((c.op=8\/c.op=9\/c.op=11)/\SG R c.a)\/
 c.op=10\/
 (c.op=12/\(0<=c.b/\c.b<L))\/
 (c.op=13/\SG R c.a/\(0<=c.b/\c.b<L))
theorem each_b8(R:Int):∀l:List Int,each (vQ R) CS l ()=some 0->∀x∈l,SG R x
  |[],_,x,hx=>by cases hx
  |y::l,h,x,hx=>by
    rw[jC]at h;unfold vQ at h;cases e:(!(decide ((0:Int)<=y)&&decide ((y:Int)<R)))with
    |true=>rw[e,cond_true]at h;cases h
    |false=>
      rw[e,cond_false]at h;rcases List.mem_cons.1 hx with rfl|hx
      · simp at e;exact e
      · exact each_b8 R l h x hx
theorem insG_of{c:Ins}{i:Int}{a:List dm}{R L:Int}(h:ko c i a R L=some 0):LK a R L c:=by
  obtain⟨op,w,v,u,args⟩:=c;by_cases k:op=1
  · subst k;simp[ko,fq,gF,iY,jA,iN,dU,gY,fZ,fV,fJ,Bool.cond_eq_ite]at h;simp[LK,SG]
    (repeat (split at h;·simp at h))
    omega
  by_cases s:op=2
  · subst s;simp[ko,fq,gF,iY,jA,iN,dU,gY,fZ,fV,fJ,Bool.cond_eq_ite]at h;simp[LK,SG]
    (repeat (split at h;·simp at h))
    omega
  by_cases g:op=3
  · subst g;simp[ko,fq,gF,iY,jA,iN,dU,gY,fZ,fV,fJ,Bool.cond_eq_ite]at h;simp[LK,SG];by_cases t:args.length=1
    · obtain⟨y,rfl⟩:=len_one.1 t;simp[idx0]at h;split at h
      · simp at h
      split at h
      · simp at h
      refine⟨by omega,by omega,by omega,y,Z,by omega,by omega⟩
    · exfalso;rw[if_neg (show¬((args.length:Int)=1) by omega)]at h;split at h<;>simp at h
  by_cases m:op=4
  · subst m;simp[ko,fq,gF,iY,jA,iN,dU,gY,fZ,fV,fJ,Bool.cond_eq_ite]at h;simp[LK,SG]
    (repeat (split at h;·simp at h))
    omega
  by_cases j:op=5
  · subst j;simp[ko,fq,gF,iY,jA,iN,dU,gY,fZ,fV,fJ,Bool.cond_eq_ite]at h;simp[LK,SG]
    (repeat (split at h;·simp at h))
    omega
  by_cases n:op=6
  · subst n;simp[ko,fq,gF,iY,jA,iN,dU,gY,fZ,fV,fJ,Bool.cond_eq_ite]at h;simp[LK,SG]
    (repeat (split at h;·simp at h))
    omega
  by_cases r:op=7
  · subst r;simp[ko,fq,gF,iY,jA,iN,dU,gY,fZ,fV,fJ,Bool.cond_eq_ite]at h;simp[LK,SG];split at h
    · simp at h
    split at h
    · simp at h
    obtain⟨p,hp,h⟩:=az h
    (repeat (split at h;·simp at h))
    refine⟨by omega,⟨p,hp,by omega⟩,fun x l=>each_b8 R args h x l⟩
  by_cases o:op=8
  · subst o;simp[ko,fq,gF,iY,jA,iN,dU,gY,fZ,fV,fJ,Bool.cond_eq_ite]at h;simp[LK,SG]
    (repeat (split at h;·simp at h))
    omega
  by_cases q:op=9
  · subst q;simp[ko,fq,gF,iY,jA,iN,dU,gY,fZ,fV,fJ,Bool.cond_eq_ite]at h;simp[LK,SG]
    (repeat (split at h;·simp at h))
    omega
  by_cases d:op=10
  · subst d;simp[LK,SG]
  by_cases e:op=11
  · subst e;simp[ko,fq,gF,iY,jA,iN,dU,gY,fZ,fV,fJ,Bool.cond_eq_ite]at h;simp[LK,SG]
    (repeat (split at h;·simp at h))
    omega
  by_cases b:op=12
  · subst b;simp[ko,fq,gF,iY,jA,iN,dU,gY,fZ,fV,fJ,Bool.cond_eq_ite]at h;simp[LK,SG]
    (repeat (split at h;·simp at h))
    omega
  by_cases f:op=13
  · subst f;simp[ko,fq,gF,iY,jA,iN,dU,gY,fZ,fV,fJ,Bool.cond_eq_ite]at h;simp[LK,SG]
    (repeat (split at h;·simp at h))
    omega
  · exfalso;simp[ko,fq,gF,iY,jA,iN,dU,gY,fZ,fV,fJ,Bool.cond_eq_ite, *]at h
structure V7(a:List dm):Prop where
 many:1<=a.length/\a.length<=4
 head:∀(i:Nat) x,a[i]? =some x->(0<=x.params/\x.params<=3)/\(1<=x.regs/\x.params<=x.regs/\x.regs<=40)/\¬(i=0/\x.params≠0)/\zh x
 last:∀x∈a,∃c,idx x.code ((x.code.length:Int)-1)=some c/\(c.op=8\/c.op=12)
 ins:∀x∈a,∀c∈x.code,LK a x.regs x.code.length c
theorem Yu:∀(p:List dm) (j:Nat),heads j p=0->∀(i:Nat) x,p[i]? =some x->Hf (j+i) x=0
  |[],j,_,i,x,hx=>by simp at hx
  |y::p,j,h,i,x,hx=>by
    unfold heads at h;split at h
    · rename_i a;exact absurd h a
    · rename_i a;cases i with
      |zero=>simp at hx;subst hx;exact Decidable.not_not.1 a
      |succ i=>rw[show j+(i+1)=(j+1)+i by omega];exact Yu p (j+1) h i x (by simpa using hx)
theorem b35_ins(a:List dm)(x:dm)(k:Unit->Option Int):∀(l:List Ins) (i:Int),fO (jZ a x) k i l ()=some 0->k ()=some 0/\∀c∈l,LK a x.regs x.code.length c
  |[],i,h=>⟨h,fun c b=>by cases b⟩
  |y::l,i,h=>by
    have f:fO (jZ a x) k i (y::l) ()=jZ a x i y () (fO (jZ a x) k (i+1) l):=rfl;rw[f]at h;unfold jZ at h;obtain⟨z,e,h⟩:=az h;by_cases d:z=0
    · subst d;rw[dF zq3,cond_false]at h;obtain⟨g,j⟩:=b35_ins a x k l (i+1) h;refine⟨g,fun c b=>?_⟩;rcases List.mem_cons.1 b with rfl|b
      · exact insG_of e
      · exact j c b
    · rw[dT d,cond_true]at h;exact absurd (osi h) d
theorem b37_ins(a:List dm):∀l:List dm,each (qP a) xm l ()=some 0->∀x∈l,(∃c,idx x.code ((x.code.length:Int)-1)=some c/\(c.op=8\/c.op=12))/\∀c∈x.code,LK a x.regs x.code.length c
  |[],_,x,hx=>by cases hx
  |y::l,h,x,hx=>by
    rw[jC]at h;unfold qP at h;obtain⟨b,f⟩:=b35_ins a y _ y.code 0 h;unfold xk at b;obtain⟨_,b⟩:=bC b;obtain⟨c,d,b⟩:=az b;cases e:(decide ((c.op:Int)≠8)&&decide ((c.op:Int)≠12))with
    |true=>rw[e,cond_true]at b;cases b
    |false=>
      rw[e,cond_false]at b;rcases List.mem_cons.1 hx with rfl|hx
      · exact⟨⟨c,d,by simp only[Bool.and_eq_false_iff,decide_eq_false_iff_not,Decidable.not_not]at e;exact e⟩,f⟩
      · exact b37_ins a l b x hx
theorem chk_code{a:List dm}(h:chk a=0):V7 a:=by
  have b:=ZT a;rw[h]at b;unfold qQ at b;generalize j:(decide (((a.length:Int):Int)=0)||decide ((4:Int)<(a.length:Int)))=C at b;cases C with
  |true=>cases b
  |false=>
    simp only[Bool.or_eq_false_iff,decide_eq_false_iff_not]at j;have f:fO mZ (uw a) 0 a ()=_:=V4 (uw a) a 0;rw[cond_false,f]at b;by_cases d:heads 0 a=0
    · rw[if_neg V]at b;have e:=b37_ins a a b;refine⟨by omega,fun i x c=>?_,fun x c=>(e x c).1,fun x c=>(e x c).2⟩;have:=Yu a 0 d i x c;rw[Nat.zero_add]at this;unfold Hf at this;split at this
      · rename_i g;split at this
        · rename_i g2;exact⟨g.1,g.2.1,g.2.2,g2⟩
        · cases this
      · cases this
    · rw[if_pos d]at b;exact absurd (osi b) d
theorem zl{α σ ρ:Type}{body:Int->α->σ->(σ->ρ)->ρ}{k:σ->ρ}(i:Int)(x:α)(l:List α)(s:σ):fO body k i (x::l) s=body i x s (fO body k (i+1) l):=rfl
theorem Yv{σ ρ:Type}{body:Int->σ->(σ->ρ)->ρ}{k:σ->ρ}(i:Int)(m:Nat)(s:σ):upto body k i (m+1) s=body i s (upto body k (i+1) m):=rfl
theorem JW{σ β:Type}{body:σ->(σ->Option β)->Option β}{m:Nat}{s:σ}:again body (m+1) s=body s (again body m):=rfl
def yP(n:Nat)(v:Val):Prop:=(v.kind=0/\v.n=0)\/(v.kind=1/\ -1000000000<=v.n/\v.n<=1000000000)\/(v.kind=2/\0<=v.n/\v.n<n)
instance (n:Nat) (v:Val):Decidable (yP n v):=inferInstanceAs (Decidable (_\/_))
theorem yQ(n:Nat)(v:Val):iP v (n:Int)=0↔yP n v:=by
  obtain⟨k,m⟩:=v;simp only[iP,yP,Bool.cond_eq_ite,Bool.or_eq_true,decide_eq_true_eq];constructor
  · intro h
    (repeat' split at h)<;>first|omega|(exfalso;omega)
  · intro h;rcases h with⟨h1,h2⟩|⟨h1,h2⟩|⟨h1,h2⟩
    · rw[if_pos h1,if_neg V]
    · rw[if_neg V,if_pos h1,if_neg V]
    · rw[if_neg V,if_neg V,if_pos h1,if_neg V]
theorem value_eq(v:Val)(n:Int):gG v n=iP v n:=by
 obtain⟨k,m⟩:=v;simp only[iP,gG,rX,bu,jG,bD,Bool.cond_eq_ite,Bool.or_eq_true,Bool.and_eq_true,Bool.not_eq_true',decide_eq_true_eq,decide_eq_false_iff_not,Bool.and_eq_false_iff]
 (repeat' split)<;>first|rfl|(exfalso;omega)
def zi(l:List (List Val)):Prop:=l.length<=24/\∀c∈l,(1<=c.length/\c.length<=4)/\∀v∈c,yP l.length v
theorem cells_eq(a:List (List Val)):qc a=lQ a:=by
 unfold qc lQ;have k1:∀(l:List Val) (f:Unit->Int),each (nu a) (ny f) l ()=each (lH a) (kv f) l ():=by
  intro l f;induction l with
  |nil=>rfl
  |cons x l ih=>
   show(bif decide ((gG x (a.length:Int):Int)≠0)then gG x (a.length:Int)else each (nu a) (ny f) l ())=(bif decide ((iP x (a.length:Int):Int)≠0)then iP x (a.length:Int)else each (lH a) (kv f) l ());rw[value_eq,ih]
 have k2:∀l:List (List Val),each (nz a) nA l ()=each (ng a) lI l ():=by
  intro l;induction l with
  |nil=>rfl
  |cons x l ih=>
   show(bif (!(bu (x.length:Int) 1 4))then 2 else each (nu a) (ny<|each (nz a) nA l) x ())=(bif (decide (((x.length:Int):Int)=0)||decide ((4:Int)<(x.length:Int)))then 2 else each (lH a) (kv<|each (ng a) lI l) x ());have e:(!(bu (x.length:Int) 1 4))=(decide (((x.length:Int):Int)=0)||decide ((4:Int)<(x.length:Int))):=by
    unfold bu;rw[Bool.eq_iff_iff];simp only[Bool.or_eq_true,Bool.not_eq_true',Bool.and_eq_false_iff,decide_eq_true_eq,decide_eq_false_iff_not];omega
   rw[e,k1];have:each (nz a) nA l=each (ng a) lI l:=by funext u;exact ih
   rw[this]
 rw[k2]
theorem all_ok(a:List (List Val)):lQ a=0↔zi a:=by
  have k1:∀(l:List Val) (f:Unit->Int),each (lH a) (kv f) l ()=0↔(∀v∈l,yP a.length v)/\f ()=0:=by
    intro l f;induction l with
    |nil=>simp[vw,kv]
    |cons x l ih=>
      show(bif decide ((iP x (a.length:Int):Int)≠0)then iP x (a.length:Int)else each (lH a) (kv f) l ())=0↔_;by_cases h:iP x (a.length:Int)=0
      · rw[dF V,cond_false,ih];have:=(yQ _ _).1 h;simp[this]
      · rw[dT h,cond_true];have b:¬yP a.length x:=fun e=>h ((yQ _ _).2 e);simp[h,b]
  have k2:∀l:List (List Val),each (ng a) lI l ()=0↔∀c∈l,(1<=c.length/\c.length<=4)/\∀v∈c,yP a.length v:=by
    intro l;induction l with
    |nil=>simp[vw,lI]
    |cons x l ih=>
      show(bif (decide (((x.length:Int):Int)=0)||decide ((4:Int)<(x.length:Int)))then 2 else each (lH a) (kv<|each (ng a) lI l) x ())=0↔_;by_cases h:1<=x.length/\x.length<=4
      · rw[show(decide (((x.length:Int):Int)=0)||decide ((4:Int)<(x.length:Int)))=false by simp only[Bool.or_eq_false_iff,decide_eq_false_iff_not];omega,cond_false,k1,ih];simp[h]
      · rw[show(decide (((x.length:Int):Int)=0)||decide ((4:Int)<(x.length:Int)))=true by simp only[Bool.or_eq_true,decide_eq_true_eq];omega,cond_true];simp[h]
  unfold lQ zi;by_cases h:a.length<=24
  · rw[dF V,cond_false,k2];simp[h]
  · rw[dT V,cond_true];simp[h]
structure FrOk(a:List dm)(n:Nat)(f:LX.Frame)(x:dm):Prop where
 proc:idx a f.proc=some x
 at_:0<=f.at_/\f.at_<x.code.length
 regs:(f.regs.length:Int)=x.regs
 vals:∀v∈f.regs,yP n v
def BC(a:List dm)(n:Nat):Int->List LX.Frame->Prop
 |_,[]=>True
 |ahead,f::l=>(∃x,FrOk a n f x)/\(0<=f.mH/\f.mH<ahead)/\BC a n f.regs.length l
structure StOk(a:List dm)(s:LX.State):Prop where
 status:0<=s.status/\s.status<=3
 cu: -1000000000<=s.cu/\s.cu<=1000000000
 stay:s.status≠3->s.cu=0
 ended:s.status=1↔s.frames=[]
 many:s.frames.length<=10
 cells:zi s.cells
 frames:BC a s.cells.length 1 s.frames
def ahead(pre:List LX.Frame):Int:=match pre.getLast? with|none=>1|some f=>f.regs.length
theorem Yw:ahead []=1:=rfl
theorem V8(pre:List LX.Frame)(f:LX.Frame):ahead (pre++[f])=f.regs.length:=by simp[ahead]
theorem SI(b:LX.State)(f:LX.Frame)(c:Unit->Option Int)(a:Int->Option Int)(hn:c ()=a f.regs.length):∀l:List Val,each (uZ b) (vg c) l ()=each (ru b) (ry a f) l ()
 |[]=>hn
 |x::l=>by
  show(bif decide ((iP x (b.cells.length:Int):Int)≠0)then some (iP x (b.cells.length:Int))else each (uZ b) (vg c) l ())=(bif decide ((gG x (b.cells.length:Int):Int)≠0)then some (gG x (b.cells.length:Int))else each (ru b) (ry a f) l ());rw[value_eq,SI b f c a hn l]
theorem vals_tot(b:LX.State)(a:Unit->Option Int)(Q:Prop)(hn:∃y,a ()=some y/\(y=0↔Q)):∀l:List Val,∃y,each (uZ b) (vg a) l ()=some y/\(y=0↔(∀v∈l,yP b.cells.length v)/\Q)
  |[]=>by obtain⟨y,c,d⟩:=hn;exact⟨y,c,by simp[d]⟩
  |x::l=>by
    obtain⟨y,c,d⟩:=vals_tot b a Q hn l;have e:each (uZ b) (vg a) (x::l) ()=(bif decide ((iP x (b.cells.length:Int):Int)≠0)then some (iP x (b.cells.length:Int))else each (uZ b) (vg a) l ()):=rfl;rw[e];by_cases h:iP x (b.cells.length:Int)=0
    · rw[dF V,cond_false];have:=(yQ _ _).1 h;exact⟨y,c,by rw[d];simp[this]⟩
    · rw[dT h,cond_true];refine⟨_,Z,?_⟩;have f:¬yP b.cells.length x:=fun e=>h ((yQ _ _).2 e);simp[h,f]
theorem Tw(a:List dm)(b:LX.State)(k:b.frames.length<=10):∀(l pre:List LX.Frame),b.frames=pre++l->
    fO (Bf a b) EB (pre.length:Int) l ()=each (iL a b) kU l (ahead pre)
  |[],pre,h=>rfl
  |f::l,pre,h=>by
    have d:=Tw a b k l (pre++[f]) (by simpa using h);rw[V8]at d;have n:(((pre++[f]).length:Nat):Int)=(pre.length:Int)+1:=by simp
    rw[n]at d;rw[zl,jC];generalize fO (Bf a b) EB ((pre.length:Int)+1) l=K1 at d⊢;generalize each (iL a b) kU l=K2 at d⊢;unfold Bf iL;have o:pre.length<=10:=by have:=congrArg List.length h;simp at this;omega
    have m:(decide ((f.proc:Int)<0)||decide (((a.length:Int):Int)<=f.proc))= !bD f.proc (a.length:Int):=Qp _ _;rw[m];cases hp:bD f.proc (a.length:Int)with
    |false=>rfl
    |true=>
      simp only[Bool.not_true,cond_false];cases hx:idx a f.proc with
      |none=>rfl
      |some x=>
        simp only[bnd];cases ha:bD f.at_ (x.code.length:Int)with
        |false=>
          rw[show(((decide ((f.at_:Int)<0)||decide (((x.code.length:Int):Int)<=f.at_))||decide ((f.mH:Int)<0))||(decide ((pre.length:Int)=0)&&decide ((f.mH:Int)≠0)))=true by
            have:=Qp f.at_ (x.code.length:Int);rw[ha]at this;rw[this];rfl]
          rfl
        |true=>
          have j:=Qp f.at_ (x.code.length:Int);rw[ha]at j;rw[j];simp only[Bool.not_true,Bool.false_or,cond_false];have i:∀t,xW f x b K1 t=jL a f b K2 t:=by
            intro t;unfold xW jL;rw[hx,bnd,SI b f _ _ d]
          simp only[i];rcases List.eq_nil_or_concat pre with rfl|⟨q,g,rfl⟩
          · rw[Yw];by_cases c:f.mH=0
            · rw[show(decide ((f.mH:Int)<0)||(decide ((([]:List LX.Frame).length:Int)=0)&&decide ((f.mH:Int)≠0)))=false by simp[c],cond_false,dF zq3,cond_false,show(!bD f.mH 1)=false by simp[c,bD]]
            · rw[show(decide ((f.mH:Int)<0)||(decide ((([]:List LX.Frame).length:Int)=0)&&decide ((f.mH:Int)≠0)))=true by simp[c],cond_true,show(!bD f.mH 1)=true by simp[bD];omega]
          · rw[List.concat_eq_append]at*;rw[V8];have e:((q++[g]).length:Int)=(q.length:Int)+1:=by simp
            rw[e,show(decide ((q.length:Int)+1=0))=false from dF V,Bool.false_and,Bool.or_false];by_cases c:f.mH<0
            · rw[dT c,cond_true,show(!bD f.mH (g.regs.length:Int))=true by simp[bD];omega]
            · rw[dF c,cond_false,dT V,cond_true,gI V (by simp at o;omega),show(q.length:Int)+1-1=((q.length:Nat):Int) by omega,lF,h];simp only[List.append_assoc,List.getElem?_append_right (Nat.le_refl _),Nat.sub_self,List.cons_append,List.nil_append,List.getElem?_cons_zero,bnd];congr 1;rw[Bool.eq_iff_iff];simp[bD];omega
theorem V9(a:List dm)(b:LX.State):Fu a b=vk a b:=by
  unfold Fu vk;have g:(((decide ((b.status:Int)<0)||decide ((3:Int)<b.status))||decide ((b.cu:Int)< -1000000000))||decide ((1000000000:Int)<b.cu))=((!(bu b.status 0 3))||(!(jG b.cu))):=by
    unfold jG bu;rw[Bool.eq_iff_iff];simp only[Bool.or_eq_true,Bool.not_eq_true',Bool.and_eq_false_iff,decide_eq_true_eq,decide_eq_false_iff_not];omega
  have e:((decide ((b.status:Int)≠3)&&decide ((b.cu:Int)≠0))||(decide ((b.status:Int)=1) !=decide (((b.frames.length:Int):Int)=0)))=(((decide ((b.cu:Int)≠0)&&decide ((b.status:Int)≠3))||(decide ((b.status:Int)=1)&&decide ((0:Int)<(b.frames.length:Int))))||(decide ((b.status:Int)≠1)&&decide (((b.frames.length:Int):Int)=0))):=by
    by_cases c:b.status=1<;>by_cases i:b.frames.length=0<;>by_cases f:b.status=3<;>by_cases d:b.cu=0<;>simp[c,i,f,d]<;>omega
  rw[g,e,cells_eq];by_cases h:b.frames.length<=10
  · have:=Tw a b h b.frames [] Z;rw[Yw]at this;rw[<-this];rfl
  · rw[show(decide ((10:Int)<(b.frames.length:Int)))=true from dT V];rfl
theorem Wd(a:List dm)(b:LX.State):∀(l:List LX.Frame) (t:Int),∃y,each (iL a b) kU l t=some y/\(y=0↔BC a b.cells.length t l)
  |[],t=>⟨0,rfl,by simp[BC]⟩
  |f::l,t=>by
    obtain⟨y,e,k⟩:=Wd a b l f.regs.length;rw[jC];generalize each (iL a b) kU l=K2 at e⊢;unfold iL;cases hp:bD f.proc (a.length:Int)with
    |false=>
      refine⟨5,Z,?_⟩;have:¬BC a b.cells.length t (f::l):=by
        rintro⟨⟨x,g⟩,-,-⟩;have:=aF g.proc;have j:=(List.getElem?_eq_some_iff.1 this.2).1;unfold bD at hp;simp only[Bool.and_eq_false_iff,decide_eq_false_iff_not]at hp;omega
      simp[this]
    |true=>
      unfold bD at hp;simp only[Bool.and_eq_true,decide_eq_true_eq]at hp;simp only[Bool.not_true,cond_false];obtain⟨n,hn⟩:=Int.eq_ofNat_of_zero_le hp.1;have d:idx a f.proc=some (a[n]'V):=by rw[hn,BZ V]
      generalize a[n]'V=x at d;rw[d,bnd];have kB:∃y,jL a f b K2 true=some y/\y≠0:=⟨3,Z,by decide⟩;have c:∀z,FrOk a b.cells.length f z->z=x:=fun z g=>by have:=g.proc;rw[d]at this;exact(osi this).symm
      cases ha:bD f.at_ (x.code.length:Int)with
      |false=>
        obtain⟨y,g1,g2⟩:=kB;refine⟨y,g1,?_⟩;have:¬BC a b.cells.length t (f::l):=by
          rintro⟨⟨z,g⟩,-,-⟩;have:=c z g;subst this;have:=g.at_;unfold bD at ha;simp only[Bool.and_eq_false_iff,decide_eq_false_iff_not]at ha;omega
        simp[this,g2]
      |true=>
        simp only[Bool.not_true,cond_false];cases ht:bD f.mH t with
        |false=>
          obtain⟨y,g1,g2⟩:=kB;refine⟨y,g1,?_⟩;have:¬BC a b.cells.length t (f::l):=by
            rintro⟨⟨z,g⟩,j,-⟩;unfold bD at ht;simp only[Bool.and_eq_false_iff,decide_eq_false_iff_not]at ht;omega
          simp[this,g2]
        |true=>
          simp only[Bool.not_true];unfold jL;rw[d,cond_false,bnd];unfold bD at ha ht;simp only[Bool.and_eq_true,decide_eq_true_eq]at ha ht;by_cases i:(f.regs.length:Int)=x.regs
          · rw[dF V,cond_false,<-SI b f (fun _=>K2 f.regs.length) _ rfl];obtain⟨z,g1,g2⟩:=vals_tot b (fun _=>K2 f.regs.length) _ ⟨y,e,k⟩ f.regs;refine⟨z,g1,g2.trans ⟨fun h=>⟨⟨x,d,ha,i,h.1⟩,ht,h.2⟩,?_⟩⟩;rintro⟨⟨z,g⟩,j,m⟩;exact⟨g.vals,m⟩
          · rw[dT V,cond_true];refine⟨4,Z,?_⟩;have:¬BC a b.cells.length t (f::l):=by
              rintro⟨⟨z,g⟩,-,-⟩;have:=c z g;subst this;exact i g.regs
            simp[this]
theorem We(a:List dm)(b:LX.State):∃y,Fu a b=some y/\(y=0↔StOk a b):=by
  rw[V9];unfold vk;cases c1:((!(bu b.status 0 3))||(!(jG b.cu)))with
  |true=>
    refine⟨3,Z,⟨fun h=>absurd h zq1,fun h=>?_⟩⟩;unfold jG bu at c1;simp only[Bool.or_eq_true,Bool.not_eq_true',Bool.and_eq_false_iff,decide_eq_false_iff_not]at c1;have:=h.status;have:=h.cu;omega
  |false=>
    unfold jG bu at c1;simp only[Bool.or_eq_false_iff,Bool.not_eq_false',Bool.and_eq_true,decide_eq_true_eq]at c1;rw[cond_false];cases c2:(((decide ((b.cu:Int)≠0)&&decide ((b.status:Int)≠3))||(decide ((b.status:Int)=1)&&decide ((0:Int)<(b.frames.length:Int))))||(decide ((b.status:Int)≠1)&&decide (((b.frames.length:Int):Int)=0)))with
    |true=>
      refine⟨4,Z,⟨fun h=>absurd h zq1,fun h=>?_⟩⟩;simp only[Bool.or_eq_true,Bool.and_eq_true,decide_eq_true_eq]at c2;rcases c2 with(c2|c2)|c2
      · exact absurd (h.stay c2.2) c2.1
      · have:=h.ended.1 c2.1;rw[this]at c2;simp at c2
      · exact absurd (h.ended.2<|List.eq_nil_of_length_eq_zero V) c2.1
    |false=>
      simp only[Bool.or_eq_false_iff,Bool.and_eq_false_iff,decide_eq_false_iff_not]at c2;rw[cond_false];by_cases e:b.frames.length<=10
      · rw[dF V,cond_false,cells_eq];by_cases c:lQ b.cells=0
        · rw[dF V,cond_false];obtain⟨y,f,g⟩:=Wd a b b.frames 1;refine⟨y,f,g.trans ⟨fun h=>⟨by omega,by omega,fun d=>by omega,⟨fun d=>?_,fun d=>?_⟩,e,(all_ok _).1 c,h⟩,fun h=>h.frames⟩⟩
          · exact List.eq_nil_of_length_eq_zero V
          · rw[d]at c2;simp at c2;omega
        · rw[dT c,cond_true];exact⟨_,Z,⟨fun h=>absurd h c,fun h=>absurd ((all_ok _).2 h.cells) c⟩⟩
      · rw[dT V,cond_true];exact⟨2,Z,⟨fun h=>absurd h zq1,fun h=>absurd h.many e⟩⟩
def ckS(a:List dm)(s:LX.State):Int:=(Fu a s).getD 0
theorem ckS_eq(a:List dm)(s:LX.State):Fu a s=some (ckS a s):=by obtain⟨y,h,-⟩:=We a s;unfold ckS;rw[h];rfl
theorem ckS_ok{a:List dm}{s:LX.State}:ckS a s=0↔StOk a s:=by obtain⟨y,h,b⟩:=We a s;unfold ckS;rw[h];exact b
theorem vm_Check_eq(a:List dm)(s:LX.State):Dy a s=some (if chk a≠0 then chk a else ckS a s):=by
  unfold Dy;rw[ZT,bnd];by_cases h:chk a=0
  · rw[dF V,cond_false,ckS_eq,bnd,if_neg V]
  · rw[dT h,cond_true,if_pos h]
theorem eqVals(a b:List Val):om a b=some (decide (a=b)):=by
  unfold om;by_cases h:a.length=b.length
  · rw[dF V];simp only[cond_false,Int.toNat_natCast];rw[L6 (fun x y=>decide (x=y)) a b h rfl (fun i x y j c g=>by
      unfold wB;rw[lF,lF,c,g];obtain⟨k,n⟩:=x;obtain⟨k2,f⟩:=y;by_cases e:k=k2<;>by_cases d:n=f<;>simp[e,d]),Aj (fun _ _=>rfl)]
  · rw[dT V];have:a≠b:=fun e=>h (by rw[e]);rw[dF this];rfl
theorem eqCells(a b:List (List Val)):Ml a b=some (decide (a=b)):=by
  unfold Ml;by_cases h:a.length=b.length
  · rw[dF V,cond_false,Jg (fun x y=>decide (x=y)) a b h rfl (fun i x y d c=>by
      unfold JJ;rw[lF,c,bnd,eqVals,bnd];by_cases e:x=y<;>simp[e]),Aj (fun _ _=>rfl)]
  · rw[dT V];have:a≠b:=fun e=>h (by rw[e]);rw[dF this];rfl
theorem fr_eq(x y:LX.Frame)(b:Unit->Option Bool):(bif ((decide ((x.proc:Int)=y.proc)&&decide ((x.at_:Int)=y.at_))&&decide ((x.mH:Int)=y.mH))then(om x.regs y.regs).bind fun a=>zU b (!a)else zU b true)=bif decide (x=y)then b ()else some false:=by
 obtain⟨p,t,r,o⟩:=x;obtain⟨i,e,d,o2⟩:=y;simp only[eqVals,bnd,zU];by_cases h:p=i<;>by_cases f:t=e<;>by_cases c:r=d<;>by_cases g:o=o2<;>simp[h,f,c,g]
theorem st_eq(a b:LX.State):decide (a=b)=((decide (a.status=b.status)&&decide (a.cu=b.cu))&&(decide (a.cells=b.cells)&&decide (a.frames=b.frames))):=by
 obtain⟨f,c,s,w⟩:=a;obtain⟨d,c2,e,g⟩:=b;rw[Bool.eq_iff_iff];simp;constructor<;>(intro h;simp[h])
theorem eqState(a b:LX.State):PQ a b=some (decide (a=b)):=by
  rw[st_eq];unfold PQ;cases (decide ((a.status:Int)=b.status)&&decide ((a.cu:Int)=b.cu))with
  |false=>rfl
  |true=>
    rw[cond_true,eqCells,bnd];cases decide (a.cells=b.cells)with
    |false=>rfl
    |true=>
      rw[cond_true];by_cases h:a.frames.length=b.frames.length
      · rw[dF V,cond_false,Jg (fun x y=>decide (x=y)) a.frames b.frames h rfl (fun i x y c d=>by
          unfold KX;rw[lF,d,bnd];exact fr_eq x y c),Aj (fun _ _=>rfl)];rfl
      · rw[dT V];have:a.frames≠b.frames:=fun e=>h (by rw[e]);rw[dF this];rfl
structure Small(s:LX.State):Prop where
 frames:s.frames.length<=10
 regs:∀f∈s.frames,f.regs.length<=40
 cells:s.cells.length<=24
 fields:∀c∈s.cells,c.length<=4
theorem JX{a:List dm}{n:Nat}:∀{l:List LX.Frame} {t:Int},BC a n t l->∀f∈l,∃x,FrOk a n f x
  |[],_,_,f,hf=>by cases hf
  |g::l,t,h,f,hf=>by
    rcases List.mem_cons.1 hf with rfl|hf
    · exact h.1
    · exact JX h.2.2 f hf
theorem V7.mem{a:List dm}(h:V7 a){k:Int}{x:dm}(c:idx a k=some x):x∈a/\(0<=x.params/\x.params<=3)/\(1<=x.regs/\x.params<=x.regs/\x.regs<=40)/\zh x:=by
 have b:=(aF c).2;have:=h.head _ x b;exact⟨List.mem_of_getElem? b,this.1,this.2.1,this.2.2.2⟩
theorem StOk.small{a:List dm}{s:LX.State}(h:StOk a s)(ha:V7 a):Small s where
 frames:=h.many
 regs f hf:=by
  obtain⟨x,g⟩:=JX h.frames f hf;have:=(ha.mem g.proc).2.2.1;have:=g.regs;omega
 cells:=h.cells.1
 fields c hc:=(h.cells.2 c hc).1.2
theorem Qq{α:Type}{b:Nat}{a:List α}(h:a.length<=400)(c:b<=48):clone b a=some a:=by
 have:a.length*b<=400*48:=Nat.mul_le_mul h c;unfold clone;exact uL ⟨by simp;omega,by simp;omega⟩
theorem SK{ρ:Type}{body:Int->Unit->(Unit->ρ)->ρ}{k:Unit->ρ}:∀(m:Nat) (i:Nat),(∀j:Nat,i<=j->j<i+m->∀a,body (j:Int) () a=a ())->upto body k (i:Int) m ()=k ()
 |0,i,_=>rfl
 |m+1,i,h=>by
  rw[Yv,h i (Nat.le_refl _) V,show((i:Int)+1)=((i+1:Nat):Int) by omega];exact SK m (i+1) fun j b c=>h j V V
theorem cellCopy_eq{l:List (List Val)}(h:l.length<=24)(a:∀c∈l,c.length<=4):Mi l=some l:=by
 unfold Mi;rw[Qq V zq1,bnd,Int.toNat_natCast];exact SK (k:=JE l) l.length 0 (fun j b e d=>by
  unfold JD;rw[BZ V,bnd,Qq (by have:=a _ (List.getElem_mem (by omega:j<l.length));omega) zq1,bnd])
theorem copy_eq{s:LX.State}(h:Small s):JF s=some s:=by
 unfold JF;rw[Qq (by have:=h.frames;omega) zq1,bnd,cellCopy_eq h.cells h.fields,bnd];unfold NH;rw[Int.toNat_natCast];exact SK (k:=NG s s.cells) s.frames.length 0 (fun j a c b=>by
  unfold NF;rw[BZ V,bnd,Qq (by have:=h.regs _ (List.getElem_mem (by omega:j<s.frames.length));omega) zq1,bnd])
theorem room_le{α:Type}{a:Nat}{l m:List α}(h:l.length+m.length<=100000)(b:a<=48):Room a l m:=by
 have:(l.length+m.length)*a<=100000*48:=Nat.mul_le_mul h b;exact⟨by omega,by omega⟩
def Xj(l:List Int)(v:Val):List Int:=if v.kind=2/\v.n∉l then l++[v.n]else l
def Wh(l:List Int)(vs:List Val):List Int:=vs.foldl Xj l
def cellAt(cells:List (List Val))(k:Int):List Val:=(idx cells k).getD []
def bfs(cells:List (List Val)):Nat->Nat->List Int->List Int
 |0,_,l=>l
 |m+1,k,l=>if h:k<l.length then bfs cells m (k+1) (Wh l (cellAt cells l[k]))else l
def OL(cells:List (List Val))(vs:List Val):List Int:=bfs cells 25 0 (Wh [] vs)
theorem Yx(l:List Int)(v:Val)(vs:List Val):Wh l (v::vs)=Wh (Xj l v) vs:=rfl
theorem metV_pre(l:List Int)(v:Val):l<+:Xj l v:=by
  unfold Xj;split
  · exact List.prefix_append _ _
  · exact List.prefix_refl _
theorem LM:∀(vs:List Val) (l:List Int),l<+:Wh l vs
 |[],l=>List.prefix_refl _
 |v::vs,l=>(metV_pre l v).trans (LM vs _)
theorem bfs_pre(cells:List (List Val)):∀(m k:Nat) (l:List Int),l<+:bfs cells m k l
  |0,_,l=>List.prefix_refl _
  |m+1,k,l=>by
    unfold bfs;split
    · exact(LM _ _).trans<|bfs_pre cells m _ _
    · exact List.prefix_refl _
theorem Yy:∀(n:Nat) (l:List Int),l.Nodup->(∀x∈l,0<=x/\x<n)->l.length<=n
  |0,l,_,h=>by
    cases l with
    |nil=>simp
    |cons x l=>have:=h x zq3;omega
  |n+1,l,hn,h=>by
    have c:=Yy n (l.erase (n:Int)) (hn.erase _) (fun x b=>by
      have a:=(hn.mem_erase_iff).1 b;have:=h x a.2;have e:=a.1;constructor
      · omega
      · push_cast at this;omega)
    have d:l.length<=(l.erase (n:Int)).length+1:=by rw[List.length_erase];split<;>omega
    omega
def wG(n:Nat)(l:List Int):Prop:=l.Nodup/\∀x∈l,0<=x/\x<n
theorem wG.len{n:Nat}{l:List Int}(h:wG n l):l.length<=n:=Yy n l h.1 h.2
theorem wG.nil{n:Nat}:wG n []:=⟨List.nodup_nil,fun x a=>by cases a⟩
theorem yP.ref{n:Nat}{v:Val}(h:yP n v)(a:v.kind=2):0<=v.n/\v.n<n:=by unfold yP at h;omega
theorem wG.v{n:Nat}{l:List Int}(h:wG n l){v:Val}(i:yP n v):wG n (Xj l v):=by
  unfold Xj;split
  · rename_i d;refine⟨List.nodup_append.2 ⟨h.1,by simp,fun a g b f=>?_⟩,fun x c=>?_⟩
    · simp at f;subst f;intro e;subst e;exact d.2 g
    · rcases List.mem_append.1 c with c|c
      · exact h.2 x c
      · simp at c;subst c;exact i.ref d.1
  · exact h
theorem wG.l{n:Nat}:∀{vs:List Val} {l:List Int},wG n l->(∀v∈vs,yP n v)->wG n (Wh l vs)
 |[],l,h,_=>h
 |v::vs,l,h,hv=>wG.l (vs:=vs) (l:=Xj l v) (h.v (hv v zq3)) (fun w a=>hv w (List.mem_cons_of_mem _ a))
theorem OM{cells:List (List Val)}{k:Int}(h:0<=k/\k<cells.length):idx cells k=some (cellAt cells k)/\cellAt cells k∈cells:=by
 obtain⟨n,rfl⟩:=Int.eq_ofNat_of_zero_le h.1;unfold cellAt;rw[BZ V];exact⟨Z,List.getElem_mem _⟩
theorem zi.at{cells:List (List Val)}(h:zi cells){k:Int}(a:0<=k/\k<cells.length):(1<=(cellAt cells k).length/\(cellAt cells k).length<=4)/\∀v∈cellAt cells k,yP cells.length v:=h.2 _ (OM a).2
theorem wG.bfs{cells:List (List Val)}(a:zi cells):∀{m k:Nat} {l:List Int},wG cells.length l->wG cells.length (bfs cells m k l)
  |0,_,l,h=>h
  |m+1,k,l,h=>by
    unfold Proofs.YtodkbibbgakkdaaGreatDoor.bfs;split
    · rename_i b;exact wG.bfs a<|h.l (a.at<|h.2 _<|List.getElem_mem b).2
    · exact h
def xK(vs:List Val)(l:List Int):Prop:=∀v∈vs,v.kind=2->v.n∈l
theorem xK.pre{vs:List Val}{l m:List Int}(h:xK vs l)(hp:l<+:m):xK vs m:=fun v b a=>hp.subset (h v b a)
theorem metV_in(l:List Int)(v:Val)(a:v.kind=2):v.n∈Xj l v:=by
  unfold Xj;split
  · simp
  · rename_i b;exact Decidable.not_not.1 fun h=>b ⟨a,h⟩
theorem ZU:∀(vs:List Val) (l:List Int),xK vs (Wh l vs)
  |[],l,v,hv,_=>by cases hv
  |w::vs,l,v,hv,hk=>by
    rw[Yx];rcases List.mem_cons.1 hv with rfl|hv
    · exact(LM vs _).subset<|metV_in l v hk
    · exact ZU vs _ v hv hk
theorem bfs_in{cells:List (List Val)}(d:zi cells):∀{m k:Nat} {l:List Int},wG cells.length l->cells.length<k+m->(∀j (a:j<l.length),j<k->xK (cellAt cells l[j]) l)->∀x∈bfs cells m k l,xK (cellAt cells x) (bfs cells m k l)
  |0,k,l,h,hm,a,x,hx=>by
    have:=h.len;obtain⟨j,b,rfl⟩:=List.getElem_of_mem hx;exact a j b (by have i:j<l.length:=b;omega)
  |m+1,k,l,h,hm,a,x,hx=>by
    unfold Proofs.YtodkbibbgakkdaaGreatDoor.bfs at hx⊢;split at hx
    · rename_i c;rw[dif_pos c];have g:=(d.at<|h.2 _<|List.getElem_mem c).2;have hp:=LM (cellAt cells l[k]) l;refine bfs_in d (h.l g) V (fun j b o=>?_) x hx;by_cases e:j<l.length
      · have f:(Wh l<|cellAt cells l[k])[j]=l[j]:=(hp.getElem e).symm;rw[f];by_cases n:j<k
        · exact(a j e n).pre hp
        · have:j=k:=by omega
          subst this;exact ZU _ _
      · omega
    · rename_i c;rw[dif_neg c];obtain⟨j,b,rfl⟩:=List.getElem_of_mem hx;exact a j b V
theorem reach_ok{cells:List (List Val)}(a:zi cells){vs:List Val}(c:∀v∈vs,yP cells.length v):wG cells.length (OL cells vs)/\xK vs (OL cells vs)/\∀x∈OL cells vs,xK (cellAt cells x) (OL cells vs):=by
 have b:wG cells.length (Wh [] vs):=wG.nil.l c;refine⟨wG.bfs a b,(ZU vs []).pre (bfs_pre _ _ _ _),bfs_in a b (by have:=a.1;omega) (fun j e d=>absurd d (Nat.not_lt_zero _))⟩
theorem ZV{α:Type}(k a:Int)(v:α):∀l:List (Int×α),lk k (Jl a v l)=if k=a then some v else lk k l
  |[]=>by unfold Jl lk;by_cases h:k=a<;>simp[h,lk]
  |p::l=>by
    unfold Jl;by_cases h:a=p.1
    · rw[if_pos h];show(if k=p.1 then some v else lk k l)=if k=a then some v else(if k=p.1 then some p.2 else lk k l)
      by_cases e:k=p.1
      · rw[if_pos e,if_pos V]
      · rw[if_neg e,if_neg V,if_neg e]
    · rw[if_neg h];show(if k=p.1 then some p.2 else lk k (Jl a v l))=if k=a then some v else(if k=p.1 then some p.2 else lk k l)
      by_cases e:k=p.1
      · rw[if_pos e,if_pos e,if_neg V]
      · rw[if_neg e,if_neg e,ZV k a v l]
def Seen(l:List Int)(m:List (Int×Bool)):Prop:=∀k,(lk k m).getD false=decide (k∈l)
theorem Seen.nil:Seen [] []:=fun k=>rfl
theorem Seen.put{l:List Int}{m:List (Int×Bool)}(h:Seen l m)(n:Int):Seen (l++[n]) (Jl n true m):=by
  intro k;rw[ZV];by_cases e:k=n
  · simp[e]
  · rw[if_neg e,h k,Bool.eq_iff_iff];simp[e]
theorem Qr{ρ:Type}{body:Val->List Int×List (Int×Bool)->(List Int×List (Int×Bool)->Option ρ)->Option ρ}{K:List Int×List (Int×Bool)->Option ρ}
    (b:∀x l m c,l.length<=1000->body x (l,m) c=bif (decide (x.kind=2)&&(!((lk x.n m).getD false)))then c (l++[x.n],Jl x.n true m)else c (l,m)):
    ∀(vs:List Val) (l:List Int) (m:List (Int×Bool)),Seen l m->l.length+vs.length<=1000->∃d,Seen (Wh l vs) d/\each body K vs (l,m)=K (Wh l vs,d)
  |[],l,m,h,_=>⟨m,h,rfl⟩
  |v::vs,l,m,h,hl=>by
    simp only[List.length_cons]at hl;rw[jC,b v l m _ V,h v.n,Yx];unfold Xj;by_cases a:v.kind=2/\v.n∉l
    · rw[if_pos a,dT a.1,dF a.2,Bool.true_and,Bool.not_false,cond_true];exact Qr b vs _ _ (h.put v.n) (by simp;omega)
    · rw[if_neg a,show(decide (v.kind=2)&& !decide (v.n∈l))=false by rw[Bool.and_eq_false_iff];simp;simp only[not_and,Decidable.not_not]at a;by_cases e:v.kind=2<;>simp[e,a],cond_false];exact Qr b vs _ _ h V
theorem bfs_loop{cells:List (List Val)}(e:zi cells):∀(m N k:Nat) (l:List Int) (s:List (Int×Bool)),wG cells.length l->Seen l s->cells.length<k+m->m<N->k<=l.length->again (qY cells) N ((k:Int),l,s)=some (bfs cells m k l,0)
  |m,0,k,l,s,h,hs,hm,hN,hk=>by omega
  |0,N+1,k,l,s,h,hs,hm,hN,hk=>by have:=h.len;omega
  |m+1,N+1,k,l,s,h,hs,hm,hN,hk=>by
    rw[JW];unfold qY Proofs.YtodkbibbgakkdaaGreatDoor.bfs;simp only;have r:=h.len;have hn:=e.1;by_cases a:k<l.length
    · rw[dT V,cond_true,BZ a,bnd,dif_pos a];have g:=h.2 _<|List.getElem_mem a;have i:=e.at g;rw[(OM g).1,bnd];have j:(fun(s:Int×List Int×List (Int×Bool))(c:Int×List Int×List (Int×Bool)->Option (List Int×Int))=>match s with|(b,Me,EH)=>bif decide ((b:Int)<(Me.length:Int))then(idx Me b).bind fun f=>(idx cells f).bind fun d=>each xu (xw b c) d (Me,EH)else some (Me,0))=qY cells:=rfl;rw[j];obtain⟨o,q,p⟩:=Qr (body:=xu) (K:=xw (k:Int) (again (qY cells) N)) (fun x l m t r=>by
        unfold xu;simp only[Bh];cases (decide (x.kind=2)&&(!((lk x.n m).getD false)))with
        |false=>rfl
        |true=>rw[cond_true,cond_true,uL (room_le (by simp;omega) zq1)]) (cellAt cells l[k]) l s hs (by have:=i.1.2;omega)
      rw[p];unfold xw;simp only;rw[gI V V];have hp:=(LM (cellAt cells l[k]) l).length_le;exact bfs_loop e m N (k+1) _ o (h.l i.2) q V V V
    · rw[dF V,cond_false,dif_neg a]
theorem reach_eq{N:Nat}(hN:100<=N){cells:List (List Val)}(b:zi cells){vs:List Val}(a:∀v∈vs,yP cells.length v)(f:vs.length<=400):JC N cells vs=some (OL cells vs,0):=by
 unfold JC;rw[(all_ok cells).2 b,dF zq3,cond_false,dF V,cond_false];have k1:∀l:List Val,(∀v∈l,yP cells.length v)->each (Bj cells) (xx N cells vs) l ()=xx N cells vs ():=by
  intro l;induction l with
  |nil=>intro _;rfl
  |cons x l ih=>
   intro h;rw[jC];unfold Bj;rw[(yQ _ _).2 (h x zq3),dF zq3,cond_false];exact ih fun v a=>h v<|List.mem_cons_of_mem _ a
 rw[k1 vs a];unfold xx;obtain⟨c,d,e⟩:=Qr (body:=Bi) (K:=Fv N cells) (fun x l m g f=>by
  unfold Bi;simp only[Bg];cases (decide (x.kind=2)&&(!((lk x.n m).getD false)))with
  |false=>rfl
  |true=>rw[cond_true,cond_true,uL (room_le (by simp;omega) zq1)]) vs [] [] Seen.nil (by simp;omega)
 rw[e];exact bfs_loop b 25 N 0 _ c (wG.nil.l a) d (by have:=b.1;omega) V V
def ren(l:List Int)(v:Val):Val:=if v.kind=2 then⟨v.kind,(l.idxOf v.n:Nat)⟩else v
def renF(l:List Int)(f:LX.Frame):LX.Frame:={f with regs:=f.regs.map (ren l)}
def roots(a:List LX.Frame):List Val:=a.flatMap (·.regs)
def Hg(s:LX.State):List Int:=OL s.cells (roots s.frames)
def OO(s:LX.State):LX.State:=⟨s.frames.map (renF (Hg s)),(Hg s).map (fun k=>(cellAt s.cells k).map (ren (Hg s))),s.status,s.cu⟩
structure SwOk(s:LX.State):Prop where
 small:Small s
 cells:zi s.cells
 vals:∀f∈s.frames,∀v∈f.regs,yP s.cells.length v
theorem StOk.sw{a:List dm}{s:LX.State}(h:StOk a s)(ha:V7 a):SwOk s where
 small:=h.small ha
 cells:=h.cells
 vals f hf:=by obtain⟨x,g⟩:=JX h.frames f hf;exact g.vals
theorem SwOk.roots{s:LX.State}(h:SwOk s):∀v∈roots s.frames,yP s.cells.length v:=by
 intro v a;unfold YtodkbibbgakkdaaGreatDoor.roots at a;obtain⟨f,b,a⟩:=List.mem_flatMap.1 a;exact h.vals f b v a
theorem roots_len(a:List LX.Frame)(h:∀f∈a,f.regs.length<=40):(roots a).length<=40*a.length:=by
 induction a with
 |nil=>simp[roots]
 |cons f l ih=>
  have:=h f zq3;have:=ih fun g b=>h g<|List.mem_cons_of_mem _ b;unfold roots at*;rw[List.flatMap_cons,List.length_append,List.length_cons];omega
theorem SwOk.rlen{s:LX.State}(h:SwOk s):(YtodkbibbgakkdaaGreatDoor.roots s.frames).length<=400:=by
 have:=roots_len s.frames h.small.regs;have:=h.small.frames;omega
theorem SwOk.reach{s:LX.State}(h:SwOk s):wG s.cells.length (Hg s)/\xK (YtodkbibbgakkdaaGreatDoor.roots s.frames) (Hg s)/\∀x∈Hg s,xK (cellAt s.cells x) (Hg s):=reach_ok h.cells h.roots
theorem map_loop{α ρ:Type}{body:Int->List α->(List α->Option ρ)->Option ρ}{K:List α->Option ρ}{g:α->α}{P:α->Prop}
  (e:∀(i:Nat) (x:List α) a nx,x[i]? =some a->P a->body (i:Int) x nx=nx (x.set i (g a))):
  ∀(d c:List α),(∀a∈d,P a)->upto body K (c.length:Int) d.length (c++d)=K (c++d.map g)
 |[],c,_=>by simp[upto]
 |a::d,c,h=>by
  rw[List.length_cons,Yv,e c.length (c++a::d) a _ zq3 (h a zq3)];have:=map_loop (K:=K) e d (c++[g a]) fun b e=>h b<|List.mem_cons_of_mem _ e;rw[show(c++a::d).set c.length (g a)=(c++[g a])++d by simp,show((c.length:Int)+1)=((c++[g a]).length:Nat) by simp,this];simp
theorem SL{α ρ:Type}{body:Int->List α->(List α->Option ρ)->Option ρ}{K:List α->Option ρ}{g:α->α}{P:α->Prop}
  (b:∀(i:Nat) (x:List α) a nx,x[i]? =some a->P a->body (i:Int) x nx=nx (x.set i (g a))) (l:List α) (hp:∀a∈l,P a):upto body K 0 l.length l=K (l.map g):=by
 have:=map_loop (K:=K) b l [] hp;simpa using this
def Wi(l:List Int)(m:List (Int×Int)):Prop:=∀k,lk k m=if k∈l then some ((l.idxOf k:Nat):Int)else none
theorem turn_eq{l:List Int}{m:List (Int×Int)}(h:Wi l m)(vs:List Val)(d:xK vs l):UY vs m=some (vs.map (ren l)):=by
  unfold UY;rw[Int.toNat_natCast];refine SL (P:=fun v=>v.kind=2->v.n∈l) (fun i x a g c hp=>?_) vs fun v f=>d v f;unfold Rf Mk;rw[lF,c,bnd];by_cases b:a.kind=2
  · rw[dT b,cond_true,h a.n,if_pos (hp b)];simp[ren,b]
  · rw[dF b,cond_false];have:x.set i a=x:=by
      obtain⟨e,rfl⟩:=List.getElem?_eq_some_iff.1 c;exact List.set_getElem_self e
    simp[ren,b,this]
theorem Wj{s:LX.State}(j:zi s.cells){K:List (List Val)×List Int×List (Int×Int)->Option LX.State}:∀(b a:List Int) (m:List (Int×Int)),wG s.cells.length (a++b)->Wi a m->
    ∃g,Wi (a++b) g/\fO (xX s) K (a.length:Int) b (a.map (cellAt s.cells),a,m)=K ((a++b).map (cellAt s.cells),a++b,g)
  |[],a,m,_,h=>⟨m,by simpa using h,by simp[fO]⟩
  |k::b,a,m,hm,h=>by
    have i:a++k::b=(a++[k])++b:=by simp
    have f:k∉a:=by
      intro f;exact(List.nodup_append.1 hm.1).2.2 k f k zq3 Z
    have p:=hm.len;have hn:=j.1;simp only[List.length_append,List.length_cons]at p;have n:=hm.2 k zq3;rw[zl];obtain⟨g,o,l⟩:=Wj j (K:=K) b (a++[k]) (Jl k (a.length:Int) m) (by rw[<-i];exact hm) (fun q=>by
      rw[ZV];by_cases e:q=k
      · subst e;rw[if_pos rfl,if_pos zq3,List.idxOf_append,if_neg f];simp
      · rw[if_neg e,h q];by_cases c:q∈a
        · rw[if_pos c,if_pos (by simp[c]),List.idxOf_append,if_pos c]
        · rw[if_neg c,if_neg (by simp[c,e])])
    refine⟨g,by rw[i];exact o,?_⟩;have d:(((a++[k]).length:Nat):Int)=(a.length:Int)+1:=by simp
    rw[d]at l;rw[i,<-l];generalize fO (xX s) K ((a.length:Int)+1) b=K1;unfold xX;simp only;rw[(OM n).1,bnd,uL f,uL (room_le (by simp;omega) zq1),List.map_append];rfl
theorem ZW{l:List Int}{m:List (Int×Int)}(h:Wi l m)(K:List LX.Frame->Option LX.State)(b:List LX.Frame)(c:∀f∈b,xK f.regs l):upto (EC m) K 0 b.length b=K (b.map (renF l)):=
 SL (P:=fun f=>xK f.regs l) (fun i x a e d hp=>by
  unfold EC;rw[lF,d,bnd,turn_eq h a.regs hp,bnd];simp[renF]) b c
theorem cells_sweep{l:List Int}{m:List (Int×Int)}(h:Wi l m)(K:List (List Val)->Option LX.State)(cs:List (List Val))(b:∀c∈cs,xK c l):upto (Gz m) K 0 cs.length cs=K (cs.map (fun c=>c.map (ren l))):=
 SL (P:=fun c=>xK c l) (fun i x a e d hp=>by
  unfold Gz;rw[lF,d,bnd,turn_eq h a hp,bnd];simp) cs b
theorem Yz{K:List Val->Option LX.State}:∀(b:List LX.Frame) (a:List Val),a.length+(roots b).length<=1000->each Bn K b a=K (a++roots b)
 |[],a,_=>by simp[vw,roots]
 |f::b,a,h=>by
  have e:roots (f::b)=f.regs++roots b:=rfl;rw[e,List.length_append]at h;rw[jC];have c:=Yz (K:=K) b (a++f.regs) (by simp;omega);generalize each Bn K b=K1 at c⊢;unfold Bn;rw[uL (room_le V zq1),c,e,List.append_assoc]
theorem roots_in{a:List LX.Frame}{l:List Int}(h:xK (roots a) l):∀f∈a,xK f.regs l:=fun f c v d b=>h v (List.mem_flatMap.2 ⟨f,c,d⟩) b
theorem sweep_eq{N:Nat}(hN:100<=N){s:LX.State}(h:SwOk s):Fw N s=some (OO s):=by
 have b:=h.reach;unfold Fw;rw[Yz s.frames [] (by have:=h.rlen;simp;omega),List.nil_append];unfold JI;rw[reach_eq hN h.cells h.roots h.rlen,bnd,dF zq3,cond_false,copy_eq h.small,bnd];have e:OL s.cells (roots s.frames)=Hg s:=rfl;simp only[e];obtain⟨j,a,i⟩:=Wj h.cells (K:=Bl s) (Hg s) [] [] (by simpa using b.1) (fun k=>by simp[lk]);have d:fO (xX s) (Bl s) 0 (Hg s) ([],([]:List Int),([]:List (Int×Int)))=_:=i;rw[d];simp only[List.nil_append]at a⊢;unfold Bl;simp only[Int.toNat_natCast];rw[ZW a _ _ (roots_in b.2.1)];unfold JH;rw[Int.toNat_natCast,cells_sweep a _ _ (fun c g=>by
  obtain⟨k,f,rfl⟩:=List.mem_map.1 g;exact b.2.2 k f)]
 unfold JG OO;rw[List.map_map];rfl
def regAt(r:List Val)(i:Int):Val:=(idx r i).getD ⟨0,0⟩
def opP(k:Int)(b c:Val):Option Val:=
 if k=5 then some ⟨1,if b=c then 1 else 0⟩else if b.kind≠1\/c.kind≠1 then none else if k=4 then some ⟨1,if b.n<c.n then 1 else 0⟩else
 let n:=if k=1 then b.n+c.n else if k=2 then b.n-c.n else b.n*c.n
 if-1000000000<=n/\n<=1000000000 then some ⟨1,n⟩else none
def adv(f:LX.Frame)(x:dm):LX.Frame:={f with at_:=min (f.at_+1) ((x.code.length:Int)-1)}
def newP(s:LX.State)(c:Ins):Option LX.State:=
 if s.cells.length=24 then none else some ⟨s.frames.dropLast++(s.frames.getLast?.map fun h=>{h with regs:=h.regs.set c.a.toNat ⟨2,s.cells.length⟩}).toList,s.cells++[List.replicate c.b.toNat ⟨0,0⟩],s.status,s.cu⟩
def stepC(a:List dm)(pre:List LX.Frame)(f:LX.Frame)(cells:List (List Val))(j i:Int)(x:dm)(c:Ins):Option (LX.State×Option Int×Bool):=
  let g:=adv f x;let r:=regAt f.regs;let put:=fun(v:Val)=>(⟨pre++[{g with regs:=f.regs.set c.a.toNat v}],cells,j,i⟩:LX.State);let d:=(⟨pre++[g],cells,j,i⟩:LX.State);let e:=(⟨pre++[{g with at_:=c.b}],cells,j,i⟩:LX.State);let k:=fun(v:Val)=>v.kind≠2\/((cellAt cells v.n).length:Int)<=c.c
  if c.op=1 then some (put ⟨1,c.b⟩,none,false)else
  if c.op=2 then some (put (r c.b),none,false)else
  if c.op=3 then(opP (c.args.headD 0) (r c.b) (r c.c)).map fun v=>(put v,none,false)else
  if c.op=4 then(if k (r c.b)then none else some (put (regAt (cellAt cells (r c.b).n) c.c),none,false))else
  if c.op=6 then(if k (r c.a)then none else some (⟨pre++[g],cells.set (r c.a).n.toNat ((cellAt cells (r c.a).n).set c.c.toNat (r c.b)),j,i⟩,none,false))else
  if c.op=5 then(newP (if cells.length=24 then OO d else d) c).map fun t=>(t,none,false)else
  if c.op=7 then(if pre.length+1=10 then none else some (⟨pre++[g]++[⟨c.b,0,c.args.map r++List.replicate (((idx a c.b).map (·.regs)).getD 0-c.args.length).toNat ⟨0,0⟩,c.a⟩],cells,j,i⟩,none,false))else
  if c.op=8 then some (match pre.getLast? with
    |none=>⟨[],cells,1,i⟩
    |some h=>⟨pre.dropLast++[{h with regs:=h.regs.set f.mH.toNat (r c.a)}],cells,j,i⟩,none,false)else
  if c.op=9 then(if(r c.a).kind=1 then some (d,some (r c.a).n,false)else none)else
  if c.op=11 then(if(r c.a).kind=1 then some (⟨pre++[g],cells,3,(r c.a).n⟩,none,true)else none)else
  if c.op=12 then some (e,none,false)else
  if c.op=13 then some (if(r c.a).kind≠2/\(r c.a).n=0 then e else d,none,false)else
  some (d,none,true)
def insOf(a:List dm)(f:LX.Frame):Option (dm×Ins):=(idx a f.proc).bind fun x=>(idx x.code f.at_).map fun c=>(x,c)
def stepP(a:List dm)(s:LX.State):Option (LX.State×Option Int×Bool):=
 s.frames.getLast?.bind fun f=>(insOf a f).bind fun q=>stepC a s.frames.dropLast f s.cells s.status s.cu q.1 q.2
def opTop(a:List dm)(s:LX.State):Int:=((s.frames.getLast?.bind fun f=>insOf a f).map fun q=>q.2.op).getD 0
def runP(a:List dm):Nat->List Int->Nat->LX.State->LX.State×List Int×Nat
 |0,said,n,s=>(s,said,n)
 |m+1,said,n,s=>
  if s.status≠0 then(s,said,n)else
  if said.length=40/\opTop a s=9 then(s,said,n)else
  match stepP a s with
  |none=>({s with status:=2},said,n+1)
  |some (t,o,p)=>if p then(t,said++o.toList,n+1)else runP a m (said++o.toList) (n+1) t
def begin0(a:List dm):LX.State:=⟨[⟨0,0,List.replicate (((idx a 0).map (fun x:dm=>x.regs)).getD 0).toNat ⟨0,0⟩,0⟩],[],0,0⟩
theorem at_eq(k:Int){n:Int}(hn:0<n)(b:n<=1000000000):∃r,Bz k n=some r/\0<=r/\r<n:=by
  unfold Bz;rw[uL hn];have a:Int.tmod k n<n:=Int.tmod_lt_of_pos k hn;have c: -n<Int.tmod k n:=by
    have:=Int.tmod_lt_of_pos (-k) hn;rw[Int.neg_tmod]at this;omega
  by_cases h:Int.tmod k n<0
  · rw[dT h,cond_true,gI V V];exact⟨_,Z,by omega,by omega⟩
  · rw[dF h,cond_false];exact⟨_,Z,by omega,a⟩
def valsP(l:List Val):List Int:=l.flatMap fun v=>[v.kind,v.n]
def rowP(l:List Val):List Int:=(l.length:Int)::valsP l
def frP(f:LX.Frame):List Int:=f.proc::f.at_::f.mH::rowP f.regs
def packP(s:LX.State):List Int:=s.status::s.cu::(s.frames.length:Int)::(s.frames.flatMap frP++(s.cells.length:Int)::s.cells.flatMap rowP)
def Rdr(α:Type):=List Int->Option (α×List Int)
def BD{α:Type}(x:α):Rdr α:=fun l=>some (x,l)
def je{α β:Type}(R:Rdr α)(f:α->Rdr β):Rdr β:=fun l=>(R l).bind fun q=>f q.1 q.2
def GI:Rdr Int:=fun l=>match l with
 |[]=>none
 |x::r=>some (x,r)
def DV(m:Int):Rdr Nat:=fun l=>match l with
 |[]=>none
 |x::r=>if 0<=x/\x<=m then some (x.toNat,r)else none
def ow{α:Type}(R:Rdr α):Nat->Rdr (List α)
 |0=>BD []
 |n+1=>je R fun x=>je (ow R n) fun l=>BD (x::l)
def ZX:Rdr Val:=je GI fun k=>je GI fun n=>BD ⟨k,n⟩
def Qs(m:Int):Rdr (List Val):=je (DV m) fun n=>ow ZX n
def ZY:Rdr LX.Frame:=je GI fun p=>je GI fun a=>je GI fun t=>je (Qs 40) fun r=>BD ⟨p,a,r,t⟩
def rd_rSt:Rdr LX.State:=je GI fun s=>je GI fun w=>je (DV 10) fun n=>je (ow ZY n) fun f=>je (DV 24) fun k=>je (ow (Qs 4) k) fun c=>BD ⟨f,c,s,w⟩
def wake(s:LX.State):LX.State:=if s.status=3 then⟨s.frames,s.cells,0,0⟩else s
structure Rel{α:Type}(o:Option (α×List Int))(b:Bool)(x':α)(l':List Int)(b':Bool):Prop where
 stay:b=true->b'=true
 ok:b=false->match o with
  |some (x,r)=>x'=x/\l'=r/\b'=false
  |none=>b'=true
theorem Rel.pure{α:Type}(x:α)(l:List Int)(b:Bool):Rel (BD x l) b x l b:=⟨id,fun h=>⟨rfl,rfl,h⟩⟩
theorem Rel.bind{α β:Type}{R:Rdr α}{f:α->Rdr β}{l j c:List Int}{b b' a:Bool}{i:α}{k:β}(g:Rel (R l) b i j b')(d:Rel (f i j) b' k c a):Rel (je R f l) b k c a:=by
 refine⟨fun h=>d.stay<|g.stay h,fun h=>?_⟩;have:=g.ok h;unfold je;cases e:R l with
 |none=>rw[e]at this;exact d.stay this
 |some q=>
  obtain⟨x,r⟩:=q;rw[e]at this;obtain⟨rfl,rfl,m⟩:=this;exact d.ok m
theorem DW(l:List Int)(b:Bool):∃x c b',jJ ⟨l,b⟩=some (x,⟨c,b'⟩)/\Rel (GI l) b x c b':=by
 unfold jJ;cases l with
 |nil=>exact⟨0,[],true,rfl,fun _=>rfl,fun _=>rfl⟩
 |cons x l=>
  simp only;rw[dF (by simp;omega),cond_false,show idx (x::l) 0=some x from idx0 x l,bnd,show sub? (x::l) 1 ((x::l).length:Int)=some l by
   have:=sub_s (l:=x::l) (a:=1) (b:=(x::l).length) zq3<|Nat.le_refl _;rw[List.take_length]at this;exact this,bnd]
  exact⟨x,l,b,Z,id,fun h=>⟨Z,Z,h⟩⟩
theorem Qt(m:Nat)(l:List Int)(b:Bool):∃(x:Nat) (a:List Int) (b':Bool),oh ⟨l,b⟩ m=some ((x:Int),⟨a,b'⟩)/\x<=m/\Rel (DV m l) b x a b':=by
  unfold oh;obtain⟨x,a,b',h,d⟩:=DW l b;rw[h,bnd];simp only;by_cases e:0<=x/\x<=(m:Int)
  · rw[dF V,dF V,Bool.or_self,cond_false];refine⟨x.toNat,a,b',by rw[Int.toNat_of_nonneg e.1],by omega,d.stay,fun f=>?_⟩;have:=d.ok f;cases l with
    |nil=>exact this
    |cons y l=>
      obtain⟨rfl,rfl,c⟩:=this;rw[show DV (m:Int) (x::a)=some (x.toNat,a)from if_pos e];exact⟨Z,Z,c⟩
  · rw[show(decide (x<0)||decide ((m:Int)<x))=true by
      rw[Bool.or_eq_true,decide_eq_true_eq,decide_eq_true_eq];omega,cond_true]
    refine⟨0,a,true,Z,by omega,fun _=>rfl,fun f=>?_⟩;have:=d.ok f;cases l with
    |nil=>rfl
    |cons y l=>
      obtain⟨rfl,rfl,c⟩:=this;rw[show DV (m:Int) (x::a)=none from if_neg e]
theorem Nb(n:Nat)(hn:n<=100):∀(m M i:Nat) (a:List Val) (l:List Int) (b:Bool),i+m=n->a.length=i->m<M->
    ∃vs d b',again (kr n) M (a,(i:Int),l,b)=some (a++vs,⟨d,b'⟩)/\vs.length=m/\Rel (ow ZX m l) b vs d b'
  |m,0,i,a,l,b,_,_,hM=>by omega
  |0,M+1,i,a,l,b,hi,_,_=>by
    rw[JW];unfold kr;simp only;rw[dF V,cond_false];exact⟨[],l,b,by simp,Z,Rel.pure [] l b⟩
  |m+1,M+1,i,a,l,b,hi,ha,hM=>by
    rw[JW];have c:=Nb n hn m M<|i+1;generalize again (kr n) M=K at c⊢;unfold kr;simp only;rw[dT V,cond_true];obtain⟨x,o,s,h,f⟩:=DW l b;rw[h,bnd];simp only;obtain⟨y,p,g,q,u⟩:=DW o s;rw[q,bnd];simp only;rw[uL (room_le (by simp;omega) zq1),gI V V];obtain⟨vs,t,r,j,e,k⟩:=c (a++[⟨x,y⟩]) p g V (by simp;omega) V;refine⟨⟨x,y⟩::vs,t,r,?_,by simp[e],?_⟩
    · rw[show((i:Int)+1)=((i+1:Nat):Int) by omega,j];simp
    · exact Rel.bind (Rel.bind f<|Rel.bind u<|Rel.pure _ _ _)<|Rel.bind k<|Rel.pure _ _ _
theorem Wl{N n:Nat}(hn:n<=100)(hN:200<=N)(l:List Int)(b:Bool):∃vs a b',qX N ⟨l,b⟩ n=some (vs,⟨a,b'⟩)/\vs.length=n/\Rel (ow ZX n l) b vs a b':=by
 unfold qX;obtain⟨vs,a,b',e,d,c⟩:=Nb n hn n N 0 [] l b V Z V;exact⟨vs,a,b',by simpa using e,d,c⟩
def none0:LX.State:=⟨[],[],0,0⟩
def endP(a:List dm)(s:LX.State):LX.State×Int:=
 if chk a≠0 then(none0,chk a)else if ckS a s≠0 then(none0,ckS a s)else if OO s=s then(s,0)else(none0,4)
def jT(a:List dm)(l:List Int):LX.State×Int:=
 if 1200<l.length then(none0,2)else match rd_rSt l with
  |some (s,[])=>endP a s
  |_=>(none0,8)
theorem un_end(a:List dm)(s:LX.State){N:Nat}(hN:100<=N):((Dy a s).bind fun b=>bif decide ((b:Int)≠0)then some (none0,b)else(Fw N s).bind fun x=>(PQ x s).bind fun y=>bif (!y)then some (none0,4)else some (s,0))=some (endP a s):=by
  rw[vm_Check_eq,bnd];unfold endP;by_cases c:chk a=0
  · rw[if_neg V,if_neg V];by_cases e:ckS a s=0
    · have f:=chk_code c;rw[dF V,cond_false,sweep_eq hN ((ckS_ok.1 e).sw f),bnd,eqState,bnd,if_neg V];by_cases d:OO s=s
      · rw[dT d,if_pos d];rfl
      · rw[dF d,if_neg d];rfl
    · rw[dT e,cond_true,if_pos e]
  · rw[if_pos c,dT c,cond_true,if_pos c]
theorem YA{N:Nat}(hN:200<=N)(g:Int×mJ)(a:List dm)(f:List LX.Frame)(e d:Int×mJ)(n:Nat)(t:g.1=n)(hn:n<=24):
    ∀(m M i:Nat) (c:List (List Val)) (l:List Int) (b:Bool),i+m=n->c.length=i->m<M->
    ∃cs h b',again (qZ N g a f e d) M ((i:Int),l,b,c)=(bif (b'||decide ((0:Int)<(h.length:Int)))then some (none0,8)else some (endP a ⟨f,c++cs,e.1,d.1⟩))/\Rel (ow (Qs 4) m l) b cs h b'
  |m,0,i,c,l,b,_,_,hM=>by omega
  |0,M+1,i,c,l,b,hi,_,_=>by
    rw[JW];unfold qZ;simp only;rw[dF V,cond_false];refine⟨[],l,b,?_,Rel.pure [] l b⟩;rw[List.append_nil,<-un_end a ⟨f,c,e.1,d.1⟩ (N:=N) V];rfl
  |m+1,M+1,i,c,l,b,hi,ha,hM=>by
    rw[JW];have j:=YA hN g a f e d n t hn m M<|i+1;generalize again (qZ N g a f e d) M=K at j⊢;unfold qZ;simp only;rw[dT V,cond_true];obtain⟨x,y,q,k,C,u⟩:=Qt 4 l b;rw[show((4:Nat):Int)=4 from rfl]at k;rw[k,bnd];simp only;obtain⟨vs,p,v,z,B,s⟩:=Wl (N:=N) (n:=x) V hN y q;rw[z,bnd];simp only;rw[uL (room_le (by simp;omega) zq1)];unfold Fx;rw[gI V V];obtain⟨cs,r,A,w,o⟩:=j (c++[vs]) p v V (by simp;omega) V;refine⟨vs::cs,r,A,?_,?_⟩
    · rw[show((i:Int)+1)=((i+1:Nat):Int) by omega,w];simp
    · exact Rel.bind (Rel.bind u s)<|Rel.bind o<|Rel.pure _ _ _
theorem times_bind{α β:Type}{R:Rdr α}{m:Nat}{G:List α->Rdr β}{l:List Int}:je (ow R (m+1)) G l=je R (fun x=>je (ow R m) fun a=>G (x::a)) l:=by
 show((je R (fun x=>je (ow R m) fun l=>BD<|x::l) l).bind _)=_;unfold je;cases R l with
 |none=>rfl
 |some q=>
  rw[Option.bind_some,Option.bind_some];simp only;cases ow R m q.2 with
  |none=>rfl
  |some q2=>rfl
theorem Wm{N:Nat}(hN:200<=N)(e:Int×mJ)(a:List dm)(g h:Int×mJ)(n:Nat)(P:e.1=n)(hn:n<=10):
    ∀(m M i:Nat) (d:List LX.Frame) (l:List Int) (b:Bool),i+m=n->d.length=i->m<M->
    ∃(s:LX.State) (G:List Int) (b':Bool),again (pG N e a g h) M ((i:Int),l,b,d)=(bif (b'||decide ((0:Int)<(G.length:Int)))then some (none0,8)else some (endP a s))/\
      Rel (je (ow ZY m) (fun f=>je (DV 24) fun k=>je (ow (Qs 4) k) fun c=>BD (⟨d++f,c,g.1,h.1⟩:LX.State)) l) b s G b'
  |m,0,i,d,l,b,_,_,hM=>by omega
  |0,M+1,i,d,l,b,hi,_,_=>by
    rw[JW];unfold pG;simp only;rw[dF V,cond_false];obtain⟨x,r,j,o,L,u⟩:=Qt 24 l b;rw[show((24:Nat):Int)=24 from rfl]at o;rw[o,bnd];simp only;obtain⟨cs,y,v,w,A⟩:=YA hN ((x:Int),⟨r,j⟩) a d g h x Z L x N 0 [] r j V Z V;refine⟨⟨d++[],[]++cs,g.1,h.1⟩,y,v,?_,?_⟩
    · rw[List.append_nil];exact w
    · exact Rel.bind (Rel.pure [] l b)<|Rel.bind u<|Rel.bind A<|Rel.pure _ _ _
  |m+1,M+1,i,d,l,b,hi,ha,hM=>by
    rw[JW];have I:=Wm hN e a g h n P hn m M<|i+1;generalize again (pG N e a g h) M=K at I⊢;unfold pG;simp only;rw[dT V,cond_true];obtain⟨p,r,j,o,u⟩:=DW l b;rw[o,bnd];simp only;obtain⟨q,y,v,w,A⟩:=DW r j;rw[w,bnd];simp only;obtain⟨t,l3,S,Q,O⟩:=DW y v;rw[Q,bnd];simp only;obtain⟨x,T,R,J,L,X⟩:=Qt 40 l3 S;rw[show((40:Nat):Int)=40 from rfl]at J;rw[J,bnd];simp only;obtain⟨vs,E,B,e5,hv,r5⟩:=Wl (N:=N) (n:=x) V hN T R;rw[e5,bnd];simp only;rw[uL (room_le (by simp;omega) zq1),gI V V];obtain⟨s,l6,b6,e6,C⟩:=I (d++[⟨p,q,vs,t⟩]) E B V (by simp;omega) V;refine⟨s,l6,b6,?_,?_⟩
    · rw[show((i:Int)+1)=((i+1:Nat):Int) by omega,e6]
    · have z:Rel (ZY l) b ⟨p,q,vs,t⟩ E B:=Rel.bind u<|Rel.bind A<|Rel.bind O<|Rel.bind (Rel.bind X r5)<|Rel.pure _ _ _;simp only[List.append_assoc,List.cons_append,List.nil_append]at C;rw[times_bind];exact Rel.bind (f:=fun x=>je (ow ZY m) fun fs=>je (DV 24) fun k=>je (ow (Qs 4) k) fun c=>BD (⟨d++x::fs,c,g.1,h.1⟩:LX.State)) z C
theorem end_rel{a:List dm}{l b:List Int}{b':Bool}{s:LX.State}{y:Option (LX.State×Int)}(d:¬1200<l.length)(c:Rel (rd_rSt l) false s b b')(h:y=(bif (b'||decide ((0:Int)<(b.length:Int)))then some (none0,8)else some (endP a s))):y=some (jT a l):=by
 rw[h];unfold jT;rw[if_neg d];have:=c.ok Z;cases e:rd_rSt l with
 |none=>rw[e]at this;simp only at this;subst this;rfl
 |some q=>
  obtain⟨f,r⟩:=q;rw[e]at this;obtain⟨rfl,rfl,rfl⟩:=this;cases b with
  |nil=>rfl
  |cons x b=>rw[Bool.false_or,dT zq3,cond_true]
theorem F5(a:List dm)(l:List Int){N:Nat}(hN:200<=N):sK N a l=some (jT a l):=by
  unfold sK;by_cases d:1200<l.length
  · rw[dT V,cond_true];unfold jT;rw[if_pos d];rfl
  · rw[dF V,cond_false];obtain⟨m,g,b,r,q⟩:=DW l false;rw[r,bnd];simp only;obtain⟨o,i,e,u,n⟩:=DW g b;rw[u,bnd];simp only;obtain⟨x,c,h,f,t,k⟩:=Qt 10 i e;rw[show((10:Nat):Int)=10 from rfl]at f;rw[f,bnd];simp only;obtain⟨s,w,v,p,j⟩:=Wm hN ((x:Int),⟨c,h⟩) a (m,⟨g,b⟩) (o,⟨i,e⟩) x Z t x N 0 [] c h V Z V;exact end_rel d (Rel.bind q<|Rel.bind n<|Rel.bind k j) p
section
variable{I:List Int}(hI:I.length<=1200)
include hI
omit hI in
end
namespace Dk
open Go Go.Proofs Go.LX
theorem eqInt(a b:List Int):slices_Equal_int a b=some (decide (a=b)):=by
  unfold slices_Equal_int;by_cases h:a.length=b.length
  · rw[dF V];simp only[cond_false,Int.toNat_natCast];rw[L6 (fun x y=>decide (x=y)) a b h rfl (fun i x y f c d=>by
      unfold tQ;rw[lF,lF,c,d];by_cases e:x=y<;>simp[e]),Aj (fun _ _=>rfl)]
  · rw[dT V];have:a≠b:=fun e=>h (by rw[e]);rw[dF this];rfl
theorem rec_eq(r:Rec):fT r=iA r:=by
  unfold fT iA yx rY lv eG;have d:(((!(bu r.co 0 2))||(!(bu r.aR 0 100)))||(!(bu r.place 0 2)))=(((((decide ((r.co:Int)<0)||decide ((3:Int)<=r.co))||decide ((r.aR:Int)<0))||decide ((100:Int)<r.aR))||decide ((r.place:Int)<0))||decide ((3:Int)<=r.place)):=by
    unfold bu;rw[Bool.eq_iff_iff];simp;omega
  rw[d];generalize (((((decide ((r.co:Int)<0)||decide ((3:Int)<=r.co))||decide ((r.aR:Int)<0))||decide ((100:Int)<r.aR))||decide ((r.place:Int)<0))||decide ((3:Int)<=r.place))=C1;generalize (decide ((40:Int)<(r.says.length:Int))||decide ((1200:Int)<(r.image.length:Int)))=C2;generalize decide ((r.place:Int)≠0)=p0;generalize decide ((0:Int)<(r.says.length:Int))=s1;generalize decide ((0:Int)<(r.image.length:Int))=i1;generalize decide ((r.aR:Int)=0)=e0;have e:∀l:Str,(hasB l 73=true\/hasB l 73=false):=fun l=>by cases hasB l 73<;>simp
  by_cases k1:r.kind=1
  · rw[k1,show hasB ((lk (1:Int) ([(1,[73]),(2,[83,73]),(3,[80]),(4,[73]),(5,[])]:List (Int×Str))).getD []) 80=false by decide,show hasB ((lk (1:Int) ([(1,[73]),(2,[83,73]),(3,[80]),(4,[73]),(5,[])]:List (Int×Str))).getD []) 83=false by decide,show hasB ((lk (1:Int) ([(1,[73]),(2,[83,73]),(3,[80]),(4,[73]),(5,[])]:List (Int×Str))).getD []) 73=true by decide];cases C1<;>cases C2<;>cases p0<;>cases s1<;>cases i1<;>cases e0<;>rfl
  by_cases k2:r.kind=2
  · rw[k2,show hasB ((lk (2:Int) ([(1,[73]),(2,[83,73]),(3,[80]),(4,[73]),(5,[])]:List (Int×Str))).getD []) 80=false by decide,show hasB ((lk (2:Int) ([(1,[73]),(2,[83,73]),(3,[80]),(4,[73]),(5,[])]:List (Int×Str))).getD []) 83=true by decide,show hasB ((lk (2:Int) ([(1,[73]),(2,[83,73]),(3,[80]),(4,[73]),(5,[])]:List (Int×Str))).getD []) 73=true by decide];cases C1<;>cases C2<;>cases p0<;>cases s1<;>cases i1<;>cases e0<;>rfl
  by_cases a:r.kind=3
  · rw[a,show hasB ((lk (3:Int) ([(1,[73]),(2,[83,73]),(3,[80]),(4,[73]),(5,[])]:List (Int×Str))).getD []) 80=true by decide,show hasB ((lk (3:Int) ([(1,[73]),(2,[83,73]),(3,[80]),(4,[73]),(5,[])]:List (Int×Str))).getD []) 83=false by decide,show hasB ((lk (3:Int) ([(1,[73]),(2,[83,73]),(3,[80]),(4,[73]),(5,[])]:List (Int×Str))).getD []) 73=false by decide];cases C1<;>cases C2<;>cases p0<;>cases s1<;>cases i1<;>cases e0<;>rfl
  by_cases c:r.kind=4
  · rw[c,show hasB ((lk (4:Int) ([(1,[73]),(2,[83,73]),(3,[80]),(4,[73]),(5,[])]:List (Int×Str))).getD []) 80=false by decide,show hasB ((lk (4:Int) ([(1,[73]),(2,[83,73]),(3,[80]),(4,[73]),(5,[])]:List (Int×Str))).getD []) 83=false by decide,show hasB ((lk (4:Int) ([(1,[73]),(2,[83,73]),(3,[80]),(4,[73]),(5,[])]:List (Int×Str))).getD []) 73=true by decide];cases C1<;>cases C2<;>cases p0<;>cases s1<;>cases i1<;>cases e0<;>rfl
  by_cases b:r.kind=5
  · rw[b,show hasB ((lk (5:Int) ([(1,[73]),(2,[83,73]),(3,[80]),(4,[73]),(5,[])]:List (Int×Str))).getD []) 80=false by decide,show hasB ((lk (5:Int) ([(1,[73]),(2,[83,73]),(3,[80]),(4,[73]),(5,[])]:List (Int×Str))).getD []) 83=false by decide,show hasB ((lk (5:Int) ([(1,[73]),(2,[83,73]),(3,[80]),(4,[73]),(5,[])]:List (Int×Str))).getD []) 73=false by decide];cases C1<;>cases C2<;>cases p0<;>cases s1<;>cases i1<;>cases e0<;>rfl
  rw[show lk r.kind ([(1,[73]),(2,[83,73]),(3,[80]),(4,[73]),(5,[])]:List (Int×Str))=none by simp[lk,k1,k2,a,c,b]];rw[show(decide ((r.kind:Int)<1)||decide ((5:Int)<r.kind))=true by simp;omega];rfl
structure GoodR(r:Rec):Prop where
 kind:1<=r.kind/\r.kind<=5
 co:0<=r.co/\r.co<=2
 aR:1<=r.aR/\r.aR<=100
 place:0<=r.place/\r.place<=2
 says:r.says.length<=40
 image:r.image.length<=1200
 has:(r.kind=1\/r.kind=2\/r.kind=4)->1<=r.image.length
theorem goodR(r:Rec)(h:iA r=0):GoodR r:=by
 rw[<-rec_eq]at h;unfold fT at h;have hn:0<=(r.image.length:Int):=by omega
 generalize c:(decide ((r.kind:Int)<1)||decide ((5:Int)<r.kind))=A at h;cases A with
 |true=>simp only[cond_true]at h;exact absurd h zq1
 |false=>
 simp only[cond_false]at h;generalize d:(((((decide ((r.co:Int)<0)||decide ((3:Int)<=r.co))||decide ((r.aR:Int)<0))||decide ((100:Int)<r.aR))||decide ((r.place:Int)<0))||decide ((3:Int)<=r.place))=B at h;cases B with
 |true=>simp only[cond_true]at h;exact absurd h zq1
 |false=>
 simp only[cond_false]at h;generalize e:(decide ((40:Int)<(r.says.length:Int))||decide ((1200:Int)<(r.image.length:Int)))=C at h;cases C with
 |true=>simp only[cond_true]at h;exact absurd h zq1
 |false=>
 simp only[cond_false]at h;generalize b:((((decide ((r.kind:Int)≠3)&&decide ((r.place:Int)≠0))||(decide ((r.kind:Int)≠2)&&decide ((0:Int)<(r.says.length:Int))))||(((decide ((r.kind:Int)=1)||decide ((r.kind:Int)=2))||decide ((r.kind:Int)=4)) !=decide ((0:Int)<(r.image.length:Int))))||decide ((r.aR:Int)=0))=D at h;cases D with
 |true=>simp only[cond_true]at h;exact absurd h zq1
 |false=>
 simp only[Bool.or_eq_false_iff,decide_eq_false_iff_not,bne_eq_false_iff_eq]at c d e b;obtain⟨⟨⟨_,_⟩,a⟩,i⟩:=b;refine⟨by omega,by omega,by omega,by omega,by omega,by omega,fun g=>?_⟩;have:((decide ((r.kind:Int)=1)||decide ((r.kind:Int)=2))||decide ((r.kind:Int)=4))=true:=by
  simp;omega
 rw[this]at a;have f:decide ((0:Int)<(r.image.length:Int))=true:=by
  cases hq:decide ((0:Int)<(r.image.length:Int))with
  |true=>rfl
  |false=>rw[hq]at a;cases a
 have:=Xv f;omega
def RecW(r:Rec):Prop:=lK r.kind/\lK r.co/\lK r.aR/\lK r.place/\(∀x∈r.says,lK x)/\(∀x∈r.image,lK x)
def nl(r:Rec):List Int:=[r.kind,r.co,r.aR,r.place,(r.says.length:Int)]++r.says++r.image
def zR:Rec:=⟨0,0,0,0,[],[]⟩
def TZ(r:Rec):Str×Int:=if fT r=0 then(EX 32 ((nl r).map Lib.itoa),0)else([],fT r)
def Qu(l:List Int)(n:Nat):Rec:=⟨l.getD 0 0,l.getD 1 0,l.getD 2 0,l.getD 3 0,(l.take (5+n)).drop 5,l.drop (5+n)⟩
def Qv(l:List Int):Rec×Int:=
 if l.length<5 then(zR,1)else if l.getD 4 0<0\/(l.length:Int)-5<l.getD 4 0 then(zR,1)else
 if fT (Qu l (l.getD 4 0).toNat)=0 then(Qu l (l.getD 4 0).toNat,0)else(zR,fT (Qu l (l.getD 4 0).toNat))
def pz(s:Str):Rec×Int:=match Xp 32 s with|none=>(zR,1)|some l=>Qv l
def Qw(s:Str):Rec×Int:=if(60000:Int)<(s.length:Int)then(zR,2)else pz s
theorem ZZ:∀(w:List Str) (a:List Int),(∀x∈w,x.length<=60000)->a.length+w.length<=1000000->
    each Ad Ae w a=some (match w.mapM numOf with|some v=>(a++v,true)|none=>([],false))
  |[],a,_,_=>by simp[vw,Ae]
  |x::w,a,h,hl=>by
    have g:=h x zq3;simp only[List.length_cons]at hl;have c:=fun y=>ZZ w (a++[y]) (fun z f=>h z (List.mem_cons_of_mem _ f)) (by simp;omega);rw[jC,Ad,parseS_eq V,bnd,List.mapM_cons];cases e:Lib.atoiAll x with
    |ok v=>
      have d:lK v:=Lib.atoiAll_bounds e;simp only[cond_false];rw[itoaS_eq d,bnd,uF];by_cases b:Lib.itoa v=x
      · rw[dF (by simpa using b),cond_false,uL ⟨by simp;omega,by simp;omega⟩,c];have:numOf x=some v:=by simp[numOf,e,b]
        rw[this];cases e2:w.mapM numOf with
        |none=>rfl
        |some m=>simp
      · rw[dT b,cond_true];have:numOf x=none:=by simp[numOf,e,b]
        rw[this];rfl
    |range=>
      have:numOf x=none:=by simp[numOf,e]
      rw[this];rfl
    |_=>
      have:numOf x=none:=by simp[numOf,e]
      rw[this];rfl
theorem Wn:∀(w:List Str) (a:List Int),(∀x∈w,x.length<=60000)->a.length+w.length<=1000000->
    each xU qo w a=match w.mapM numOf with|some v=>qo (a++v)|none=>some (zR,1)
  |[],a,_,_=>by simp[vw]
  |x::w,a,h,hl=>by
    have g:=h x zq3;simp only[List.length_cons]at hl;have c:=fun y=>Wn w (a++[y]) (fun z f=>h z (List.mem_cons_of_mem _ f)) (by simp;omega);rw[jC,xU,atoiS_eq V,bnd,List.mapM_cons];cases e:Lib.atoiAll x with
    |ok v=>
      have d:lK v:=Lib.atoiAll_bounds e;simp only[cond_false];rw[itoaS_eq d,bnd,xS];by_cases b:Lib.itoa v=x
      · rw[dF (by simpa using b),cond_false,uL ⟨by simp;omega,by simp;omega⟩,c];have:numOf x=some v:=by simp[numOf,e,b]
        rw[this];cases e2:w.mapM numOf with
        |none=>rfl
        |some m=>simp
      · rw[dT b,cond_true];have:numOf x=none:=by simp[numOf,e,b]
        rw[this];rfl
    |range=>
      have:numOf x=none:=by simp[numOf,e]
      rw[this];rfl
    |_=>
      have:numOf x=none:=by simp[numOf,e]
      rw[this];rfl
theorem five{l:List Int}(h:¬l.length<5):∃a b c d n r,l=a::b::c::d::n::r:=by
 match l,h with
 |a::b::c::d::n::r,_=>exact⟨a,b,c,d,n,r,rfl⟩
 |[],h=>simp at h
 |[a],h=>simp at h
 |[a,b],h=>simp at h
 |[a,b,c],h=>simp at h
 |[a,b,c,d],h=>simp at h
theorem parse_k31(l:List Int)(o:l.length<=1000000)(hI:∀x∈l,lK x):qo l=some (Qv l):=by
  unfold qo Qv;by_cases f:l.length<5
  · rw[dT V,if_pos f];rfl
  · rw[dF V,if_neg f,cond_false];obtain⟨a,b,c,d,n,r,rfl⟩:=five f;have hn:lK n:=hI n zq3;have i:idx (a::b::c::d::n::r) 4=some n:=rfl;rw[i,bnd];have k:(a::b::c::d::n::r).getD 4 0=n:=rfl;rw[k];by_cases e:n<0
    · rw[dT e,if_pos (.inl e)];rfl
    · rw[dF e,cond_false];simp only[List.length_cons]at o⊢;rw[gI];by_cases h:((r.length+1+1+1+1+1:Nat):Int)-5<n
      · rw[dT h,if_pos (.inr h)];rfl
      · rw[dF h,if_neg V];unfold uy;obtain⟨m,rfl⟩:=Int.eq_ofNat_of_zero_le (show 0<=n by omega);rw[cond_false,show idx (a::b::c::d::(m:Int)::r) 0=some a from rfl,bnd,show idx (a::b::c::d::(m:Int)::r) 1=some b from rfl,bnd,show idx (a::b::c::d::(m:Int)::r) 2=some c from rfl,bnd,show idx (a::b::c::d::(m:Int)::r) 3=some d from rfl,bnd,show idx (a::b::c::d::(m:Int)::r) 4=some (m:Int)from rfl,bnd,gI];rw[show(5+(m:Int))=((5+m:Nat):Int) by omega,show(5:Int)=((5:Nat):Int)from rfl,sub_s V (by simp;omega),bnd,gI,sub_s (by simp;omega) (Nat.le_refl _),bnd,uP (by simp;omega) (by simp;omega),bnd,uP (by simp;omega) (by simp;omega),bnd];have j:((a::b::c::d::(m:Int)::r).take (a::b::c::d::(m:Int)::r).length).drop (5+m)=(a::b::c::d::(m:Int)::r).drop (5+m):=by rw[List.take_length]
        rw[j];unfold Ci;show(bif decide ((fT (Qu (a::b::c::d::(m:Int)::r) m):Int)≠0)then some (zR,fT<|Qu (a::b::c::d::(m:Int)::r) m)else some (Qu (a::b::c::d::(m:Int)::r) m,0))=_;rw[Int.toNat_natCast];by_cases g:fT (Qu (a::b::c::d::(m:Int)::r) m)=0
        · rw[dF V,if_pos g];rfl
        · rw[dT g,if_neg g];rfl
theorem parse_eq(s:Str):Ez s=some (Qw s):=by
  unfold Ez Qw;by_cases h:(60000:Int)<(s.length:Int)
  · rw[dT h,if_pos h];rfl
  · rw[dF h,if_neg h,cond_false];have d:=Jh 32 s;rw[splitS_eq 32 V,bnd,Wn _ [] (fun x a=>by have:=Ca 32 s x a;omega) (by simp;omega)];unfold pz;cases e:Xp 32 s with
    |none=>unfold Xp at e;rw[e]
    |some l=>
      have:=GL (show(kL 32 s).mapM numOf=some l from e);unfold Xp at e;rw[e];have c:l.length<=1000000:=by
        have b:=congrArg List.length this.1;rw[List.length_map]at b;omega
      simp only[List.nil_append];exact parse_k31 l c this.2
theorem nl_mk{l:List Int}{n:Nat}(i:5+n<=l.length)(f:l.getD 4 0=n):nl (Qu l n)=l:=by
 obtain⟨a,b,c,d,m,r,rfl⟩:=five (l:=l) V;have g:m=n:=f;subst g;simp only[List.length_cons]at i;have e:((a::b::c::d::(n:Int)::r).take (5+n)).drop 5=r.take n:=by
  rw[show 5+n=n+1+1+1+1+1 by omega];rfl
 have h:(a::b::c::d::(n:Int)::r).drop (5+n)=r.drop n:=by
  rw[show 5+n=n+1+1+1+1+1 by omega];rfl
 show [a,b,c,d,((((a::b::c::d::(n:Int)::r).take (5+n)).drop 5).length:Int)]++((a::b::c::d::(n:Int)::r).take (5+n)).drop 5++(a::b::c::d::(n:Int)::r).drop (5+n)=_;rw[e,h,List.length_take,show min n r.length=n by omega,List.append_assoc,List.take_append_drop];rfl
theorem read_ok{s:Str}{r:Rec}(h:pz s=(r,0)):fT r=0/\RecW r/\s=EX 32 ((nl r).map Lib.itoa):=by
  unfold pz at h;cases e:Xp 32 s with
  |none=>rw[e]at h;cases h
  |some l=>
    rw[e]at h;obtain⟨k,i,o⟩:=join_nums e;simp only at h;unfold Qv at h;split at h
    · cases h
    · rename_i p;split at h
      · cases h
      · rename_i g;split at h
        · rename_i c;obtain⟨m,f⟩:=Int.eq_ofNat_of_zero_le (show 0<=l.getD 4 0 by omega);rw[f]at h c g;simp only[Int.toNat_natCast]at h c;have j:Qu l m=r:=by injection h
          have b:=nl_mk (l:=l) (n:=m) V f;rw[j]at b c;refine⟨c,?_,by rw[b];exact k⟩;have a:∀x∈nl r,lK x:=by rw[b];exact i
          refine⟨a _ (by simp[nl]),a _ (by simp[nl]),a _ (by simp[nl]),a _ (by simp[nl]),fun x d=>a x (by simp[nl,d]),fun x d=>a x (by simp[nl,d])⟩
        · rename_i c;exact absurd (congrArg Prod.snd h) c
def r0:Rec:=⟨2,1,2,0,[7,-8],[1]⟩
def T9(a:Int):List Str->List Rec->Int->List Rec×Int×Int
 |[],l,n=>(l,n,0)
 |[x],l,n=>if x=[]then(l,n,0)else(l,n,8)
 |x::y::r,l,n=>if(pz x).2≠0 then(l,n,(pz x).2)else if a<=(l.length:Int)then(l,n,2)else T9 a (y::r) (l++[(pz x).1]) (n+(x.length:Int)+1)
def ln(a:Int)(s:Str):List Rec×Int×Int:=T9 a (kL 10 s) [] 0
theorem lnP_cons{a:Int}{x:Str}{q:List Str}{l:List Rec}{n:Int}(b:q≠[]):T9 a (x::q) l n=if(pz x).2≠0 then(l,n,(pz x).2)else if a<=(l.length:Int)then(l,n,2)else T9 a q (l++[(pz x).1]) (n+(x.length:Int)+1):=by
 cases q with
 |nil=>exact absurd Z b
 |cons y r=>rfl
theorem joinC_len2(c:UInt8)(x y:Str)(l:List Str):(EX c (x::y::l)).length=x.length+1+(EX c (y::l)).length:=by
 rw[EY,List.length_append,List.length_cons];omega
theorem lnP_len(a:Int):∀(p:List Str) (l:List Rec) (n:Int),0<=n->n<=(T9 a p l n).2.1/\(T9 a p l n).2.1<=n+(EX 10 p).length/\(T9 a p l n).1.length+0<=l.length+p.length/\l.length<=(T9 a p l n).1.length/\((l.length:Int)<=a->((T9 a p l n).1.length:Int)<=a)
  |[],l,n,hn=>by simp[T9];omega
  |[x],l,n,hn=>by
    unfold T9;split<;>simp<;>omega
  |x::y::r,l,n,hn=>by
    have c:=joinC_len2 10 x y r;unfold T9;split
    · simp;omega
    · split
      · simp;omega
      · have b:=lnP_len a (y::r) (l++[(pz x).1]) (n+(x.length:Int)+1) V;simp only[List.length_append,List.length_cons,List.length_nil]at b⊢;omega
theorem lines_loop(a:Str)(b:Int)(k:a.length<=60000):∀(p:List Str) (s:Str) (l:List Rec) (N:Nat),kL 10 s=p->s.length<=a.length->p.length<=N->l.length+p.length<=60001->(l.length:Int)<=b->
    again (yL a b) N (s,l)=some (T9 b p l ((a.length:Int)-(s.length:Int))):=by
  intro p;induction p with
  |nil=>intro s l N hp;exact absurd hp (Hu 10 s)
  |cons x q ih=>
    intro s l N hp m hN j n;cases N with
    |zero=>simp at hN
    |succ N=>
    rw[again,yL];cases q with
    |nil=>
      obtain⟨rfl,e⟩:=WN hp;by_cases c:s=[]
      · subst c;rw[dF zq3,cond_false];simp[T9]
      · rw[dT c,cond_true,cutS_free e V,bnd];simp only[Bool.not_false,cond_true];rw[gI];simp[T9,c]
    |cons y r=>
      obtain⟨t,rfl,i,e⟩:=splitC_cons hp;have f:(x++10::t).length=x.length+1+t.length:=by simp;omega
      rw[dT zq3,cond_true,cutS_hit e V,bnd];simp only[Bool.not_true,cond_false];have d:Qw x=pz x:=by unfold Qw;rw[if_neg V]
      rw[parse_eq,bnd,d,lnP_cons zq3];by_cases g:(pz x).2=0
      · rw[dF V,cond_false,if_neg V];by_cases h:(l.length:Int)=b
        · rw[dT h,cond_true,gI,if_pos V]
        · rw[dF h,cond_false,if_neg V];simp only[List.length_cons]at hN j;rw[uL ⟨by simp;omega,by simp;omega⟩,ih t (l++[(pz x).1]) N i V (by simp;omega) (by simp;omega) (by simp;omega)];congr 2;omega
      · rw[dT g,cond_true,gI,if_pos g]
theorem Wo(N:Nat)(a:Str)(b:Int)(hN:60002<=N)(d:a.length<=60000)(c:0<=b):Cj N a b=some (ln b a):=by
 unfold Cj ln;have e:=Jh 10 a;rw[lines_loop a b d (kL 10 a) a [] N rfl (Nat.le_refl _) V (by simp;omega) (by simpa using c)];congr 2;omega
theorem eqByte(a b:Str):sQ a b=some (decide (a=b)):=by
  unfold sQ;by_cases h:a.length=b.length
  · rw[dF V];simp only[cond_false,Int.toNat_natCast];rw[L6 (fun x y=>decide (x=y)) a b h rfl (fun i x y f c d=>by
      unfold xG;rw[lF,lF,c,d];by_cases e:x=y
      · subst e;simp
      · have:¬((x.toNat:Int)=(y.toNat:Int)):=fun h=>e<|UInt8.toNat_inj.1 V;simp[e,this]),Aj (fun _ _=>rfl)]
  · rw[dT V];have:a≠b:=fun e=>h (by rw[e]);rw[dF this];rfl
theorem diskSame(a b:iK):MB a b=some (decide (a=b)):=by
 unfold MB;rw[eqByte,eqByte];obtain⟨d,h⟩:=a;obtain⟨f,e⟩:=b;simp only[iK.mk.injEq,bnd];by_cases c:d=f<;>by_cases g:h=e<;>simp[c,g]
theorem bcat5:∀(l:List Str) (a:Str),a.length+(l.map List.length).sum<=1000000->each rA rC l a=some (a++l.flatten)
 |[],a,_=>by simp[vw,rC]
 |x::l,a,h=>by
  simp only[List.map_cons,List.sum_cons]at h;rw[jC,rA,uL ⟨by omega,by omega⟩,bcat5 l (a++x) (by rw[List.length_append];omega)];simp
theorem bcat7(a:List Str):∀(l:List Str) (n:Nat),n+(l.map List.length).sum<=1000000->each rD (nU a) l (n:Int)=nU a ((n+(l.map List.length).sum:Nat):Int)
 |[],n,_=>by simp[vw]
 |x::l,n,h=>by
  simp only[List.map_cons,List.sum_cons]at h⊢;rw[jC,rD,gI,dF V,cond_false,show((n:Int)+(x.length:Int))=((n+x.length:Nat):Int) by omega,bcat7 a l (n+x.length) V,Nat.add_assoc]
theorem bcat(a b:Str)(h:a.length+b.length<=1000000):qU [a,b]=some (a++b):=by
 unfold qU;have:=bcat7 [a,b] [a,b] 0 (by simp;omega);rw[show((0:Nat):Int)=0 from rfl]at this;rw[this];unfold nU;rw[show SX 1 ((0+([a,b].map List.length).sum:Nat):Int)=some ([]:Str) by unfold SX;rw[uL ⟨by omega,by simp;omega⟩],bnd,bcat5 [a,b] [] (by simp;omega)];simp
def zD:iK:=⟨[],[]⟩
def pI(d:iK):Int:=if 60000<d.safe.length\/60000<d.safe.length+d.wait.length then 2 else(ln 120 d.safe).2.2
theorem check_eq(N:Nat)(hN:60002<=N)(d:iK)(b:d.wait.length<=9223372036854775807):tq N d=some (pI d):=by
  unfold tq pI;by_cases h:60000<d.safe.length
  · rw[dT V,cond_true,if_pos (.inl h)];rfl
  · rw[dF V,cond_false,gI];by_cases a:60000<d.safe.length+d.wait.length
    · rw[dT V,if_pos (.inr a)];rfl
    · rw[dF V,if_neg V];unfold CV;rw[cond_false,Wo N d.safe 120 hN V V,bnd]
theorem yQ{d:iK}(h:pI d=0):d.safe.length+d.wait.length<=60000/\(ln 120 d.safe).2.2=0:=by
  unfold pI at h;split at h
  · cases h
  · exact⟨by omega,h⟩
def putT(d:iK)(r:Rec):iK×Int:=
 if(TZ r).2≠0 then(zD,(TZ r).2)else if 60000<d.safe.length+d.wait.length+(TZ r).1.length+1 then(zD,2)else(⟨d.safe,d.wait++(TZ r).1++[10]⟩,0)
def Z0(d:iK)(r:Rec):iK×Int:=if pI d≠0 then(zD,pI d)else putT d r
def syncT(d:iK):iK×Int:=if pI ⟨d.safe++d.wait,[]⟩≠0 then(zD,pI ⟨d.safe++d.wait,[]⟩)else(⟨d.safe++d.wait,[]⟩,0)
def dSync(d:iK):iK×Int:=if pI d≠0 then(zD,pI d)else syncT d
def dCrash(d:iK)(n:Int):iK×Int:=if pI d≠0 then(zD,pI d)else if n<0\/(d.wait.length:Int)<n then(zD,3)else(⟨d.safe,d.wait.take n.toNat⟩,0)
def Wp(d:iK):iK×List Rec:=
 (⟨d.safe++d.wait.take (ln (120-((ln 120 d.safe).1.length:Int)) d.wait).2.1.toNat,[]⟩,(ln 120 d.safe).1++(ln (120-((ln 120 d.safe).1.length:Int)) d.wait).1)
def Wq(d:iK):iK×List Rec×Int:=if pI d≠0 then(zD,[],pI d)else((Wp d).1,(Wp d).2,0)
theorem Z4(a:Int)(s:Str):0<=(ln a s).2.1/\(ln a s).2.1<=s.length/\(ln a s).1.length<=s.length+1/\(0<=a->((ln a s).1.length:Int)<=a):=by
 have h:=lnP_len a (kL 10 s) [] 0<|Int.le_refl 0;have b:=Jh 10 s;rw[zI]at h;unfold ln;simp only[List.length_nil]at h;omega
theorem recover_eq(N:Nat)(hN:60002<=N)(d:iK)(a:d.wait.length<=9223372036854775807):qb N d=some (Wq d):=by
  unfold qb Wq Wp;rw[check_eq N hN d a,bnd];by_cases h:pI d=0
  · obtain⟨b,_⟩:=yQ h;have k1:=Z4 120 d.safe;rw[dF V,cond_false,if_neg V,Wo N d.safe 120 hN V V,bnd,gI,Wo N d.wait _ hN V V,bnd];have k2:=Z4 (120-((ln 120 d.safe).1.length:Int)) d.wait;generalize ln (120-((ln 120 d.safe).1.length:Int)) d.wait=y at*;obtain⟨f,c,e⟩:=y;simp only at k2⊢;obtain⟨m,rfl⟩:=Int.eq_ofNat_of_zero_le k2.1;rw[show(0:Int)=((0:Nat):Int)from rfl,sub_s V V,bnd,List.drop_zero,bcat _ _ (by simp;omega),bnd,uL ⟨by omega,by omega⟩,Int.toNat_natCast]
  · rw[dT h,cond_true,if_pos h];rfl
def lineOf(r:Rec):Str:=EX 32 ((nl r).map Lib.itoa)
def GoodL(l:List Rec):Prop:=∀r∈l,fT r=0/\RecW r
def txt:List Rec->Str
 |[]=>[]
 |r::l=>lineOf r++10::txt l
theorem Z5:∀(a b:List Rec),txt (a++b)=txt a++txt b
 |[],b=>rfl
 |r::a,b=>by simp[txt,Z5 a b]
theorem LP:GoodL []:=fun r h=>by cases h
theorem coSame(a b:List Co):Fs a b=some (decide (a=b)):=by
  unfold Fs;by_cases h:a.length=b.length
  · rw[dF V];simp only[cond_false];rw[Jg (fun x y=>decide (x=y)) a b h rfl (fun i x y j c=>by
      unfold Fq Be;rw[lF,c];simp only[bnd,eqInt];have e:(((decide (x.lY=y.lY)&&decide (x.aR=y.aR))&&decide (x.offered=y.offered))&&decide (x.image=y.image))=decide (x=y):=by
        cases x;cases y;rw[Bool.eq_iff_iff];simp;exact⟨fun⟨⟨⟨d,c⟩,g⟩,f⟩=>⟨d,c,f,g⟩,fun⟨d,c,f,g⟩=>⟨⟨⟨d,c⟩,g⟩,f⟩⟩
      rw[<-e];cases ((decide (x.lY=y.lY)&&decide (x.aR=y.aR))&&decide (x.offered=y.offered))<;>cases decide (x.image=y.image)<;>rfl),Aj (fun _ _=>rfl)]
  · rw[dT V];have:a≠b:=fun e=>h (by rw[e]);rw[dF this];rfl
def coOk(x:Co):Prop:=0<=x.lY/\x.lY<=2/\1<=x.aR/\x.aR<=100/\ -1<=x.offered/\x.offered<=2/\1<=x.image.length/\x.image.length<=1200
def rg(x:Co):Bool:=(((((decide ((x.lY:Int)<0)||decide ((3:Int)<=x.lY))||decide ((x.aR:Int)<1))||decide ((100:Int)<x.aR))||decide ((x.offered:Int)< -1))||decide ((3:Int)<=x.offered))
def mn(x:Co):Bool:=(decide (((x.image.length:Int):Int)=0)||decide ((1200:Int)<(x.image.length:Int)))
theorem rg_eq(x:Co):(((!(bu x.lY 0 2))||(!(bu x.aR 1 100)))||(!(bu x.offered (-1) 2)))=rg x:=by
 unfold bu rg;rw[Bool.eq_iff_iff];simp;omega
theorem mn_eq(x:Co):(!(bu (x.image.length:Int) 1 1200))=mn x:=by
 have hn:0<=(x.image.length:Int):=by omega
 unfold bu mn;generalize (x.image.length:Int)=n at hn⊢;rw[Bool.eq_iff_iff];simp;omega
theorem coOk_iff(x:Co):coOk x↔rg x=false/\mn x=false:=by
 have hn:0<=(x.image.length:Int):=by omega
 unfold coOk rg mn;rw[show(1<=x.image.length)=(1<=(x.image.length:Int)) by simp;omega,show(x.image.length<=1200)=((x.image.length:Int)<=1200) by simp;omega];generalize (x.image.length:Int)=n at hn⊢;simp;omega
theorem chkEq(a:List Co):Gy a=some (iB a):=by
  unfold Gy iB;by_cases h:(3:Int)<(a.length:Int)
  · rw[dT h];rfl
  · rw[dF h];simp only[cond_false];have f:∀(k:List Co) (i:Nat) (b:Int),(∀j,k[j]? =a[i+j]?)->(i=0->b= -1)->(∀j,i=j+1->∃y,a[j]? =some y/\y.lY=b)->i<=a.length->fO (vL a) zb (i:Int) k ()=some (each jM kC k b):=by
      intro k;induction k with
      |nil=>intro i b _ _ _ _;rfl
      |cons x k ih=>
        intro i b l q o r;rw[zl,jC];have g:a[i]? =some x:=by have:=l 0;simpa using this.symm
        have n:i<a.length:=by
          rcases Nat.lt_or_ge i a.length with h|h
          · exact h
          · rw[List.getElem?_eq_none h]at g;cases g
        have c:=ih (i+1) x.lY (fun j=>by have:=l (j+1);simpa[Nat.add_assoc,Nat.add_comm 1 j]using this) V (fun j m=>⟨x,by rw[show j=i by omega];exact g,Z⟩) V;rw[show((i+1:Nat):Int)=(i:Int)+1 from rfl]at c;generalize fO (vL a) zb ((i:Int)+1) k=nx at c⊢;generalize each jM kC k=nx2 at c⊢;unfold vL jM;rw[rg_eq,mn_eq,<-rg,<-mn];cases hr:rg x with
        |true=>rfl
        |false=>
        cases hm:mn x with
        |true=>rfl
        |false=>
        have e:=(coOk_iff x).2 ⟨hr,hm⟩;simp only[cond_false];unfold za;cases i with
        |zero=>
          rw[q rfl,dF (show¬x.lY<= -1 by have:=e.1;omega)];simpa using c
        |succ j=>
          obtain⟨y,p,d⟩:=o j Z;rw[dT (show(0:Int)<((j+1:Nat):Int) by omega),show((j+1:Nat):Int)-1=(j:Int) by omega,gI,lF,p];simp only[cond_true,bnd,d];cases decide (x.lY<=b)with
          |true=>rfl
          |false=>exact c
    exact f a 0 (-1) (fun j=>by simp) (fun _=>rfl) (fun j m=>by omega) V
abbrev Up(l:List Co):Prop:=l.Pairwise (fun x y=>x.lY<y.lY)
theorem each_ok:∀(l:List Co) (a:Int),each jM kC l a=0↔(∀x∈l,coOk x)/\Up l/\∀x∈l,a<x.lY
  |[],a=>by simp[vw,kC]
  |x::r,a=>by
    rw[jC];have g:=each_ok r x.lY;generalize each jM kC r=nx at g⊢;unfold jM;rw[rg_eq,mn_eq];have c:=coOk_iff x;cases hr:rg x with
    |true=>
      simp only[cond_true];constructor
      · intro h;exact absurd h zq1
      · intro h;have:=(c.1<|h.1 x List.mem_cons_self).1;rw[hr]at this;cases this
    |false=>
    cases hm:mn x with
    |true=>
      simp only[cond_true,cond_false];constructor
      · intro h;exact absurd h zq1
      · intro h;have:=(c.1<|h.1 x List.mem_cons_self).2;rw[hm]at this;cases this
    |false=>
    have ho:=c.2 ⟨hr,hm⟩;simp only[cond_false];by_cases i:x.lY<=a
    · rw[dT i];simp only[cond_true];constructor
      · intro h;exact absurd h zq1
      · intro h;have:=h.2.2 x List.mem_cons_self;omega
    · rw[dF i];simp only[cond_false];rw[g];show _↔_/\List.Pairwise _ (x::r)/\_;rw[List.pairwise_cons];constructor
      · rintro⟨e,f,d⟩;refine⟨?_,⟨d,f⟩,?_⟩
        · intro y b;rcases List.mem_cons.1 b with rfl|b
          · exact ho
          · exact e y b
        · intro y b;rcases List.mem_cons.1 b with rfl|b
          · omega
          · have:=d y b;omega
      · rintro⟨e,⟨f,d⟩,j⟩;exact⟨fun y b=>e y<|List.mem_cons_of_mem _ b,d,f⟩
structure Good(l:List Co):Prop where
 len:l.length<=3
 ok:∀x∈l,coOk x
 up:Up l
theorem good_iff(l:List Co):iB l=0↔Good l:=by
  unfold iB;by_cases h:(3:Int)<(l.length:Int)
  · rw[dT h];simp only[cond_true];exact⟨fun h=>absurd h zq1,fun g=>by have:=g.len;omega⟩
  · rw[dF h];simp only[cond_false];rw[each_ok];exact⟨fun⟨a,c,_⟩=>⟨by omega,a,c⟩,fun g=>⟨g.ok,g.up,fun x b=>by have:=(g.ok x b).1;omega⟩⟩
def EG(c:Co):List Co->List Co
 |[]=>[c]
 |x::r=>if x.lY<c.lY then x::EG c r else c::x::r
def Kn(b:Rec)(l:List Co):List Co:=l.filter fun x=>decide (x.lY≠b.co)
def OP(b:Rec)(l:List Co):Option Co:=l.find? fun x=>decide (x.lY=b.co)
def yz(a:List Co)(b:Rec):List Co×Int:=
 if iB a≠0 then([],iB a)else if iA b≠0 then([],iA b)else
 match OP b a with
 |none=>if b.kind=1\/b.kind=4 then(if(decide (b.aR=1) !=decide (b.kind=1))=true then([],7)else(EG ⟨b.co,b.aR,b.image,-1⟩ (Kn b a),0))else([],5)
 |some c=>if b.kind=1\/b.kind=4 then([],6)else if(decide (b.aR≠c.aR)||(decide (c.offered≠ -1) !=decide (b.kind=5)))=true then([],7)else
  if b.kind=5 then(Kn b a,0)else if b.kind=2 then(EG ⟨c.lY,c.aR,b.image,c.offered⟩ (Kn b a),0)else if c.aR=100 then([],2)else(EG ⟨c.lY,c.aR,c.image,b.place⟩ (Kn b a),0)
theorem oth_up(b:Rec){l:List Co}(h:Up l):Up (Kn b l):=h.filter _
theorem Ua{b:Rec}{l:List Co}{x:Co}(h:x∈Kn b l):x∈l/\x.lY≠b.co:=by
 unfold Kn at h;rw[List.mem_filter]at h;exact⟨h.1,by simpa using h.2⟩
theorem coCopy{a:List Co}(h:a.length<=3)(e:∀x∈a,x.image.length<=1200):Fj a=some a:=by
 unfold Fj;rw[uP V V];simp only[bnd,Int.toNat_natCast];have c:∀(m i:Nat),i+m=a.length->upto tu yM (i:Int) m a=some a:=by
  intro m;induction m with
  |zero=>intro i _;rfl
  |succ m ih=>
   intro i f;have d:i<a.length:=by omega
   show tu (i:Int) a (upto tu yM ((i:Int)+1) m)=_;have b:=ih (i+1) V;rw[show((i+1:Nat):Int)=(i:Int)+1 from rfl]at b;generalize upto tu yM ((i:Int)+1) m=nx at b⊢;unfold tu;rw[BZ d];have:=e a[i]<|List.getElem_mem d;simp only[bnd];rw[uP V V];simp only[bnd,Int.toNat_natCast];rw[show({a[i]with image:=a[i].image}:Co)=a[i]from rfl,List.set_getElem_self];exact b
 simpa using c a.length 0 V
theorem findEq(a:List Co)(k:Int):zu a k=some (match a.findIdx? (fun x=>decide (x.lY=k))with|some n=>(n:Int)|none=> -1):=by
 unfold zu;simp only[Int.toNat_natCast];rw[upto_find (fun x=>decide (x.lY=k)) (fun i=>some i) a (fun i x c b=>by
  unfold GX;rw[lF,b];rfl)]
 cases a.findIdx? (fun x=>decide (x.lY=k))<;>rfl
theorem Ws(b:Rec):∀(a:List Co),(OP b a=none/\a.findIdx? (fun x=>decide (x.lY=b.co))=none/\Kn b a=a)\/
    ∃n x,OP b a=some x/\a.findIdx? (fun x=>decide (x.lY=b.co))=some n/\a[n]? =some x/\x.lY=b.co
  |[]=>.inl ⟨rfl,rfl,rfl⟩
  |x::r=>by
    unfold OP Kn;rw[List.find?_cons,List.findIdx?_cons,List.filter_cons];by_cases h:x.lY=b.co
    · exact .inr ⟨0,x,by simp[h],by simp[h],Z,h⟩
    · simp only[h,decide_false,Bool.false_eq_true,if_false,ne_eq,not_false_eq_true,decide_true,if_true];rcases Ws b r with⟨h1,h2,h3⟩|⟨n,y,h1,h2,h3,h4⟩
      · exact .inl ⟨h1,by rw[h2];rfl,by unfold Kn at h3;rw[h3]⟩
      · exact .inr ⟨n+1,y,h1,by rw[h2];rfl,by simpa using h3,h4⟩
theorem Z6(b:Rec):∀(a:List Co) (n:Nat) (x y:Co),Up a->a[n]? =some x->x.lY=b.co->y.lY=b.co->a.set n y=EG y (Kn b a)
 |[],n,x,y,_,h,_,_=>by simp at h
 |z::r,0,x,y,hu,h,hx,hy=>by
  simp only[List.getElem?_cons_zero,Option.some.injEq]at h;subst h;rw[Up,List.pairwise_cons]at hu;have d:Kn b (z::r)=r:=by
   unfold Kn;rw[List.filter_cons,if_neg (by simp[hx]),List.filter_eq_self];intro u c;have:=hu.1 u c;simp;omega
  rw[d,List.set_cons_zero];cases r with
  |nil=>rfl
  |cons u r=>
   have:=hu.1 u List.mem_cons_self;simp only[EG];rw[if_neg V]
 |z::r,n+1,x,y,hu,h,hx,hy=>by
  simp only[List.getElem?_cons_succ]at h;rw[Up,List.pairwise_cons]at hu;have e:=hu.1 x<|List.mem_of_getElem? h;have d:Kn b (z::r)=z::Kn b r:=by unfold Kn;rw[List.filter_cons,if_pos (by simp;omega)]
  rw[d,List.set_cons_succ,Z6 b r n x y hu.2 h hx hy];simp only[EG];rw[if_pos V]
theorem Z7(b:Rec):∀(a:List Co) (n:Nat) (x:Co),Up a->a[n]? =some x->x.lY=b.co->a.take n++a.drop (n+1)=Kn b a
 |[],n,x,_,h,_=>by simp at h
 |z::r,0,x,hu,h,hx=>by
  simp only[List.getElem?_cons_zero,Option.some.injEq]at h;subst h;rw[Up,List.pairwise_cons]at hu;unfold Kn;rw[List.filter_cons,if_neg (by simp[hx])];have:r.filter (fun x=>decide<|x.lY≠b.co)=r:=by
   rw[List.filter_eq_self];intro u c;have:=hu.1 u c;simp;omega
  rw[this];simp
 |z::r,n+1,x,hu,h,hx=>by
  simp only[List.getElem?_cons_succ]at h;rw[Up,List.pairwise_cons]at hu;have e:=hu.1 x<|List.mem_of_getElem? h;have d:Kn b (z::r)=z::Kn b r:=by unfold Kn;rw[List.filter_cons,if_pos (by simp;omega)]
  rw[d,<-Z7 b r n x hu.2 h hx];simp
theorem ins_loop(b:Rec)(a:List Co)(f:a.length<=3)(g:b.image.length<=1200):∀(k i N:Nat),i+k=a.length->k<N->again (j3 a b) N (i:Int)=some (a.take i++EG ⟨b.co,b.aR,b.image,-1⟩ (a.drop i),0)
  |0,i,N+1,h,_=>by
    show j3 a b (i:Int) (again (j3 a b) N)=_;generalize again (j3 a b) N=nx;unfold j3 xq;rw[dF V];simp only[cond_false];rw[uP V V];simp only[bnd];rw[uL (Room.mk (by simp;omega) (by simp;omega)),ins1,if_pos ⟨by omega,by omega⟩];rw[List.drop_eq_nil_of_le (show a.length<=i by omega)];simp[EG,show a.drop i=[]from List.drop_eq_nil_of_le V]
  |k+1,i,N+1,h,hN=>by
    have c:i<a.length:=by omega
    have e:=ins_loop b a f g k (i+1) N V V;rw[show((i+1:Nat):Int)=(i:Int)+1 from rfl]at e;show j3 a b (i:Int) (again (j3 a b) N)=_;generalize again (j3 a b) N=nx at e⊢;unfold j3 xq;rw[dT V,BZ c];simp only[cond_true,bnd];by_cases d:a[i].lY<b.co
    · rw[dT d];simp only[cond_true];rw[gI,e,List.drop_eq_getElem_cons c];simp only[EG];rw[if_pos d,List.take_succ_eq_append_getElem c,List.append_assoc,List.singleton_append]
    · rw[dF d];simp only[cond_false];rw[uP V V];simp only[bnd];rw[uL (Room.mk (by simp;omega) (by simp;omega)),ins1,if_pos ⟨by omega,by omega⟩];simp only[bnd,Int.toNat_natCast];rw[List.drop_eq_getElem_cons c];simp only[EG];rw[if_neg d,List.append_assoc,List.singleton_append]
theorem next_eq(N:Nat)(hN:5<N)(a:List Co)(b:Rec):Ck N a b=some (yz a b):=by
  unfold Ck yz;rw[chkEq];simp only[bnd];by_cases e:iB a=0
  · rw[rec_eq];by_cases j:iA b=0
    · have g:=(good_iff a).1 e;have gr:=goodR b j;have gl:=g.len;rw[e,j];simp only[ne_eq,not_true_eq_false,decide_false,cond_false,if_false];rw[coCopy g.len (fun x s=>(g.ok x s).2.2.2.2.2.2.2)];simp only[bnd];rw[findEq];simp only[bnd];have p:=gr.kind;have f:(decide ((b.kind:Int)=1)||decide ((b.kind:Int)=4))=decide (b.kind=1\/b.kind=4):=by simp
      rw[f];rcases Ws b a with⟨e1,e2,e3⟩|⟨n,c,e1,e2,e3,e4⟩
      · rw[e1,e2];simp only;by_cases d:b.kind=1\/b.kind=4
        · rw[dT d,if_pos d];simp only[cond_true];rw[show decide ((0:Int)<= -1)=false by decide];simp only[cond_false];have t:((decide ((b.kind:Int)=1)&&decide ((b.aR:Int)≠1))||(decide ((b.kind:Int)=4)&&decide ((b.aR:Int)=1)))=(decide (b.aR=1) !=decide (b.kind=1)):=by
            by_cases q:b.aR=1
            · rcases d with k|k<;>simp[q,k]
            · rcases d with k|k<;>simp[q,k]
          rw[t];cases (decide (b.aR=1) !=decide (b.kind=1))with
          |true=>rfl
          |false=>
            simp only[cond_false,Bool.false_eq_true,if_false];have:=ins_loop b a g.len gr.image a.length 0 N V V;simp only[Int.natCast_zero,List.take_zero,List.drop_zero,List.nil_append]at this;rw[this,e3]
        · rw[dF d,if_neg d];simp only[cond_false];rw[show decide ((-1:Int)<0)=true by decide];rfl
      · have hn:n<a.length:=by
          rcases Nat.lt_or_ge n a.length with h|h
          · exact h
          · rw[List.getElem?_eq_none h]at e3;cases e3
        have l:=g.ok c<|List.mem_of_getElem? e3;rw[e1,e2];simp only;by_cases d:b.kind=1\/b.kind=4
        · rw[dT d,if_pos d];simp only[cond_true];rw[dT (show(0:Int)<=(n:Int) by omega)];rfl
        · rw[dF d,if_neg d];simp only[cond_false];rw[dF (show¬(n:Int)<0 by omega),lF,e3];simp only[cond_false,bnd];have ho:decide ((0:Int)<=c.offered)=decide (c.offered≠ -1):=by
            rw[decide_eq_decide];have:=l.2.2.2.2.1;omega
          have r:(bif decide (c.aR≠b.aR)then qV b a (n:Int) c true else qV b a (n:Int) c (decide (b.kind=5) !=decide ((0:Int)<=c.offered)))=qV b a (n:Int) c (decide (b.aR≠c.aR)||(decide (c.offered≠ -1) !=decide (b.kind=5))):=by
            rw[ho];by_cases q:b.aR=c.aR
            · rw[q];simp only[ne_eq,not_true_eq_false,decide_false,cond_false,Bool.false_or];cases decide (b.kind=5)<;>cases decide (¬c.offered= -1)<;>rfl
            · rw[show decide (c.aR≠b.aR)=true from dT (fun h=>q h.symm),show decide (b.aR≠c.aR)=true from dT q];rfl
          refine r.trans ?_;unfold qV;cases (decide (b.aR≠c.aR)||(decide (c.offered≠ -1) !=decide (b.kind=5)))with
          |true=>rfl
          |false=>
            simp only[cond_false,Bool.false_eq_true,if_false];by_cases k2:b.kind=2
            · rw[dT k2,if_neg V,if_pos k2];simp only[cond_true];rw[uP (by have:=gr.image;omega) (by have:=gr.image;omega)];simp only[bnd,Int.toNat_natCast];rw[Z6 b a n c {c with image:=b.image} g.up e3 e4 e4]
            · rw[dF k2,if_neg k2];simp only[cond_false];by_cases o:b.kind=3
              · rw[dT o,if_neg V];simp only[cond_true];by_cases i:c.aR=100
                · rw[dT i,if_pos i];rfl
                · rw[dF i,if_neg i];simp only[cond_false,Int.toNat_natCast];rw[Z6 b a n c {c with offered:=b.place} g.up e3 e4 e4]
              · have m:b.kind=5:=by omega
                rw[dF o,dT m,if_pos m];simp only[cond_false,cond_true];rw[gI,del_s1 hn];simp only[bnd];rw[Z7 b a n c g.up e3 e4]
    · rw[e];simp only[ne_eq,not_true_eq_false,decide_false,cond_false,if_false];rw[show decide (¬iA b=0)=true from dT j,if_pos j];rfl
  · rw[show decide (iB a≠0)=true from dT e,if_pos e];rfl
def zC:List Co->List Rec->List Co×Int
 |s,[]=>(s,0)
 |s,r::l=>if(yz s r).2≠0 then([],(yz s r).2)else zC (yz s r).1 l
theorem rep_each(N:Nat)(hN:5<N):∀(l:List Rec) (s:List Co),each (ze N) zf l s=some (zC s l)
  |[],s=>by simp[vw,zf,zC]
  |r::l,s=>by
    rw[jC,ze,next_eq N hN,bnd,zC];by_cases h:(yz s r).2=0
    · rw[dF V,cond_false,if_neg V,rep_each N hN l]
    · rw[dT h,cond_true,if_pos h]
theorem YB(N:Nat)(hN:5<N)(l:List Rec):Bd N l=some (if 120<l.length then([],2)else zC [] l):=by
  unfold Bd;by_cases h:120<l.length
  · rw[dT V,cond_true,if_pos h]
  · rw[dF V,cond_false,if_neg h,rep_each N hN]
theorem LQ{c y:Co}:∀{l:List Co},y∈EG c l↔y=c\/y∈l
  |[]=>by simp[EG]
  |x::r=>by
    unfold EG;split
    · rw[List.mem_cons,LQ,List.mem_cons];constructor
      · rintro(h|h|h)
        · exact .inr<|.inl h
        · exact .inl h
        · exact .inr<|.inr h
      · rintro(h|h|h)
        · exact .inr<|.inl h
        · exact .inl h
        · exact .inr<|.inr h
    · rw[List.mem_cons]
theorem DX{c:Co}:∀{l:List Co},(EG c l).length=l.length+1
  |[]=>rfl
  |x::r=>by
    unfold EG;split
    · rw[List.length_cons,DX,List.length_cons]
    · rfl
theorem insC_up{c:Co}:∀{l:List Co},Up l->(∀x∈l,x.lY≠c.lY)->Up (EG c l)
  |[],_,_=>by simp[EG,Up]
  |x::r,h,hn=>by
    rw[Up,List.pairwise_cons]at h;have b:=hn x List.mem_cons_self;unfold EG;split
    · next hl=>
      show List.Pairwise _ _;rw[List.pairwise_cons];refine⟨fun y a=>?_,insC_up h.2 fun y a=>hn y<|List.mem_cons_of_mem _ a⟩;rcases LQ.1 a with rfl|a
      · exact hl
      · exact h.1 y a
    · next hl=>
      show List.Pairwise _ _;rw[List.pairwise_cons,List.pairwise_cons];refine⟨fun y a=>?_,h.1,h.2⟩;rcases List.mem_cons.1 a with rfl|a
      · omega
      · have:=h.1 y a;omega
theorem find_of{l:List Co}(b:Up l){x:Co}(a:x∈l):∃n,l.findIdx? (fun y=>decide (y.lY=x.lY))=some n/\l[n]? =some x/\n<l.length:=by
  induction l with
  |nil=>cases a
  |cons z r ih=>
    rw[Up,List.pairwise_cons]at b;rw[List.findIdx?_cons];rcases List.mem_cons.1 a with rfl|a
    · exact⟨0,by simp,Z,by simp⟩
    · have:=b.1 x a;obtain⟨n,c,d,e⟩:=ih b.2 a;exact⟨n+1,by rw[if_neg (by simp;omega),c];rfl,by simpa using d,by simp;omega⟩
theorem next_ok(a:List Co)(b:Rec)(h:(yz a b).2=0):Good a/\Good (yz a b).1/\a.length<=(yz a b).1.length+1/\(yz a b).1.length<=a.length+1/\(∀x∈a,x.lY≠b.co->x∈(yz a b).1)/\(∀x∈a,x.lY=b.co->0<=x.offered->b.kind=5):=by
  unfold yz at h⊢;by_cases q:iB a=0
  · by_cases t:iA b=0
    · have g:=(good_iff a).1 q;have gr:=goodR b t;have gl:=g.len;have E:=gr.co;rw[if_neg (by simpa using q),if_neg (by simpa using t)]at h⊢;have i:∀x∈a,x.lY≠b.co->x∈Kn b a:=fun x f hn=>by unfold Kn;rw[List.mem_filter];exact⟨f,by simpa using hn⟩
      have k:∀c:Co,coOk c->c.lY=b.co->(Kn b a).length<=2->Good (EG c (Kn b a)):=fun c J K P=>⟨by rw[DX];omega,fun x f=>by
        rcases LQ.1 f with rfl|f
        · exact J
        · exact g.ok x (Ua f).1,insC_up (oth_up b g.up) (fun x f=>by have:=(Ua f).2;omega)⟩
      rcases Ws b a with⟨e1,e2,e3⟩|⟨n,c,e1,e2,e3,e4⟩
      · rw[e1]at h⊢;simp only at h⊢;have hno:∀x∈a,x.lY≠b.co:=fun x f e=>by
          unfold OP at e1;rw[List.find?_eq_none]at e1;exact e1 x f (by simpa using e)
        by_cases s:b.kind=1\/b.kind=4
        · rw[if_pos s]at h⊢;cases hq:(decide (b.aR=1) !=decide (b.kind=1))with
          |true=>rw[hq,if_pos Z]at h;exact absurd h zq1
          |false=>
            rw[hq]at h;simp only[Bool.false_eq_true,if_false]at h⊢;have w:a.length<=2:=by
              match a,g,hno with
              |[],_,_=>simp
              |[x],_,_=>simp
              |[x,y],_,_=>simp
              |[x,y,z],g,hno=>
                have L:=g.up;simp[Up]at L;have o1:=g.ok x zq3;have o2:=g.ok y zq3;have M:=g.ok z zq3;have S:=hno x zq3;have R:=hno y zq3;have O:=hno z zq3;unfold coOk at o1 o2 M;omega
              |x::y::z::u::r,g,_=>have:=g.len;simp at this
            have v:=gr.has V;refine⟨g,k _ ⟨E.1,E.2,gr.aR.1,gr.aR.2,by simp,by simp,v,gr.image⟩ Z (by rw[e3];exact w),?_,?_,fun x f hn=>LQ.2 (.inr (i x f hn)),fun x f e=>absurd e (hno x f)⟩
            · rw[DX,e3];omega
            · rw[DX,e3];omega
        · rw[if_neg s]at h;exact absurd h zq1
      · rw[e1]at h⊢;simp only at h⊢;have hn:n<a.length:=by
          rcases Nat.lt_or_ge n a.length with h|h
          · exact h
          · rw[List.getElem?_eq_none h]at e3;cases e3
        have N:(Kn b a).length+1=a.length:=by
          rw[<-Z7 b a n c g.up e3 e4];simp;omega
        have d:=g.ok c<|List.mem_of_getElem? e3;have o:∀x∈a,x.lY=b.co->x=c:=by
          intro x f p;obtain⟨m,I,C,_⟩:=find_of g.up f;rw[p,e2]at I;cases I;rw[e3]at C;exact(osi C).symm
        by_cases s:b.kind=1\/b.kind=4
        · rw[if_pos s]at h;exact absurd h zq1
        · rw[if_neg s]at h⊢;cases hq:(decide (b.aR≠c.aR)||(decide (c.offered≠ -1) !=decide (b.kind=5)))with
          |true=>rw[hq,if_pos Z]at h;exact absurd h zq1
          |false=>
            rw[hq]at h;simp only[Bool.false_eq_true,if_false]at h⊢;have j:∀x∈a,x.lY=b.co->0<=x.offered->b.kind=5:=by
              intro x f p Q;have:=o x f p;subst this;rw[Bool.or_eq_false_iff]at hq;have A:=hq.2;rw[show decide (x.offered≠ -1)=true from dT V]at A;cases h5:decide (b.kind=5)with
              |true=>exact Xv h5
              |false=>rw[h5]at A;cases A
            have l:∀(B:Co) x,x∈a->x.lY≠b.co->x∈EG B (Kn b a):=fun B x f hn=>LQ.2<|.inr<|i x f hn;by_cases G:b.kind=5
            · rw[if_pos G]at h⊢;exact⟨g,⟨by show(Kn b a).length<=3;omega,fun x f=>g.ok x (Ua f).1,oth_up b g.up⟩,by show a.length<=(Kn b a).length+1;omega,by show(Kn b a).length<=a.length+1;omega,i,j⟩
            · rw[if_neg G]at h⊢;by_cases k2:b.kind=2
              · rw[if_pos k2]at h⊢;have v:=gr.has V;refine⟨g,k _ ⟨d.1,d.2.1,d.2.2.1,d.2.2.2.1,d.2.2.2.2.1,d.2.2.2.2.2.1,v,gr.image⟩ e4 V,?_,?_,l _,j⟩
                · rw[DX];omega
                · rw[DX];omega
              · rw[if_neg k2]at h⊢;by_cases p:c.aR=100
                · rw[if_pos p]at h;exact absurd h zq1
                · rw[if_neg p]at h⊢;have hp:=gr.place;refine⟨g,k _ ⟨d.1,d.2.1,d.2.2.1,d.2.2.2.1,by show-1<=b.place;omega,hp.2,d.2.2.2.2.2.2.1,d.2.2.2.2.2.2.2⟩ e4 V,?_,?_,l _,j⟩
                  · rw[DX];omega
                  · rw[DX];omega
    · rw[if_neg (by simpa using q),if_pos t]at h;exact absurd h t
  · rw[if_pos q]at h;exact absurd h q
theorem mailEq(x y:jg):((((((decide (x.from_=y.from_)&&decide (x.mH=y.mH))&&decide (x.co=y.co))&&decide (x.aR=y.aR))&&(x.taken==y.taken)))&&decide (x.image=y.image))=decide (x=y):=by
 cases x;cases y;rw[Bool.eq_iff_iff];simp[and_assoc]
theorem wSame(a b:List jg):Qn a b=some (decide (a=b)):=by
  unfold Qn;by_cases h:a.length=b.length
  · rw[show decide (((a.length:Int):Int)≠(b.length:Int))=false by simp[h]];simp only[cond_false];rw[Jg (fun x y=>decide (x=y)) a b h rfl (fun i x y d c=>by
      unfold JU EE;rw[lF,c,<-mailEq];simp only[bnd,eqInt];cases ((((decide (x.from_=y.from_)&&decide (x.mH=y.mH))&&decide (x.co=y.co))&&decide (x.aR=y.aR))&&(x.taken==y.taken))<;>cases decide (x.image=y.image)<;>rfl),Aj (fun _ _=>rfl)]
  · rw[show decide (((a.length:Int):Int)≠(b.length:Int))=true by simp;omega];have:a≠b:=fun e=>h (by rw[e]);simp[this]
theorem wCopy{a:List jg}(h:a.length<=40)(d:∀x∈a,x.image.length<=1200):Bq a=some a:=by
 unfold Bq;rw[uP V V];simp only[bnd,Int.toNat_natCast];have b:∀(m i:Nat),i+m=a.length->upto zZ GD (i:Int) m a=some a:=by
  intro m;induction m with
  |zero=>intro i _;rfl
  |succ m ih=>
   intro i e;have c:i<a.length:=by omega
   show zZ (i:Int) a (upto zZ GD ((i:Int)+1) m)=_;unfold zZ;rw[BZ c];have:=d a[i]<|List.getElem_mem c;simp only[bnd];rw[uP V V];simp only[bnd,Int.toNat_natCast];rw[show({a[i]with image:=a[i].image}:jg)=a[i]from rfl,List.set_getElem_self];exact ih (i+1) V
 simpa using b a.length 0 V
def zMail:jg:=⟨0,0,0,0,false,[]⟩
end Dk
open Go Go.Proofs Go.LX
namespace Pw
open Dk
theorem lnP_inv(a:Int):∀(p:List Str) (l:List Rec) (n:Int),∃b,(T9 a p l n).1=l++b/\GoodL b/\(T9 a p l n).2.1=n+((txt b).length:Int)/\∃t,EX 10 p=txt b++t/\((T9 a p l n).2.2=0->t=[])
  |[],l,n=>⟨[],by simp[T9],LP,by simp[T9,txt],[],by simp[EX,Lib.join_nil,txt],fun _=>rfl⟩
  |[x],l,n=>by
    unfold T9;by_cases h:x=[]
    · rw[if_pos h];subst h;exact⟨[],by simp,LP,by simp[txt],[],by rw[Hw];rfl,fun _=>rfl⟩
    · rw[if_neg h];exact⟨[],by simp,LP,by simp[txt],x,by rw[Hw];rfl,fun h=>by simp at h⟩
  |x::y::r,l,n=>by
    unfold T9;by_cases c:(pz x).2=0
    · rw[if_neg V];by_cases f:a<=(l.length:Int)
      · rw[if_pos f];exact⟨[],by simp,LP,by simp[txt],_,Z,fun h=>by simp at h⟩
      · rw[if_neg f];obtain⟨b,j,m,k,t,i,g⟩:=lnP_inv a (y::r) (l++[(pz x).1])<|n+(x.length:Int)+1;obtain⟨k1,k2,e⟩:=read_ok (s:=x) (r:=(pz x).1) (by rw[<-c]);refine⟨(pz x).1::b,by rw[j];simp,?_,?_,t,?_,g⟩
        · intro z d;rcases List.mem_cons.1 d with rfl|d
          · exact⟨k1,k2⟩
          · exact m z d
        · rw[k];have:(lineOf (pz x).1)=x:=e.symm;simp only[txt,List.length_append,List.length_cons,this];omega
        · rw[EY,i];have:(lineOf (pz x).1)=x:=e.symm;simp[txt,this]
    · rw[if_pos c];exact⟨[],by simp,LP,by simp[txt],_,Z,fun h=>absurd h c⟩
theorem ln_inv(a:Int)(s:Str):GoodL (ln a s).1/\(ln a s).2.1=((txt (ln a s).1).length:Int)/\∃t,s=txt (ln a s).1++t/\((ln a s).2.2=0->t=[]):=by
 obtain⟨g,c,e,d,t,b,f⟩:=lnP_inv a (kL 10 s) [] 0;rw[List.nil_append]at c;rw[zI]at b;unfold ln;rw[c];exact⟨e,by rw[d];omega,t,b,f⟩
def sLog(d:iK):List Rec:=(ln 120 d.safe).1
def xL(d:iK):List Rec:=(Wp d).2
structure DOk(d:iK):Prop where
 safe:d.safe=txt (sLog d)
 good:GoodL (xL d)
 len:(xL d).length<=120
 room:d.safe.length+d.wait.length<=60000
 pre:sLog d<+:xL d
 whole:(Wp d).1=⟨txt (xL d),[]⟩
 rroom:(txt (xL d)).length<=60000
 still:d.wait=[]->xL d=sLog d
theorem dOk{d:iK}(h:pI d=0):DOk d:=by
  obtain⟨g,j⟩:=Dk.yQ h;obtain⟨g1,g2,t,c,m⟩:=ln_inv 120 d.safe;have i:=m j;subst i;rw[List.append_nil]at c;have o:((ln 120 d.safe).1.length:Int)<=120:=(Z4 120 d.safe).2.2.2 V;obtain⟨k1,k2,u,f,q⟩:=ln_inv (120-((ln 120 d.safe).1.length:Int)) d.wait;have k:=(Z4 (120-((ln 120 d.safe).1.length:Int)) d.wait).2.2.2 V;have a:xL d=(ln 120 d.safe).1++(ln (120-((ln 120 d.safe).1.length:Int)) d.wait).1:=rfl;have b:d.wait.take (ln (120-((ln 120 d.safe).1.length:Int)) d.wait).2.1.toNat=txt (ln (120-((ln 120 d.safe).1.length:Int)) d.wait).1:=by
    generalize p:txt (ln (120-((ln 120 d.safe).1.length:Int)) d.wait).1=T at k2 f;rw[k2,Int.toNat_natCast,f,List.take_left]
  have n:(txt (ln (120-((ln 120 d.safe).1.length:Int)) d.wait).1).length<=d.wait.length:=by
    rw[<-b,List.length_take];omega
  refine⟨c,?_,?_,g,?_,?_,?_,?_⟩
  · rw[a];exact fun r l=>(List.mem_append.1 l).elim (g1 r)<|k1 r
  · rw[a,List.length_append];omega
  · rw[a];exact List.prefix_append _ _
  · show(⟨d.safe++d.wait.take (ln (120-((ln 120 d.safe).1.length:Int)) d.wait).2.1.toNat,[]⟩:iK)=_;rw[b,a,Z5,<-c]
  · rw[a,Z5,List.length_append,<-c];omega
  · intro e;rw[a,e];show _++(T9 _ (kL 10 []) [] 0).1=_;simp[kL,T9,sLog]
end Pw
open Go Go.Proofs Go.LX
namespace Pw
open Dk
def Af(i:Int)(l:List Co):Option Co:=l.find? fun x=>decide (x.lY=i)
theorem findC_id{i:Int}{l:List Co}{c:Co}(h:Af i l=some c):c.lY=i/\c∈l:=by
 have a:=List.find?_some h;exact⟨by simpa using a,List.mem_of_find?_eq_some h⟩
theorem CL{c:Co}{i:Int}:∀{l:List Co},(∀x∈l,x.lY≠c.lY)->Af i (EG c l)=if i=c.lY then some c else Af i l
  |[],_=>by
    unfold EG Af;rw[List.find?_cons];by_cases h:i=c.lY
    · rw[if_pos h,dT h.symm]
    · rw[if_neg h,dF (fun e=>h e.symm)]
  |x::r,hx=>by
    unfold EG;by_cases a:x.lY<c.lY
    · rw[if_pos a];have b:=CL (c:=c) (i:=i) (l:=r) fun y d=>hx y<|List.mem_cons_of_mem _ d;unfold Af at b⊢;rw[List.find?_cons,List.find?_cons,b];by_cases h:x.lY=i
      · rw[dT h];show some x=_;rw[if_neg (by have:=hx x zq3;omega)]
      · rw[dF h]
    · rw[if_neg a];unfold Af;rw[List.find?_cons];by_cases h:i=c.lY
      · rw[if_pos h,dT h.symm]
      · rw[if_neg h,dF (fun e=>h e.symm)]
theorem EP{b:Rec}{i:Int}:∀{l:List Co},Af i (Kn b l)=if i=b.co then none else Af i l
  |[]=>by simp[Af,Kn]
  |x::r=>by
    have c:=EP (b:=b) (i:=i) (l:=r);unfold Af Kn at c⊢;rw[List.filter_cons];by_cases h:x.lY=b.co
    · rw[dF V];simp only[Bool.false_eq_true,if_false];rw[c,List.find?_cons];by_cases a:i=b.co
      · rw[if_pos a,if_pos a]
      · rw[if_neg a,if_neg a,dF V]
    · rw[dT h];simp only[if_true];rw[List.find?_cons,List.find?_cons,c];by_cases a:x.lY=i
      · rw[dT a];show some x=_;rw[if_neg V]
      · rw[dF a]
inductive Did (r:Rec) (o n:Option Co):Prop
 |begin (h:r.kind=1/\r.aR=1) (ho:o=none) (hn:n=some ⟨r.co,r.aR,r.image,-1⟩)
 |take (h:r.kind=4/\r.aR≠1) (ho:o=none) (hn:n=some ⟨r.co,r.aR,r.image,-1⟩)
 |slice (c:Co) (h:r.kind=2) (ho:o=some c) (he:c.aR=r.aR) (hf:c.offered= -1) (hn:n=some ⟨c.lY,c.aR,r.image,-1⟩)
 |offer (c:Co) (h:r.kind=3) (ho:o=some c) (he:c.aR=r.aR) (hf:c.offered= -1) (hx:c.aR≠100) (hn:n=some ⟨c.lY,c.aR,c.image,r.place⟩)
 |gone (c:Co) (h:r.kind=5) (ho:o=some c) (he:c.aR=r.aR) (hf:c.offered≠ -1) (hn:n=none)
theorem next_find{a:List Co}{r:Rec}(h:(yz a r).2=0):(∀i,i≠r.co->Af i (yz a r).1=Af i a)/\Did r (Af r.co a) (Af r.co (yz a r).1)/\iA r=0:=by
  have v:=(next_ok a r h).1;unfold yz at h⊢;by_cases q:iB a=0
  · by_cases o:iA r=0
    · have gr:=goodR r o;rw[if_neg (by simpa using q),if_neg (by simpa using o)]at h⊢;have l:∀x∈Kn r a,x.lY≠r.co:=fun x m=>(Ua m).2;have u:OP r a=Af r.co a:=rfl;cases e:OP r a with
      |none=>
        rw[e]at h;rw[u]at e;simp only at h⊢;by_cases f:r.kind=1\/r.kind=4
        · rw[if_pos f]at h⊢;by_cases k:(decide (r.aR=1) !=decide (r.kind=1))=true
          · rw[if_pos k]at h;simp at h
          · rw[if_neg k];simp only;refine⟨fun i j=>?_,?_,o⟩
            · rw[CL l,if_neg j,EP,if_neg j]
            · rw[CL l,if_pos rfl,e];rcases f with f|f
              · refine .begin ⟨f,?_⟩ Z Z;by_cases g:r.aR=1
                · exact g
                · exact absurd (by simp[f,g]) k
              · refine .take ⟨f,?_⟩ Z Z;intro g;exact absurd (by simp[f,g]) k
        · rw[if_neg f]at h;simp at h
      |some c=>
        rw[e]at h;rw[u]at e;obtain⟨d,w⟩:=findC_id e;simp only at h⊢;by_cases f:r.kind=1\/r.kind=4
        · rw[if_pos f]at h;simp at h
        · rw[if_neg f]at h⊢;by_cases k:(decide (r.aR≠c.aR)||(decide (c.offered≠ -1) !=decide (r.kind=5)))=true
          · rw[if_pos k]at h;simp at h
          · rw[if_neg k]at h⊢;have g:c.aR=r.aR:=by
              by_cases g:r.aR=c.aR
              · exact g.symm
              · exact absurd (by simp[g]) k
            by_cases p:r.kind=5
            · rw[if_pos p];simp only;refine⟨fun i j=>by rw[EP,if_neg j],?_,o⟩;rw[EP,if_pos rfl,e];refine .gone c p Z g ?_ Z;intro n;exact absurd (by simp[p,n]) k
            · have n:c.offered= -1:=by
                by_cases n:c.offered= -1
                · exact n
                · exact absurd (by simp[p,n]) k
              rw[if_neg p]at h⊢;by_cases t:r.kind=2
              · rw[if_pos t];simp only;have b:∀x∈Kn r a,x.lY≠(⟨c.lY,c.aR,r.image,c.offered⟩:Co).lY:=fun x m=>by simp only[d];exact l x m
                refine⟨fun i j=>?_,?_,o⟩
                · rw[CL b,if_neg (by simp only[d];exact j),EP,if_neg j]
                · rw[CL b,if_pos (by simp only[d]),e];exact .slice c t Z g n (by rw[n])
              · rw[if_neg t]at h⊢;by_cases m:c.aR=100
                · rw[if_pos m]at h;simp at h
                · rw[if_neg m];simp only;have s:r.kind=3:=by have:=gr.kind;omega
                  have b:∀x∈Kn r a,x.lY≠(⟨c.lY,c.aR,c.image,r.place⟩:Co).lY:=fun x m=>by simp only[d];exact l x m
                  refine⟨fun i j=>?_,?_,o⟩
                  · rw[CL b,if_neg (by simp only[d];exact j),EP,if_neg j]
                  · rw[CL b,if_pos (by simp only[d]),e];exact .offer c s Z g n m Z
    · rw[if_neg (by simpa using q),if_pos o]at h;exact absurd h o
  · rw[if_pos q]at h;exact absurd h q
end Pw
open Go Go.Proofs Go.LX
namespace Pw
open Dk
structure TL where
 cos:List Co
 d:iK
 up:Bool
deriving DecidableEq
structure GJ where
 prog:List dm
 places:List TL
 eB:List jg
structure Hap where
 kind:Int
 place:Int
 co:Int
 n:Int
def MlOk(m:jg):Prop:=(0<=m.from_/\m.from_<=2)/\(0<=m.mH/\m.mH<=2)/\(0<=m.co/\m.co<=2)/\(2<=m.aR/\m.aR<=100)/\(m.taken=true↔m.image=[])/\m.image.length<=1200
theorem YC:∀l:List jg,each Ba Bb l ()=0↔∀m∈l,MlOk m
  |[]=>by simp[vw,Bb]
  |m::l=>by
    have f:=YC l;rw[jC];generalize each Ba Bb l=K at f⊢;unfold Ba;by_cases c:(0<=m.from_/\m.from_<=2)/\(0<=m.mH/\m.mH<=2)/\(0<=m.co/\m.co<=2)/\(2<=m.aR/\m.aR<=100)
    · rw[show(((((((decide ((m.from_:Int)<0)||decide ((3:Int)<=m.from_))||decide ((m.mH:Int)<0))||decide ((3:Int)<=m.mH))||decide ((m.co:Int)<0))||decide ((3:Int)<=m.co))||decide ((m.aR:Int)<2))||decide ((100:Int)<m.aR))=false by
        simp only[Bool.or_eq_false_iff,decide_eq_false_iff_not];omega,cond_false]
      by_cases b:(m.taken=true↔m.image=[])/\m.image.length<=1200
      · rw[show((m.taken !=decide (((m.image.length:Int):Int)=0))||decide ((1200:Int)<(m.image.length:Int)))=false by
          rw[dF (show¬(1200:Int)<(m.image.length:Int) by have:=b.2;omega),Bool.or_false];by_cases a:m.image=[]
          · rw[b.1.2 a,a];simp
          · have:m.taken=false:=by
              cases e:m.taken with
              |false=>rfl
              |true=>exact absurd (b.1.1 e) a
            rw[this,dF (fun h=>a (List.eq_nil_of_length_eq_zero V))];rfl,cond_false,f]
        constructor
        · intro h x d;rcases List.mem_cons.1 d with rfl|d
          · exact⟨c.1,c.2.1,c.2.2.1,c.2.2.2,b⟩
          · exact h x d
        · exact fun h x d=>h x<|List.mem_cons_of_mem _ d
      · rw[show((m.taken !=decide (((m.image.length:Int):Int)=0))||decide ((1200:Int)<(m.image.length:Int)))=true by
          by_cases g:m.image.length<=1200
          · rw[dF (show¬(1200:Int)<(m.image.length:Int) by omega),Bool.or_false];by_cases a:m.image=[]
            · cases e:m.taken with
              |true=>exact absurd ⟨⟨fun _=>a,fun _=>e⟩,g⟩ b
              |false=>rw[a];simp
            · cases e:m.taken with
              |true=>rw[dF (fun h=>a (List.eq_nil_of_length_eq_zero V))];rfl
              |false=>exact absurd ⟨⟨fun h=>(Bool.false_ne_true (e.symm.trans h)).elim,fun h=>absurd h a⟩,g⟩ b
          · rw[dT (show(1200:Int)<(m.image.length:Int) by omega),Bool.or_true],cond_true]
        constructor
        · intro h;simp at h
        · intro h;exact absurd (h m zq3).2.2.2.2 b
    · rw[show(((((((decide ((m.from_:Int)<0)||decide ((3:Int)<=m.from_))||decide ((m.mH:Int)<0))||decide ((3:Int)<=m.mH))||decide ((m.co:Int)<0))||decide ((3:Int)<=m.co))||decide ((m.aR:Int)<2))||decide ((100:Int)<m.aR))=true by
        simp only[Bool.or_eq_true,decide_eq_true_eq];omega,cond_true]
      constructor
      · intro h;simp at h
      · intro h;have:=h m zq3;exact absurd ⟨this.1,this.2.1,this.2.2.1,this.2.2.2.1⟩ c
theorem mail_iff(l:List jg):jI l=0↔l.length<=40/\∀m∈l,MlOk m:=by
  unfold jI;by_cases h:l.length<=40
  · rw[dF V,cond_false,YC];exact⟨fun x=>⟨h,x⟩,fun x=>x.2⟩
  · rw[dT V,cond_true];exact⟨fun x=>by simp at x,fun x=>absurd x.1 h⟩
def I8(p:List dm):List Co->Int
 |[]=>0
 |c::l=>if(jT p c.image).2≠0 then(jT p c.image).2 else I8 p l
theorem Wt(p:List dm):∀l,I8 p l=0↔∀c∈l,(jT p c.image).2=0
  |[]=>by simp[I8]
  |c::l=>by
    unfold I8;by_cases h:(jT p c.image).2=0
    · rw[if_neg V,Wt p l];simp[h]
    · rw[if_pos h];simp[h]
def yR(p:List dm)(x:TL):Int:=
 if pI x.d≠0 then pI x.d else if x.up=false then(if x.cos=[]then 0 else 4)else if x.d.wait≠[]then 4 else
 if(zC [] (xL x.d)).2≠0 then(zC [] (xL x.d)).2 else if(zC [] (xL x.d)).1≠x.cos then 4 else I8 p x.cos
structure PlR(p:List dm)(x:TL):Prop where
 disk:pI x.d=0
 down:x.up=false->x.cos=[]
 wait:x.up=true->x.d.wait=[]
 cos:x.up=true->zC [] (xL x.d)=(x.cos,0)
 img:∀c∈x.cos,(jT p c.image).2=0
theorem plc_iff(p:List dm)(x:TL):yR p x=0↔PlR p x:=by
  unfold yR;by_cases b:pI x.d=0
  · rw[if_neg V];cases hu:x.up with
    |false=>
      simp only[if_true];by_cases a:x.cos=[]
      · rw[if_pos a];exact⟨fun _=>⟨b,fun _=>a,fun h=>(by rw[hu]at h;cases h),fun h=>(by rw[hu]at h;cases h),by rw[a];simp⟩,fun _=>rfl⟩
      · rw[if_neg a];exact⟨fun h=>by simp at h,fun h=>absurd (h.down hu) a⟩
    |true=>
      simp only[Bool.true_eq_false,if_false];by_cases a:x.d.wait=[]
      · rw[if_neg (by simpa using a)];by_cases e:(zC [] (xL x.d)).2=0
        · rw[if_neg V];by_cases c:(zC [] (xL x.d)).1=x.cos
          · rw[if_neg (by simpa using c),Wt];exact⟨fun h=>⟨b,fun h=>(by rw[hu]at h;cases h),fun _=>a,fun _=>by rw[<-c,<-e],h⟩,fun h=>h.img⟩
          · rw[if_pos c];exact⟨fun h=>by simp at h,fun h=>absurd (by rw[h.cos hu]) c⟩
        · rw[if_pos e];exact⟨fun h=>absurd h e,fun h=>absurd (by rw[h.cos hu]) e⟩
      · rw[if_pos a];exact⟨fun h=>by simp at h,fun h=>absurd (h.wait hu) a⟩
  · rw[if_pos b];exact⟨fun h=>absurd h b,fun h=>absurd h.disk b⟩
def LU(p:List dm):List TL->Int
 |[]=>0
 |x::l=>if yR p x≠0 then yR p x else LU p l
theorem Wu(p:List dm):∀l,LU p l=0↔∀x∈l,PlR p x
  |[]=>by simp[LU]
  |x::l=>by
    unfold LU;by_cases h:yR p x=0
    · rw[if_neg V,Wu p l];have:=(plc_iff p x).1 h;simp[this]
    · rw[if_pos h];exact⟨fun a=>absurd a h,fun a=>absurd ((plc_iff p x).2<|a x zq3) h⟩
def Tx(p:List dm):List jg->Int
 |[]=>0
 |m::l=>if m.taken=true then Tx p l else if(jT p m.image).2≠0 then(jT p m.image).2 else Tx p l
theorem SN(p:List dm):∀l,Tx p l=0↔∀m∈l,m.taken=false->(jT p m.image).2=0
  |[]=>by simp[Tx]
  |m::l=>by
    unfold Tx;by_cases a:m.taken=true
    · rw[if_pos a,SN p l];simp[a]
    · rw[if_neg a];have b:m.taken=false:=by simpa using a
      by_cases h:(jT p m.image).2=0
      · rw[if_neg V,SN p l];simp[h]
      · rw[if_pos h];simp[h,b]
def Hl(w:GJ):Int:=
 if chk w.prog≠0 then chk w.prog else if w.places.length≠3 then 4 else if jI w.eB≠0 then jI w.eB else
 if LU w.prog w.places≠0 then LU w.prog w.places else Tx w.prog w.eB
structure WR(w:GJ):Prop where
 code:chk w.prog=0
 many:w.places.length=3
 mlen:w.eB.length<=40
 mok:∀m∈w.eB,MlOk m
 pl:∀x∈w.places,PlR w.prog x
 mimg:∀m∈w.eB,m.taken=false->(jT w.prog m.image).2=0
theorem w_iff(w:GJ):Hl w=0↔WR w:=by
  unfold Hl;by_cases b:chk w.prog=0
  · rw[if_neg V];by_cases e:w.places.length=3
    · rw[if_neg V];by_cases d:jI w.eB=0
      · rw[if_neg V];by_cases c:LU w.prog w.places=0
        · rw[if_neg V,SN];have a:=(mail_iff _).1 d;exact⟨fun h=>⟨b,e,a.1,a.2,(Wu _ _).1 c,h⟩,fun h=>h.mimg⟩
        · rw[if_pos c];exact⟨fun h=>absurd h c,fun h=>absurd ((Wu _ _).2 h.pl) c⟩
      · rw[if_pos d];exact⟨fun h=>absurd h d,fun h=>absurd ((mail_iff _).2 ⟨h.mlen,h.mok⟩) d⟩
    · rw[if_pos e];exact⟨fun h=>by simp at h,fun h=>absurd h.many e⟩
  · rw[if_pos b];exact⟨fun h=>absurd h b,fun h=>absurd h.code b⟩
def zP:TL:=⟨[],zD,false⟩
def wH(w:GJ)(k:Int):TL:=(idx w.places k).getD zP
def BL(w:GJ)(k:Int)(x:TL):GJ:=⟨w.prog,w.places.set k.toNat x,w.eB⟩
def Nc(x:TL)(r:Rec):TL×Int:=
 if(yz x.cos r).2≠0 then(x,(yz x.cos r).2)else if(Z0 x.d r).2≠0 then(x,(Z0 x.d r).2)else
 if(dSync (Z0 x.d r).1).2≠0 then(x,(dSync (Z0 x.d r).1).2)else(⟨(yz x.cos r).1,(dSync (Z0 x.d r).1).1,x.up⟩,0)
def tearP(x:TL)(r:Rec)(keep:Int):TL×Int:=
 if(yz x.cos r).2≠0 then(x,(yz x.cos r).2)else if(Z0 x.d r).2≠0 then(x,(Z0 x.d r).2)else
 (⟨[],(dCrash (Z0 x.d r).1 (max 0 (min keep ((Z0 x.d r).1.wait.length:Int)))).1,false⟩,0)
def sendP(l:List jg)(m:jg):List jg:=if jI l≠0\/jI [m]≠0 then l else if l.length<40 then l++[m]else l
def sliceP(p:List dm)(k:Int)(c:Co)(fuel:Int):Rec×Int:=
 if 0<=c.offered then(⟨2,c.lY,c.aR,0,[],[]⟩,7)else
 if(jT p c.image).2≠0 then(⟨2,c.lY,c.aR,0,[],[]⟩,(jT p c.image).2)else
 if(jT p c.image).1.status=3/\0<=(jT p c.image).1.cu/\(jT p c.image).1.cu<3/\(jT p c.image).1.cu≠k then(⟨3,c.lY,c.aR,(jT p c.image).1.cu,[],[]⟩,0)else
 if(wake (jT p c.image).1).status≠0 then(⟨2,c.lY,c.aR,0,[],[]⟩,7)else
 (⟨2,c.lY,c.aR,0,(runP p fuel.toNat [] 0 (wake (jT p c.image).1)).2.1,packP (OO (runP p fuel.toNat [] 0 (wake (jT p c.image).1)).1)⟩,0)
def offerM(k:Int)(c:Co):jg:=⟨k,c.offered,c.lY,c.aR+1,false,c.image⟩
def runW(w:GJ)(x:Hap):GJ×Int:=
 match Af x.co (wH w x.place).cos with
 |none=>(w,5)
 |some c=>
  let fuel:=if x.kind=9 then 2000 else x.n
  if fuel<1\/2000<fuel then(w,3)else
  let q:=sliceP w.prog x.place c fuel
  if q.2≠0 then(w,q.2)else
  if x.kind=9 then(BL w x.place (tearP (wH w x.place) q.1 x.n).1,(tearP (wH w x.place) q.1 x.n).2)else
  if(Nc (wH w x.place) q.1).2≠0 then(w,(Nc (wH w x.place) q.1).2)else
  let v:=BL w x.place (Nc (wH w x.place) q.1).1
  if q.1.kind=3 then(⟨v.prog,v.places,sendP v.eB (offerM x.place ⟨c.lY,c.aR,c.image,q.1.place⟩)⟩,0)else(v,0)
def resendW(w:GJ)(x:Hap):GJ×Int:=
 match Af x.co (wH w x.place).cos with
 |none=>(w,5)
 |some c=>if c.offered<0 then(w,7)else(⟨w.prog,w.places,sendP w.eB (offerM x.place c)⟩,0)
def beginW(w:GJ)(k i:Int):GJ×Int:=
 if i≠k then(w,5)else if(xL (wH w k).d).any (fun r=>decide (r.kind=1))then(w,6)else
 let r:Rec:=⟨1,i,1,0,[],packP (OO (begin0 w.prog))⟩
 (BL w k (Nc (wH w k) r).1,(Nc (wH w k) r).2)
def hadP(x:TL)(i e:Int):Bool:=(xL x.d).any fun r=>decide (r.kind=4)&&decide (r.co=i)&&decide (e<=r.aR)
def hearW(w:GJ)(i:Int)(a:Bool):GJ×Int:=
 if i<0\/(w.eB.length:Int)<=i then(w,5)else
 let m:=(w.eB[i.toNat]?).getD zMail
 if(wH w m.mH).up=false then(w,7)else
 let v:GJ:=⟨w.prog,w.places,if a then w.eB else w.eB.take i.toNat++w.eB.drop (i.toNat+1)⟩
 if m.taken then
  match Af m.co (wH v m.mH).cos with
  |none=>(v,0)
  |some c=>if c.aR≠m.aR-1\/c.offered≠m.from_ then(v,0)else
   (BL v m.mH (Nc (wH v m.mH) ⟨5,m.co,m.aR-1,0,[],[]⟩).1,(Nc (wH v m.mH) ⟨5,m.co,m.aR-1,0,[],[]⟩).2)
 else
  let b:jg:=⟨m.mH,m.from_,m.co,m.aR,true,[]⟩
  if hadP (wH v m.mH) m.co m.aR then(⟨v.prog,v.places,sendP v.eB b⟩,0)else
  let r:Rec:=⟨4,m.co,m.aR,0,[],m.image⟩
  if(Nc (wH v m.mH) r).2≠0 then(v,(Nc (wH v m.mH) r).2)else
  let u:=BL v m.mH (Nc (wH v m.mH) r).1
  (⟨u.prog,u.places,sendP u.eB b⟩,0)
def YD(w:GJ)(k:Int):GJ×Int:=
 if(wH w k).up=true then(w,7)else
 if(zC [] (xL (wH w k).d)).2≠0 then(w,(zC [] (xL (wH w k).d)).2)else
 if I8 w.prog (zC [] (xL (wH w k).d)).1≠0 then(w,I8 w.prog (zC [] (xL (wH w k).d)).1)else
 (BL w k ⟨(zC [] (xL (wH w k).d)).1,(Wp (wH w k).d).1,true⟩,0)
def Qx(w:GJ)(x:Hap):GJ×Int:=
 if x.kind=4\/x.kind=5 then hearW w x.n (decide (x.kind=5))else
 if x.kind=6 then(if x.n<0\/(w.eB.length:Int)<=x.n then(w,5)else(⟨w.prog,w.places,w.eB.take x.n.toNat++w.eB.drop (x.n.toNat+1)⟩,0))else
 if x.kind<1\/9<x.kind then(w,4)else
 if x.place<0\/(w.places.length:Int)<=x.place then(w,5)else
 if x.kind=8 then YD w x.place else
 if(wH w x.place).up=false then(w,7)else
 if x.kind=1 then beginW w x.place x.co else
 if x.kind=3 then resendW w x else
 if x.kind=7 then(BL w x.place ⟨[],(wH w x.place).d,false⟩,0)else runW w x
end Pw
open Go Go.Proofs Go.LX
namespace Pw
open Dk
theorem findC_mem{l:List Co}(a:Up l){c:Co}(h:c∈l):Af c.lY l=some c:=by
  induction l with
  |nil=>cases h
  |cons x r ih=>
    rw[Up,List.pairwise_cons]at a;unfold Af;rw[List.find?_cons];rcases List.mem_cons.1 h with rfl|h
    · rw[dT rfl]
    · have:=a.1 c h;rw[dF V];exact ih a.2 h
theorem good0:Dk.Good []:=⟨by simp,fun x h=>(by cases h),List.Pairwise.nil⟩
def Off(l:List Co):Prop:=∀c∈l,c.offered≠ -1->c.aR≠100
theorem rep_good:∀(l:List Rec) (s:List Co),Dk.Good s->Off s->(zC s l).2=0->Dk.Good (zC s l).1/\Off (zC s l).1
  |[],s,h,ho,_=>⟨h,ho⟩
  |r::l,s,h,ho,e=>by
    unfold zC at e⊢;by_cases a:(yz s r).2=0
    · rw[if_neg V]at e⊢;have d:=(next_ok s r a).2.1;obtain⟨k1,k2,-⟩:=next_find a;refine rep_good l _ d ?_ e;intro c g;have b:=findC_mem d.up g;by_cases f:c.lY=r.co
      · rw[f]at b;rw[b]at k2;rcases k2 with⟨_,_,hn⟩|⟨_,_,hn⟩|⟨c0,_,_,_,_,hn⟩|⟨c0,_,_,_,_,hx,hn⟩|⟨_,_,_,_,_,hn⟩
        · cases hn;exact fun h=>absurd Z h
        · cases hn;exact fun h=>absurd Z h
        · cases hn;exact fun h=>absurd Z h
        · cases hn;exact fun _=>hx
        · cases hn
      · rw[k1 _ f]at b;exact ho c (findC_id b).2
    · rw[if_pos a]at e;exact absurd e a
theorem PlR.good{p:List dm}{x:TL}(h:PlR p x):Dk.Good x.cos/\Off x.cos:=by
 cases hu:x.up with
 |true=>
  have e:=h.cos hu;have:=rep_good (xL x.d) [] good0 (fun c a=>by cases a) (by rw[e]);rw[e]at this;exact this
 |false=>rw[h.down hu];exact⟨good0,fun c a=>by cases a⟩
theorem pAt_eq{w:GJ}{k:Int}(h:0<=k/\k<w.places.length):idx w.places k=some (wH w k)/\wH w k∈w.places/\w.places[k.toNat]? =some (wH w k):=by
 obtain⟨n,rfl⟩:=Int.eq_ofNat_of_zero_le h.1;have hn:n<w.places.length:=by omega
 have e:idx w.places (n:Int)=some w.places[n]:=BZ hn;unfold wH;rw[e];exact⟨Z,List.getElem_mem hn,by simp[hn]⟩
theorem pAt_set{w:GJ}{k j:Int}(x:TL)(b:0<=k/\k<w.places.length)(a:0<=j/\j<w.places.length):wH (BL w k x) j=if j=k then x else wH w j:=by
  obtain⟨n,rfl⟩:=Int.eq_ofNat_of_zero_le b.1;obtain⟨m,rfl⟩:=Int.eq_ofNat_of_zero_le a.1;unfold wH BL;rw[lF,lF,Int.toNat_natCast,List.getElem?_set];by_cases h:n=m
  · subst h;rw[if_pos rfl,if_pos V,if_pos rfl];rfl
  · rw[if_neg h,if_neg V]
theorem WR.at{w:GJ}(h:WR w){k:Int}(a:0<=k/\k<=2):PlR w.prog (wH w k):=h.pl _ (pAt_eq ⟨a.1,by have:=h.many;omega⟩).2.1
theorem WR.set{w:GJ}(h:WR w){k:Int}{x:TL}(hx:PlR w.prog x):WR (BL w k x) where
  code:=h.code
  many:=by show(w.places.set k.toNat x).length=3;rw[List.length_set];exact h.many
  mlen:=h.mlen
  mok:=h.mok
  pl:=fun y hy=>by
    rcases List.mem_or_eq_of_mem_set hy with hy|rfl
    · exact h.pl y hy
    · exact hx
  mimg:=h.mimg
instance:DecidablePred MlOk:=fun m=>by unfold MlOk;infer_instance
end Pw
open Go Go.Proofs Go.LX
namespace Pw
open Dk
def On(k:Int):Prop:=0<=k/\k<=2
end Pw
open Go Go.Proofs Go.LX
namespace Pw
open Dk
theorem setP_set(w:GJ)(k:Int)(x y:TL):BL (BL w k x) k y=BL w k y:=by unfold BL;simp
theorem setP_self{w:GJ}{k:Int}(h:0<=k/\k<w.places.length):BL w k (wH w k)=w:=by
  have:=(pAt_eq h).2.2;unfold BL;have e:w.places.set k.toNat (wH w k)=w.places:=by
    apply List.ext_getElem?;intro i;rw[List.getElem?_set];by_cases a:k.toNat=i
    · subst a;rw[if_pos rfl,if_pos (List.getElem?_eq_some_iff.1 this).1,this]
    · rw[if_neg a]
  rw[e]
theorem stands{w:GJ}(h:WR w){k:Int}(j:On k)(f:(wH w k).up=true):
    Qx w ⟨7,k,0,0⟩=(BL w k ⟨[],(wH w k).d,false⟩,0)/\Qx (BL w k ⟨[],(wH w k).d,false⟩) ⟨8,k,0,0⟩=(w,0):=by
  have p:=h.many;have e:0<=k/\k<w.places.length:=by have:=j.1;have:=j.2;omega
  have hat:=h.at j;constructor
  · unfold Qx;simp only;rw[if_neg V,if_neg V,if_neg V,if_neg V,if_neg V,if_neg (by rw[f];simp),if_neg V,if_neg V,if_pos trivial]
  · have o:wH (BL w k ⟨[],(wH w k).d,false⟩) k=⟨[],(wH w k).d,false⟩:=by rw[pAt_set _ e e,if_pos Z]
    have q:(BL w k ⟨[],(wH w k).d,false⟩).places.length=w.places.length:=by unfold BL;simp
    unfold Qx;simp only;rw[if_neg V,if_neg V,if_neg V,if_neg V,if_pos trivial];unfold YD;rw[o];simp only;have n:=hat.cos f;rw[if_neg zq3,n];simp only;rw[if_neg zq3,if_neg (by rw[show(BL w k ⟨[],(wH w k).d,false⟩).prog=w.prog from rfl,(Wt _ _).2 hat.img];simp),setP_set];have l:=dOk hat.disk;have i:=hat.wait f;have m:(Wp (wH w k).d).1=(wH w k).d:=by
      rw[l.whole,l.still i,<-l.safe];cases g:(wH w k).d with
      |mk s t=>rw[g]at i;simp only at i;rw[i]
    have g:(⟨(wH w k).cos,(Wp (wH w k).d).1,true⟩:TL)=wH w k:=by
      rw[m];cases g:wH w k with
      |mk a b c=>rw[g]at f;simp only at f;rw[f]
    rw[g,setP_self e]
end Pw
open Go Go.Proofs Go.LX
theorem moved_ok:sP NN=some true:=by
 unfold sP;rw[program_p];kernel_rfl
namespace Pw
open Dk
def toP(x:ig):TL:=⟨x.cos,⟨x.safe,x.wait⟩,x.up⟩
def toW(w:aX):GJ:=⟨w.prog,w.places.map toP,w.eB⟩
def OU(x:TL):ig:=⟨x.cos,x.d.safe,x.d.wait,x.up⟩
def Hm(w:GJ):aX:=⟨w.prog,w.places.map OU,w.eB⟩
theorem of_to(w:aX):Hm (toW w)=w:=by
 have:w.places.map (OU∘toP)=w.places:=List.map_id _;unfold Hm toW;simp only[List.map_map,this]
theorem idx_map{α β:Type}(f:α->β)(l:List α)(k:Int):idx (l.map f) k=(idx l k).map f:=by
 unfold idx;split<;>simp
theorem g_at{w:GJ}{k:Int}(h:0<=k/\k<w.places.length):idx (Hm w).places k=some (OU (wH w k)):=by
 show idx (w.places.map OU) k=_;rw[idx_map,(pAt_eq h).1];rfl
theorem g_set(w:GJ)(k:Int)(x:TL):(⟨w.prog,(Hm w).places.set k.toNat (OU x),w.eB⟩:aX)=Hm (BL w k x):=by
 unfold Hm BL;simp only[List.map_set]
theorem Wv{w:GJ}(h:WR w){k:Int}(a:On k):0<=k/\k<w.places.length:=by
 have:=h.many;have:=a.1;have:=a.2;omega
theorem wait_len{d:iK}(h:pI d=0):d.wait.length<=60000:=by
 have:=(Dk.yQ h).1;omega
theorem YE{x:TL}(h:pI x.d=0){N:Nat}(hN:60002<=N):qb N (⟨(OU x).safe,(OU x).wait⟩:iK)=some ((Wp x.d).1,xL x.d,0):=by
 show qb N x.d=_;have:=wait_len h;rw[recover_eq N hN _ V];unfold Wq;rw[if_neg (show¬pI x.d≠0 from fun e=>e h)];rfl
end Pw
open Go Go.Proofs Go.LX
namespace Pw
open Dk
theorem nn{x:Int}(h:x=0):¬x≠0:=fun e=>e h
def Is(o:Option (Int×aX))(q:GJ×Int):Prop:=∃v,o=some (q.2,Hm v)/\(q.2=0->v=q.1)
theorem Is.mk(v:GJ)(e:Int):Is (some (e,Hm v)) (v,e):=⟨v,rfl,fun _=>rfl⟩
theorem Is.pair{o:Option (Int×aX)}{q:GJ×Int}(h:Is o q):Is (o.bind fun y=>some (y.1,y.2)) q:=by
 obtain⟨v,rfl,a⟩:=h;exact⟨v,Z,a⟩
end Pw
open Go Go.Proofs Go.LX
namespace Pw
open Dk
theorem up_g(x:TL):(OU x).up=x.up:=rfl
theorem YF{N:Nat}(hN:60002<=N)(a:aX)(k:Unit->Option (Int×aX)):∀(l:List Co) (i:Int),
    fO (fun j(x:Co)s c=>(sK N a.prog x.image).bind fun q=>uC a c q.2) k i l ()=if I8 a.prog l≠0 then some (I8 a.prog l,a)else k ()
  |[],i=>by rw[QD];simp[I8]
  |x::l,i=>by
    rw[zl,F5 _ _ V];simp only[bnd];unfold uC;by_cases h:(jT a.prog x.image).2=0
    · rw[dF (nn h),cond_false];have b:=YF hN a k l<|i+1;unfold uC at b;rw[b,show I8 a.prog (x::l)=I8 a.prog l by rw[I8,if_neg (nn h)]]
    · rw[dT (show(jT a.prog x.image).2≠0 from h),cond_true,show I8 a.prog (x::l)=(jT a.prog x.image).2 by rw[I8,if_pos h],if_pos h]
theorem boot_g{w:GJ}(h:WR w){k:Int}(l:On k){N:Nat}(hN:60002<=N):Is (JR N (Hm w) k) (YD w k):=by
  have e:=Wv h l;have f:=(h.at l).disk;unfold JR YD;rw[g_at e];simp only[bnd];rw[up_g];by_cases c:(wH w k).up=true
  · rw[c,if_pos rfl];exact .mk _ _
  · have n:(wH w k).up=false:=by simpa using c
    rw[if_neg c,n,cond_false,YE f hN];simp only[bnd];rw[dF V,cond_false,YB N V,if_neg (show¬120<(xL (wH w k).d).length by have:=(dOk f).len;omega)];simp only[bnd];by_cases b:(zC [] (xL (wH w k).d)).2=0
    · rw[dF (nn b),cond_false,if_neg (nn b),Int.toNat_natCast];rw[upto_eachI (g:=fun j(x:Co)s m=>(sK N (Hm w).prog x.image).bind fun q=>uC (Hm w) m q.2) (zC [] (xL (wH w k).d)).1 (fun i x s m o=>by
        unfold FH;rw[lF,o];rfl)]
      rw[YF hN (Hm w)];show Is (if I8 w.prog (zC []<|xL (wH w k).d).1≠0 then _ else _) _;by_cases a:I8 w.prog (zC [] (xL (wH w k).d)).1=0
      · rw[if_neg (nn a),if_neg (nn a)];unfold FI;have:=g_set w k ⟨(zC []<|xL (wH w k).d).1,(Wp (wH w k).d).1,true⟩;show Is (some ((0:Int),(⟨w.prog,(Hm w).places.set k.toNat<|OU ⟨(zC []<|xL (wH w k).d).1,(Wp (wH w k).d).1,true⟩,w.eB⟩:aX))) _;rw[this];exact .mk _ _
      · rw[if_pos a,if_pos a];exact .mk _ _
    · rw[dT (show(zC [] (xL (wH w k).d)).2≠0 from b),cond_true,if_pos b];exact .mk _ _
end Pw
open Go Go.Proofs Go.LX
namespace Pw
open Dk
theorem step7_g{w:GJ}(h:WR w){k:Int}(a:On k)(b:(wH w k).up=true){N:Nat}(hN:60002<=N):Is (CK N (Hm w) ⟨7,k,0,0⟩) (BL w k ⟨[],(wH w k).d,false⟩,0):=by
 show Is (lU N ⟨7,k,0,0⟩ (Hm w) true) _;unfold lU;have c:((Hm w).places.length:Int)=w.places.length:=by unfold Hm;simp
 have e:=h.many;have:=a.1;have:=a.2;rw[cond_true,c,show(decide ((k:Int)<0)||decide (((w.places.length:Int):Int)<=k))=false by simp only[Bool.or_eq_false_iff,decide_eq_false_iff_not];omega,cond_false];show Is ((idx (Hm w).places k).bind _) _;rw[g_at (Wv h a)];simp only[bnd];rw[up_g,b];have:=g_set w k ⟨[],(wH w k).d,false⟩;show Is (some ((0:Int),(⟨w.prog,(Hm w).places.set k.toNat<|OU ⟨[],(wH w k).d,false⟩,w.eB⟩:aX))) _;rw[this];exact .mk _ _
theorem step8_g{w:GJ}(h:WR w){k:Int}(a:On k){N:Nat}(hN:60002<=N):Is (CK N (Hm w) ⟨8,k,0,0⟩) (YD w k):=by
 show Is (lU N ⟨8,k,0,0⟩ (Hm w) true) _;unfold lU;have b:((Hm w).places.length:Int)=w.places.length:=by unfold Hm;simp
 have c:=h.many;have:=a.1;have:=a.2;rw[cond_true,b,show(decide ((k:Int)<0)||decide (((w.places.length:Int):Int)<=k))=false by simp only[Bool.or_eq_false_iff,decide_eq_false_iff_not];omega,cond_false];exact(boot_g h a hN).pair
theorem YG{p:List dm}{N:Nat}(hN:60002<=N):∀l:List Co,each (Bo N p) FD l ()=some (I8 p l)
  |[]=>rfl
  |x::l=>by
    rw[jC];have a:=YG (p:=p) hN l;unfold Bo at a⊢;rw[F5 _ _ V];simp only[bnd];by_cases h:(jT p x.image).2=0
    · rw[dF (nn h),cond_false,a,I8,if_neg (nn h)]
    · rw[dT (show(jT p x.image).2≠0 from h),cond_true,I8,if_pos h]
theorem plc_g(p:List dm)(x:TL)(g:x.d.wait.length<=9223372036854775807){N:Nat}(hN:60002<=N):GA N p (OU x)=some (yR p x):=by
  unfold GA yR;show(tq N x.d).bind _=_;rw[Dk.check_eq N hN _ g];simp only[bnd];by_cases b:pI x.d=0
  · rw[dF (nn b),cond_false,if_neg (nn b),up_g];cases hu:x.up with
    |false=>
      show(bif decide ((0:Int)<(x.cos.length:Int))then _ else _)=some (if x.cos=[]then 0 else 4);by_cases a:x.cos=[]
      · rw[a,if_pos rfl];rfl
      · rw[if_neg a,dT (by have:=List.length_pos_iff.2 a;omega)];rfl
    |true=>
      simp only[Bool.not_true,cond_false,Bool.true_eq_false,if_false];show(bif decide ((0:Int)<(x.d.wait.length:Int))then _ else _)=_;by_cases a:x.d.wait=[]
      · rw[a,if_neg zq3];rw[dF zq3,cond_false,YE b hN];simp only[bnd];rw[YB N V,if_neg (show¬120<(xL x.d).length by have:=(dOk b).len;omega)];simp only[bnd];by_cases c:(zC [] (xL x.d)).2=0
        · rw[dF (nn c),cond_false,if_neg (nn c),coSame];simp only[bnd];show(bif !decide ((zC []<|xL x.d).1=x.cos)then _ else _)=_;by_cases f:(zC [] (xL x.d)).1=x.cos
          · rw[dT f,if_neg (fun e=>e f)];exact YG hN x.cos
          · rw[dF f,if_pos f];rfl
        · rw[dT (show(zC [] (xL x.d)).2≠0 from c),cond_true,if_pos c]
      · rw[if_pos a,dT (by have:=List.length_pos_iff.2 a;omega),cond_true]
  · rw[dT (show pI x.d≠0 from b),cond_true,if_pos b]
theorem Ww{w:aX}{N:Nat}(hN:60002<=N):∀l:List jg,each (uA N w) zg l ()=some (Tx w.prog l)
  |[]=>rfl
  |m::l=>by
    rw[jC];have a:=Ww (w:=w) hN l;generalize each (uA N w) zg l=F at a⊢;unfold uA Bp Tx;cases ht:m.taken with
    |true=>exact a
    |false=>
      rw[cond_false,F5 _ _ V,if_neg zq3];simp only[bnd];by_cases h:(jT w.prog m.image).2=0
      · rw[dF (nn h),cond_false,a,if_neg (nn h)]
      · rw[dT (show(jT w.prog m.image).2≠0 from h),cond_true,if_pos h]
theorem YH{w:aX}{N:Nat}(hN:60002<=N)(k:Unit->Option Int):∀l:List TL,(∀x∈l,x.d.wait.length<=9223372036854775807)->each (su N w) k (l.map OU) ()=if LU w.prog l≠0 then some (LU w.prog l)else k ()
  |[],_=>by simp[LU,vw]
  |x::l,hw=>by
    rw[List.map_cons,jC];have a:=YH (w:=w) hN k l fun y b=>hw y<|List.mem_cons_of_mem _ b;generalize each (su N w) k (l.map OU)=F at a⊢;unfold su;rw[plc_g _ _ (hw x zq3) hN];simp only[bnd];by_cases h:yR w.prog x=0
    · rw[dF (nn h),cond_false,a,show LU w.prog (x::l)=LU w.prog l by rw[LU,if_neg (nn h)]]
    · rw[dT (show yR w.prog x≠0 from h),cond_true,show LU w.prog (x::l)=yR w.prog x by rw[LU,if_pos h],if_pos h]
def Wts(w:GJ):Prop:=∀x∈w.places,x.d.wait.length<=9223372036854775807
theorem WR.wts{w:GJ}(h:WR w):Wts w:=fun x a=>by have:=wait_len (h.pl x a).disk;omega
theorem check_g{w:GJ}(d:Wts w){N:Nat}(hN:60002<=N):zY N (Hm w)=some (Hl w):=by
  unfold zY Hl;show(qQ w.prog).bind _=_;rw[ZT];simp only[bnd];by_cases a:chk w.prog=0
  · rw[dF (nn a),cond_false,if_neg (nn a)];have e:((Hm w).places.length:Int)=w.places.length:=by unfold Hm;simp
    rw[e];by_cases f:w.places.length=3
    · rw[dF V,cond_false,if_neg V];show(bif decide ((jI w.eB:Int)≠0)then some (jI w.eB)else _)=_;by_cases c:jI w.eB=0
      · rw[dF (nn c),cond_false,if_neg (nn c)];show each (su N<|Hm w) _ (w.places.map OU) ()=_;rw[YH hN _ _ d];unfold D5;show(if LU w.prog w.places≠0 then _ else each (uA N<|Hm w) _ w.eB ())=_;rw[Ww hN];by_cases b:LU w.prog w.places=0
        · rw[if_neg (nn b),if_neg (nn b)];rfl
        · rw[if_pos b,if_pos b];rfl
      · rw[dT (show jI w.eB≠0 from c),cond_true,if_pos c]
    · rw[dT V,cond_true,if_pos V]
  · rw[dT (show chk w.prog≠0 from a),cond_true,if_pos a]
end Pw
open Go Go.Proofs Go.LX
namespace Pw
open Dk
theorem YI(a:Unit->Option (List dm)):∀l:List Ins,(∀c∈l,c.args.length<=3)->each yJ (CU a) l ()=a ()
 |[],_=>rfl
 |c::l,h=>by
  rw[jC];have b:=YI a l fun x d=>h x<|List.mem_cons_of_mem _ d;generalize each yJ (CU a) l=G at b⊢;unfold yJ;have:=h c zq3;rw[uP V V];exact b
theorem code_copy{p:List dm}(h:p.length<=4/\∀x∈p,zh x/\∀c∈x.code,c.args.length<=3):EJ p=some p:=by
 unfold EJ;rw[uP V V];simp only[bnd,Int.toNat_natCast];have b:∀(m i:Nat),i+m=p.length->upto (sZ p) (yK p) (i:Int) m ()=some p:=by
  intro m;induction m with
  |zero=>intro i _;rfl
  |succ m ih=>
   intro i g;have d:i<p.length:=by omega
   show sZ p (i:Int) () (upto (sZ p) (yK p) ((i:Int)+1) m)=_;have a:=ih (i+1) V;rw[show((i+1:Nat):Int)=(i:Int)+1 from rfl]at a;generalize upto (sZ p) (yK p) ((i:Int)+1) m=nx at a⊢;unfold sZ;have e:=h.2 p[i]<|List.getElem_mem d;have f:=e.1;unfold zh at f;rw[BZ d];simp only[bnd];rw[uP V V];simp only[bnd];rw[YI _ _ e.2];exact a
 simpa using b p.length 0 V
theorem chk_good{p:List dm}(h:chk p=0):p.length<=4/\∀x∈p,zh x/\∀c∈x.code,c.args.length<=3:=by
 obtain⟨y,a,b⟩:=Yt p;rw[ZT]at a;exact b (by rw[<-osi a];exact h)
theorem copy_g{w:GJ}(h:WR w):Cr (Hm w)=some (Hm w):=by
 have j:=chk_good h.code;unfold Cr;show(EJ w.prog).bind _=_;rw[code_copy j];simp only[bnd];have f:=h.many;show(clone 80<|w.places.map OU).bind _=_;rw[uP (by simp;omega) (by simp;omega)];simp only[bnd];show(Bq w.eB).bind _=_;rw[wCopy h.mlen (fun m f=>(h.mok m f).2.2.2.2.2)];simp only[bnd];unfold GZ;rw[Int.toNat_natCast];have b:∀(m i:Nat),i+m=(w.places.map OU).length->upto tC (yN w.prog w.eB) (i:Int) m (w.places.map OU)=some (Hm w):=by
  intro m;induction m with
  |zero=>intro i _;rfl
  |succ m ih=>
   intro i n;have c:i<(w.places.map OU).length:=by omega
   show tC (i:Int) (w.places.map OU) (upto tC (yN w.prog w.eB) ((i:Int)+1) m)=_;have a:=ih (i+1) V;rw[show((i+1:Nat):Int)=(i:Int)+1 from rfl]at a;generalize upto tC (yN w.prog w.eB) ((i:Int)+1) m=nx at a⊢;unfold tC;rw[BZ c];have k:i<w.places.length:=by simpa using c
   have e:(w.places.map OU)[i]=OU w.places[i]:=by simp
   have hp:=h.pl w.places[i]<|List.getElem_mem k;have l:=(Dk.yQ hp.disk).1;simp only[bnd];rw[show(w.places.map OU)[i].cos=w.places[i].cos by rw[e];rfl,show(w.places.map OU)[i].safe=w.places[i].d.safe by rw[e];rfl,show(w.places.map OU)[i].wait=w.places[i].d.wait by rw[e];rfl];rw[coCopy hp.good.1.len (fun x g=>(hp.good.1.ok x g).2.2.2.2.2.2.2),uP V V];simp only[bnd];rw[uP V V];simp only[bnd,Int.toNat_natCast];rw[List.set_set,show(⟨w.places[i].cos,w.places[i].d.safe,w.places[i].d.wait,(w.places.map OU)[i].up⟩:ig)=(w.places.map OU)[i] by rw[e];rfl,List.set_getElem_self];exact a
 simpa using b (w.places.map OU).length 0 V
def zW:aX:=⟨[],[],[]⟩
theorem do_of{w:GJ}(d:Wts w)(x:rP){N:Nat}(hN:60002<=N){q:GJ×Int}(c:WR w->Is (CK N (Hm w) x) q):LJ N (Hm w) x=some (if Hl w≠0 then(zW,Hl w)else if q.2≠0 then(zW,q.2)else(Hm q.1,0)):=by
  unfold LJ;rw[check_g d hN];simp only[bnd];by_cases a:Hl w=0
  · rw[dF (nn a),cond_false,if_neg (nn a)];have h:=(w_iff w).1 a;rw[copy_g h];simp only[bnd];obtain⟨v,e,f⟩:=c h;rw[e];simp only[bnd];by_cases b:q.2=0
    · rw[dF (nn b),cond_false,if_neg (nn b),f b]
    · rw[dT (show q.2≠0 from b),cond_true,if_pos b];rfl
  · rw[dT (show Hl w≠0 from a),cond_true,if_pos a];rfl
end Pw
open Go Go.Proofs Go.LX
namespace Pw
open Dk
theorem wts_of{l:List ig}{w:World}{B A:BS}{v:Value}(h:dR fU w B A v l):∀x∈l,x.wait.length<=9223372036854775807:=by
 obtain⟨a,cap,_,_,_,_,e⟩:=h;intro x d;obtain⟨i,f,rfl⟩:=List.getElem_of_mem d;obtain⟨b,o,cells,E,j,_,_,_,c⟩:=e i f;obtain⟨_,_,_,_,_,_,g⟩:=eP c;exact g.bG
theorem wts_to{a:aX}(h:∀x∈a.places,x.wait.length<=9223372036854775807):Wts (toW a):=by
 intro x b;obtain⟨y,c,rfl⟩:=List.mem_map.1 b;exact h y c
theorem Ty{α β:Type}{body:Int->α->Unit->(Unit->Option Bool)->Option Bool}{c:Unit->Option Bool}(p:α->β->Bool)(a:List α)(b:List β)(g:a.length=b.length)
  (f:∀(i:Nat) x y nx,b[i]? =some y->body (i:Int) x () nx=bif p x y then nx ()else some false):fO body c 0 a ()=bif all2 p a b then c ()else some false:=by
 have d:∀(l:List α) (i:Nat),i+l.length=b.length->fO body c (i:Int) l ()=bif all2 p l (b.drop i)then c ()else some false:=by
  intro l;induction l with
  |nil=>
   intro i h;rw[List.drop_eq_nil_of_le (by simp at h;omega)];rfl
  |cons x l ih=>
   intro i h;have e:i<b.length:=by simp at h;omega
   rw[List.drop_eq_getElem_cons e];show body (i:Int) x () (fO body c ((i:Int)+1) l)=_;rw[f i x b[i] _ (List.getElem?_eq_getElem e)];cases hp:p x b[i]with
   |true=>simp only[cond_true,all2,hp,Bool.true_and];exact ih (i+1) (by simp at h;omega)
   |false=>simp[all2,hp]
 have:=d a 0 V;simpa using this
theorem code_same(a b:List dm):MC a b=some (decide (a=b)):=by
  unfold MC;by_cases h:a.length=b.length
  · rw[dF V];simp only[cond_false];rw[Ty (fun x y=>decide (x=y)) a b h (fun i x y I c=>by
      obtain⟨r,G,f⟩:=x;obtain⟨J,l,d⟩:=y;unfold F3;rw[lF,c,Option.bind_some];simp only;by_cases g:r=J
      · by_cases k:G=l
        · subst g k;simp only[decide_true,Bool.and_self,cond_true];by_cases j:f.length=d.length
          · rw[dF V];simp only[cond_false];rw[Ty (fun x y=>decide (x=y)) f d j (fun i x y I c=>by
              obtain⟨u,t,m,q,s⟩:=x;obtain⟨v,p,z,B,o⟩:=y;unfold FY;rw[lF,c,Option.bind_some];simp only[eqInt,Option.bind_some,BA,lV,Ins.mk.injEq];by_cases A:u=v<;>by_cases n:t=p<;>by_cases w:m=z<;>by_cases E:q=B<;>by_cases C:s=o<;>simp[A,n,w,E,C]),Aj (fun _ _=>rfl)]
            simp[FZ,lV]
          · rw[dT V];have:f≠d:=fun e=>j (by rw[e]);simp[this,lV]
        · simp[k,lV]
      · simp[g,lV]),Aj (fun _ _=>rfl)]
    unfold F4;by_cases e:a=b<;>simp[e]
  · rw[dT V];have:a≠b:=fun e=>h (by rw[e]);rw[dF this];rfl
theorem same_g(w:GJ):JV (Hm w) (Hm w)=some true:=by
 unfold JV;rw[code_same];simp only[bnd];rw[dT trivial,cond_true,dF zq3,cond_false];have b:∀(l:List ig) (i:Nat),(w.places.map OU).drop i=l->fO (xH<|Hm w) (xI (Hm w)<|Hm w) (i:Int) l ()=some true:=by
  intro l;induction l with
  |nil=>intro i _;rw[QD];unfold xI;rw[wSame];simp[bnd]
  |cons x l ih=>
   intro i c;rw[zl];have a:=ih (i+1) (by rw[<-List.drop_drop,c];rfl);rw[show((i+1:Nat):Int)=(i:Int)+1 from rfl]at a;generalize fO (xH (Hm w)) (xI (Hm w) (Hm w)) ((i:Int)+1) l=F at a⊢;unfold xH;have d:(w.places.map OU)[i]? =some x:=by
    have:=congrArg (fun l=>l[0]?) c;simpa[List.getElem?_drop]using this
   show(idx (w.places.map OU) (i:Int)).bind _=_;rw[lF,d];simp only[bnd];rw[coSame,diskSame];simp only[bnd,beq_self_eq_true,cond_true,decide_true,Bool.not_true];exact a
 exact b _ 0 Z
theorem hN:60002<=NN:=by decide
theorem worldStands(a:aX)(b:Int)(p:∀x∈a.places,x.wait.length<=9223372036854775807):uE NN a b=some true:=by
  have l:a=Hm (toW a):=(of_to a).symm;have g:=wts_to p;generalize toW a=w at l g;subst l;unfold uE;rw[moved_ok];simp only[bnd,Bool.not_true,cond_false];rw[check_g g hN];simp only[bnd];unfold nk;by_cases i:Hl w=0
  · rw[dF (nn i),cond_false];have h:=(w_iff w).1 i;obtain⟨k,r,s,u⟩:=at_eq b (n:=3) V V;have f:On k:=⟨s,by omega⟩;rw[r];simp only[bnd];rw[g_at (Wv h f)];simp only[bnd];rw[up_g];cases hu:(wH w k).up with
    |false=>rfl
    |true=>
      simp only[Bool.not_true,cond_false];obtain⟨t,q⟩:=stands h f hu;rw[do_of g _ hN (fun h=>step7_g h f hu hN),if_neg (nn i),if_neg zq3];simp only[bnd];have j:WR (BL w k ⟨[],(wH w k).d,false⟩):=h.set ⟨(h.at f).disk,fun _=>rfl,fun e=>(by cases e),fun e=>(by cases e),fun c o=>(by cases o)⟩;rw[dF V,cond_false,g_at (Wv j f)];simp only[bnd];rw[pAt_set _ (Wv h f) (Wv h f),if_pos rfl];unfold ni;show(bif (false||decide ((0:Int)<(([]:List Co).length:Int)))then _ else _)=_;rw[show(false||decide ((0:Int)<(([]:List Co).length:Int)))=false from rfl,cond_false];have m:YD (BL w k ⟨[],(wH w k).d,false⟩) k=(w,0):=by
        have hn:¬(k<0\/((BL w k ⟨[],(wH w k).d,false⟩).places.length:Int)<=k):=by have:=Wv j f;omega
        rw[<-q];unfold Qx;rw[if_neg zq3,if_neg zq3,if_neg zq3,if_neg hn,if_pos rfl]
      rw[do_of j.wts _ hN (fun h=>step8_g h f hN),if_neg (nn ((w_iff _).2 j)),m,if_neg zq3];simp only[bnd];rw[dT trivial,cond_true,same_g];rfl
  · rw[dT (show Hl w≠0 from i),cond_true,moved_ok];rfl
end Pw
end Go.Proofs.YtodkbibbgakkdaaGreatDoor