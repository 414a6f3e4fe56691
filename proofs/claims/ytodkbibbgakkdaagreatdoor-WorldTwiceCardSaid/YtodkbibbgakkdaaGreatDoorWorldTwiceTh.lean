/-
  What the law WorldTwice needs of our own library and of the walks, no more.
-/
import Derived.Test.YtodkbibbgakkdaaGreatDoorWorldTwiceTg
set_option linter.unusedSimpArgs false
set_option linter.unusedVariables false
set_option maxRecDepth 10000
namespace Go.Proofs.YtodkbibbgakkdaaGreatDoor
open Go Go.Proofs Go.LX
noncomputable section
abbrev preL:List (Int×Str):=[(2,[118]),(4,[46]),(5,[110,101,119]),(6,[102]),(1,[])]
theorem bnd{α β:Type}(a:α)(f:α->Option β):(some a).bind f=f a:=rfl
theorem find_uniq{α σ:Type}{g:α->Option σ}{l:List α}(c:∀p∈l,∀q∈l,g p≠none->g q≠none->p=q){p:α}(hp:p∈l){t:σ}(h:g p=some t):l.findSome? g=some t:=by
 cases e:l.findSome? g with
 |none=>
  rw[List.findSome?_eq_none_iff]at e;rw[e p hp]at h;cases h
 |some u=>
  obtain⟨q,b,a⟩:=List.exists_of_findSome?_eq_some e;have:=c p hp q b (by rw[h];simp) (by rw[a];simp);subst this;rw[h]at a;exact a.symm
theorem Zf{α σ:Type}{step:α->σ->Option σ}{g:α->Option σ}:∀{l:List α},(∀p∈l,∀s,step p s=some ((g p).getD s))->(∀p∈l,g p=none)->∀s,Va step l s=some s
 |[],_,_,s=>rfl
 |p::l,h,hn,s=>by
  unfold Va;rw[h p zq3,hn p zq3,Option.getD_none,bnd];exact Zf (fun q a=>h q<|List.mem_cons_of_mem _ a) (fun q a=>hn q<|List.mem_cons_of_mem _ a) s
theorem Zg{α σ:Type}{step:α->σ->Option σ}{g:α->Option σ}:∀{l:List α},(∀p∈l,∀s,step p s=some ((g p).getD s))->(∀p∈l,∀q∈l,g p≠none->g q≠none->p=q)->l.Nodup->∀s,Va step l s=some ((l.findSome? g).getD s)
  |[],_,_,_,s=>rfl
  |p::l,h,hu,hn,s=>by
    unfold Va;rw[h p zq3,bnd];have d:=List.nodup_cons.1 hn;cases e:g p with
    |none=>
      rw[Option.getD_none,Zg (fun q c=>h q (List.mem_cons_of_mem _ c)) (fun a f b i=>hu a (List.mem_cons_of_mem _ f) b (List.mem_cons_of_mem _ i)) d.2 s,List.findSome?_cons,e]
    |some t=>
      rw[Option.getD_some,Zf (fun q c=>h q (List.mem_cons_of_mem _ c)) (fun q c=>?_) t,List.findSome?_cons,e]
      · rfl
      · cases e2:g q with
        |none=>rfl
        |some u=>
          have:=hu p zq3 q (List.mem_cons_of_mem _ c) (by rw[e];simp) (by rw[e2];simp);subst this;exact absurd c d.1
theorem folds_one{α σ:Type}{step:α->σ->Option σ}{g:α->Option σ}{L:List α}(h:∀p∈L,∀s,step p s=some ((g p).getD s))(c:∀p∈L,∀q∈L,g p≠none->g q≠none->p=q)(hn:L.Nodup)(s:σ):zC step L s ((L.findSome? g).getD s):=by
 intro l a;rw[Zg (fun p hp=>h p (a.mem_iff.1 hp)) (fun p hp q b=>c p (a.mem_iff.1 hp) q (a.mem_iff.1 b)) (a.nodup_iff.2 hn) s];congr 2;cases e:L.findSome? g with
 |none=>
  rw[List.findSome?_eq_none_iff]at e⊢;exact fun x d=>e x<|a.mem_iff.1 d
 |some t=>
  obtain⟨p,hp,f⟩:=List.exists_of_findSome?_eq_some e;exact find_uniq (fun p hp q b=>c p (a.mem_iff.1 hp) q<|a.mem_iff.1 b) (a.mem_iff.2 hp) f
def joO(a:Int×Str)(y:Int×Bool)(x:Bool):Option (Int×Int):=bif x then some (a.1,y.1)else none
def stepO(s:Str)(b:Int×Str):Option (Option (Int×Int)):=
 (strings_TrimPrefix s b.2).bind fun d=>(GA d).bind fun a=>bif (!a.2)then(nA (⟨b.1,a.1⟩:Tok)).bind fun c=>some (joO b a (decide ((c:Str)=s)))else some (joO b a false)
theorem j227_eq(c:Int×Str)(y:Int×Bool)(a b:Int)(x:Bool):Bn c y a b x=some ((joO c y x).getD (a,b)):=by
 unfold Bn joO;cases x<;>rfl
theorem b228_eq(s:Str)(c:Int×Str)(d:Int×Int):vH s c d=(stepO s c).bind fun o=>some (o.getD d):=by
 obtain⟨a,b⟩:=d;unfold vH stepO;simp only[j227_eq];cases strings_TrimPrefix s c.2 with
 |none=>rfl
 |some y=>
  simp only[bnd];cases GA y with
  |none=>rfl
  |some z=>
   simp only[bnd];cases z.2 with
   |true=>rfl
   |false=>
    simp only[Bool.not_false,cond_true];cases nA (⟨c.1,z.1⟩:Tok)<;>rfl
def gO(s:Str)(p:Int×Str):Option (Int×Int):=(stepO s p).join
def okW(s:Str):Bool:=preL.all (fun p=>(stepO s p).isSome)&&preL.all (fun p=>preL.all fun q=>(gO s p).isNone||(gO s q).isNone||decide (p=q))
def preC(s:Str):Int×Int:=(preL.findSome? (gO s)).getD (0,0)
theorem fold_ok{s:Str}(h:okW s=true):GI (vH s) preL (0,0)=some (preC s):=by
  unfold okW at h;rw[Bool.and_eq_true,List.all_eq_true,List.all_eq_true]at h;refine foldAny_eq<|folds_one (g:=gO s) (fun p hp d=>?_) (fun p hp q b a c=>?_) zq1 (0,0)
  · have a:=h.1 p hp;rw[b228_eq];unfold gO;cases e:stepO s p with
    |none=>rw[e]at a;cases a
    |some o=>cases o<;>rfl
  · have:=List.all_eq_true.1 (h.2 p hp) q b;rw[Bool.or_eq_true,Bool.or_eq_true]at this;rcases this with(e|e)|e
    · exact absurd (Option.isNone_iff_eq_none.1 e) a
    · exact absurd (Option.isNone_iff_eq_none.1 e) c
    · exact Yr e
def foldC(s:Str):Option (Int×Int):=bif okW s then some (preC s)else GI (vH s) preL (0,0)
theorem foldC_eq(s:Str):foldC s=GI (vH s) preL (0,0):=by
 unfold foldC;cases e:okW s with
 |false=>rfl
 |true=>exact(fold_ok e).symm
def Dq(N:Nat)(h:List Tok)(a:List iU)(g:Int)(e:(List Tok×Int×Bool×Int)->Option (List Tok×gp))(c:Str)(f:Bool)(d:Int):Option (List Tok×gp):=
 (foldC c).bind fun b=>(Qk N c h a d g e f) b
theorem WX: @Dq= @Bo:=by
 funext a b c d e f g h;unfold Dq Bo;rw[foldC_eq]
def HV(N:Nat)(b:List Str)(a:List iU)(s:List Tok×Int×Bool×Int)(d:List Tok×Int×Bool×Int->Option (List Tok×gp)):Option (List Tok×gp):=
 match s with|(yR,xO,Q8,y20)=>bif (decide ((0:Int)<xO)&&Q8)then bif decide (((b.length:Int):Int)<=y20)then Dq N yR a xO d [] false y20 else ic (ko (y20+1)) (ic (ko ((y20+1)-1)) ((idx b ((y20+1)-1)).bind fun c=>Dq N yR a xO d c Q8 (y20+1)))else some (yR,(⟨y20,Q8⟩:gp))
theorem WY: @HV= @Bp:=by
 unfold HV Bp;rw[WX]
def QV(N:Nat)(c:gp)(b:List Str)(a:List iU):Option (List Tok×gp):=
 again (HV N b a) N ([],1,c.ok,c.at_)
theorem Zh: @QV= @Ql:=by
 unfold QV Ql;rw[WY]
def Dr(N:Nat)(l:gp->List Str->List iU->Int->Option (List cZ×gp))(e:Int)(c:List Str)(b:List iU)(a:Int)(j:List cZ)(g:Int)(h:(List cZ×Int×Bool)->Option (List cZ×gp))(k:Int)(f:Bool)(i:List Tok):Option (List cZ×gp):=
 bif decide (((e+1):Int)=2)then(QV N (⟨k,f⟩:gp) c b).bind fun d=>Bq l e a c b j g i h d.2.at_ d.2.ok d.1 else Bq l e a c b j g i h k f []
theorem WZ: @Dr= @Br:=by
 unfold Dr Br;rw[Zh]
def zo(N:Nat)(k:gp->List Str->List iU->Int->Option (List cZ×gp))(e:Int)(c:List Str)(b:List iU)(a:Int)(h:List cZ)(f:(List cZ×Int×Bool)->Option (List cZ×gp))(i:Int)(j:Bool)(g:Int):Option (List cZ×gp):=
 bif decide (((e+1):Int)≠4)then(QV N (⟨i,j⟩:gp) c b).bind fun d=>Dr N k e c b a h g f d.2.at_ d.2.ok d.1 else Dr N k e c b a h g f i j []
theorem W9: @zo= @yA:=by
 unfold zo yA;rw[Zh,WZ]
def Dt(N:Nat)(n:gp->List Str->List iU->Int->Option (List cZ×gp))(k:List cZ)(c:List Str)(b:List iU)(a:Int)(l:(List cZ×Int×Bool)->Option (List cZ×gp))(j:Str)(d:Int)(e:Bool):Option (List cZ×gp):=
 bif decide ((j:Str)=[125])then some (k,(⟨d,e⟩:gp))else(P8 [115,101,116,32,112,117,116,32,115,97,121,32,112,97,117,115,101,32,103,111,32,105,102,32,119,104,105,108,101,32,114,101,116,117,114,110]).bind fun m=>(slices_Index_string m j).bind fun f=>ic (ko (f+1)) (bif (!(e&&decide ((0:Int)<(f+1))))then some ([],(⟨d,(e&&decide ((0:Int)<(f+1)))⟩:gp))else bif decide (((f+1):Int)<=2)then bif decide (((c.length:Int):Int)<=d)then(GA []).bind fun h=>zo N n f c b a k l d false h.1 else ic (ko (d+1)) (ic (ko ((d+1)-1)) ((idx c ((d+1)-1)).bind fun g=>(GA g).bind fun i=>zo N n f c b a k l (d+1) (e&&decide ((0:Int)<(f+1))) i.1))else zo N n f c b a k l d (e&&decide ((0:Int)<(f+1))) 0)
theorem Xa: @Dt= @Bt:=by
 unfold Dt Bt;rw[W9]
def HY(N:Nat)(d:gp->List Str->List iU->Int->Option (List cZ×gp))(c:List Str)(b:List iU)(a:Int)(s:List cZ×Int×Bool)(e:List cZ×Int×Bool->Option (List cZ×gp)):Option (List cZ×gp):=
 match s with|(qm,K9,EM)=>bif EM then bif decide (((c.length:Int):Int)<=K9)then Dt N d qm c b a e [] K9 false else ic (ko (K9+1)) (ic (ko ((K9+1)-1)) ((idx c ((K9+1)-1)).bind fun f=>Dt N d qm c b a e f (K9+1) EM))else some ([],(⟨K9,EM⟩:gp))
theorem Xb: @HY= @Bu:=by
 unfold HY Bu;rw[Xa]
def EW(N:Nat)(f:gp->List Str->List iU->Int->Option (List cZ×gp))(c:List Str)(b:List iU)(a:Int)(e:Int)(d:Bool):Option (List cZ×gp):=
 again (HY N f c b a) N ([],e,d)
theorem Ya: @EW= @DU:=by
 unfold EW DU;rw[Xb]
def Du(N:Nat)(f:gp->List Str->List iU->Int->Option (List cZ×gp))(c:List Str)(b:List iU)(a:Int)(g:Bool)(e:Int)(d:Bool):Option (List cZ×gp):=
 bif g then EW N f c b a e false else EW N f c b a e d
theorem Xc: @Du= @Bv:=by
 unfold Du Bv;rw[Ya]
def G7(N:Nat)(f:gp->List Str->List iU->Int->Option (List cZ×gp))(d:gp)(c:List Str)(b:List iU)(a:Int):Option (List cZ×gp):=
 bif decide (((c.length:Int):Int)<=d.at_)then Du N f c b a true d.at_ false else ic (ko (d.at_+1)) (ic (ko ((d.at_+1)-1)) ((idx c ((d.at_+1)-1)).bind fun e=>Du N f c b a (decide ((e:Str)≠[123])||decide ((6:Int)<a)) (d.at_+1) d.ok))
theorem srdBlock_r_p: @G7= @FH:=by
 unfold G7 FH;rw[Xc]
def Jm:Nat->gp->List Str->List iU->Int->Option (List cZ×gp)
 |0=>fun _ _ _ _=>none
 |N+1=>G7 N (Jm N)
theorem Xd:∀N,Jm N=DV N
 |0=>rfl
 |N+1=>by show G7 N (Jm N)=FH N (DV N);rw[srdBlock_r_p,Xd N]
def mi(N:Nat)(f:List Str)(d:List iU)(a:Int)(g:(List iU×Int×Bool)->Option (List iU×Int))(h:Int)(b:Bool):Option (List iU×Int):=
 (Jm N (⟨h,b⟩:gp) f d 1).bind fun c=>(idx d a).bind fun e=>g ((d.set (a).toNat {e with body:=c.1}),c.2.at_,c.2.ok)
theorem En: @mi= @kQ:=by
 unfold mi kQ;rw[show @Jm= @DV from funext Xd]
def mo(N:Nat)(d:List Str)(f:List iU)(a:Int)(e:(List iU×Int×Bool)->Option (List iU×Int))(b:Int)(c:Bool):Option (List iU×Int):=
 bif decide (((d.length:Int):Int)<=b)then mi N d f a e b false else ic (ko (b+1)) (ic (ko ((b+1)-1)) ((idx d ((b+1)-1)).bind fun g=>mi N d f a e (b+1) c))
theorem Eo: @mo= @kS:=by
 unfold mo kS;rw[En]
def mq(N:Nat)(d:List Str)(f:List iU)(a:Int)(e:(List iU×Int×Bool)->Option (List iU×Int))(b:Int)(c:Bool):Option (List iU×Int):=
 bif decide (((d.length:Int):Int)<=b)then mo N d f a e b false else ic (ko (b+1)) (ic (ko ((b+1)-1)) ((idx d ((b+1)-1)).bind fun g=>mo N d f a e (b+1) c))
theorem Ep: @mq= @kT:=by
 unfold mq kT;rw[Eo]
def mr(N:Nat)(g:List Str)(e:List iU)(a:Int)(d:(List iU×Int×Bool)->Option (List iU×Int))(c:Bool)(f:Int)(b:Bool):Option (List iU×Int):=
 bif c then mq N g e a d f false else mq N g e a d f b
theorem Er: @mr= @kU:=by
 unfold mr kU;rw[Ep]
def qd(N:Nat)(c:List Str)(a:Int)(s:List iU×Int×Bool)(d:List iU×Int×Bool->Option (List iU×Int)):Option (List iU×Int):=
 match s with|(zg,y98,y99)=>bif decide (((c.length:Int):Int)<=y98)then mr N c zg a d true y98 false else ic (ko (y98+1)) (ic (ko ((y98+1)-1)) ((idx c ((y98+1)-1)).bind fun b=>mr N c zg a d (decide ((b:Str)≠[102,117,110])) (y98+1) y99))
theorem Et: @qd= @mU:=by
 unfold qd mU;rw[Er]
def qf(N:Nat)(c:List Str)(a:Str)(b:List iU)(s:Unit):Option (List iU×Int):=
 upto (qd N c) (qK N c a) 0 ((b.length:Int)).toNat (b,0,true)
theorem Eu: @qf= @mW:=by
 unfold qf mW;rw[Et]
def qg(N:Nat)(c:List Str)(a:Str)(b:List iU):Option (List iU×Int):=
 bif (decide (((b.length:Int):Int)=0)||decide ((4:Int)<(b.length:Int)))then some ([],1)else upto (qL b) (qf N c a b) 0 ((b.length:Int)).toNat ()
theorem Ew: @qg= @mX:=by
 unfold qg mX;rw[Eu]
def uU(N:Nat)(a:Str):Option (List iU×Int):=
 (NV a [32]).bind fun b=>iQ (qM b) (qg N b a) 0 b []
theorem HZ: @uU= @qa:=by
 unfold uU qa;rw[Ew]
def yn(N:Nat):Option (List iU):=
 (uU N [102,117,110,32,48,32,49,32,123,32,115,101,116,32,48,32,51,32,119,104,105,108,101,32,118,48,32,123,32,115,97,121,32,102,49,32,118,48,32,118,48,32,103,111,32,118,48,32,112,97,117,115,101,32,115,101,116,32,48,32,45,32,118,48,32,49,32,125,32,125,32,102,117,110,32,50,32,50,32,123,32,114,101,116,117,114,110,32,42,32,118,48,32,118,49,32,125]).bind fun a=>some a.1
theorem KI: @yn= @pR:=by
 unfold yn pR;rw[HZ]
abbrev NN:Nat:=70000
theorem program_p:pR NN=yn NN:=by rw[KI]
end
open Go Go.Proofs Go.LX
theorem QW(a b:Int):(decide (a<0)||decide (b<=a))= !bD a b:=by
 unfold bD;rw[Bool.eq_iff_iff];simp;try omega
theorem idx0{α:Type}(x:α)(l:List α):idx (x::l) 0=some x:=by simp[idx]
theorem len_one{l:List Int}:l.length=1↔∃x,l=[x]:=by
 match l with
 |[]=>simp
 |[x]=>simp
 |x::y::r=>simp
def H5(i:Nat)(x:dn):Int:=
 if(0<=x.params/\x.params<=3)/\(1<=x.regs/\x.params<=x.regs/\x.regs<=40)/\¬(i=0/\x.params≠0)then(if 1<=x.code.length/\x.code.length<=2000 then 0 else 2)else 3
theorem b39_eq(i:Nat)(x:dn)(b:Unit->Option Int):mY (i:Int) x () b=if H5 i x≠0 then some (H5 i x)else b ():=by
  unfold mY H5;by_cases a:(0<=x.params/\x.params<=3)/\(1<=x.regs/\x.params<=x.regs/\x.regs<=40)/\¬(i=0/\x.params≠0)
  · have e:(((((decide ((x.params:Int)<0)||decide ((3:Int)<x.params))||decide ((x.regs:Int)<1))||decide ((x.regs:Int)<x.params))||decide ((40:Int)<x.regs))||(decide ((i:Int)=0)&&decide ((0:Int)<x.params)))=false:=by
      simp only[Bool.or_eq_false_iff,Bool.and_eq_false_iff,decide_eq_false_iff_not];omega
    rw[e,if_pos a];simp only[cond_false];by_cases c:1<=x.code.length/\x.code.length<=2000
    · rw[if_pos c,show(decide (((x.code.length:Int):Int)=0)||decide ((2000:Int)<(x.code.length:Int)))=false by simp only[Bool.or_eq_false_iff,decide_eq_false_iff_not];omega];rfl
    · rw[if_neg c,show(decide (((x.code.length:Int):Int)=0)||decide ((2000:Int)<(x.code.length:Int)))=true by simp only[Bool.or_eq_true,decide_eq_true_eq];omega];rfl
  · have e:(((((decide ((x.params:Int)<0)||decide ((3:Int)<x.params))||decide ((x.regs:Int)<1))||decide ((x.regs:Int)<x.params))||decide ((40:Int)<x.regs))||(decide ((i:Int)=0)&&decide ((0:Int)<x.params)))=true:=by
      simp only[Bool.or_eq_true,Bool.and_eq_true,decide_eq_true_eq];omega
    rw[e,if_neg a];rfl
def heads:Nat->List dn->Int
 |_,[]=>0
 |i,x::p=>if H5 i x≠0 then H5 i x else heads (i+1) p
theorem Xe(k:Unit->Option Int):∀(p:List dn) (i:Nat),iQ mY k (i:Int) p ()=if heads i p≠0 then some (heads i p)else k ()
 |[],i=>by simp[heads,iQ]
 |x::p,i=>by
  show mY (i:Int) x () (iQ mY k ((i:Int)+1) p)=_;rw[b39_eq,show((i:Int)+1)=((i+1:Nat):Int) by omega,Xe k p (i+1),heads];by_cases h:H5 i x=0<;>simp[h]
def yL(x:dn):Prop:=1<=x.code.length/\x.code.length<=2000
theorem iM{α σ ρ:Type}{body:α->σ->(σ->ρ)->ρ}{k:σ->ρ}(x:α)(l:List α)(s:σ):each body k (x::l) s=body x s (each body k l):=rfl
theorem b8_tot(d:Int):∀l:List Int,∃y,each (wE d) Dm l ()=some y
 |[]=>⟨0,rfl⟩
 |x::l=>by
  obtain⟨y,a⟩:=b8_tot d l;rw[iM];unfold wE;cases (!(decide ((0:Int)<=x)&&decide ((x:Int)<d)))with
  |true=>exact⟨3,rfl⟩
  |false=>exact⟨y,a⟩
theorem j5_tot(i:Bool)(a:Ins)(b j:Int)(c:List dn)(e f d k:Int):∃y,gV i a b j c e f d k=some y/\(y=0->(a.args.length:Int)=f):=by
 unfold gV;cases i with
 |false=>exact⟨3,rfl,fun h=>absurd h zq1⟩
 |true=>
  simp only[Bool.not_true,cond_false];generalize g:(((decide ((a.a:Int)≠k)||decide ((a.b:Int)≠j))||decide ((a.c:Int)≠e))||decide (((a.args.length:Int):Int)≠f))=C;cases C with
  |true=>exact⟨4,rfl,fun h=>absurd h zq1⟩
  |false=>
   simp only[Bool.or_eq_false_iff,decide_eq_false_iff_not,Decidable.not_not]at g;simp only[cond_false];cases decide ((a.op:Int)=7)with
   |true=>obtain⟨y,l⟩:=b8_tot d a.args;exact⟨y,l,fun _=>g.2⟩
   |false=>exact⟨0,rfl,fun _=>g.2⟩
theorem j4_tot(a:Ins)(b:Int)(c:List dn)(d:Int)(g:Bool)(f i h e:Int):∃y,dY a b c d g f i h e=some y/\(y=0->(a.args.length:Int)=f):=by
 unfold dY;cases decide ((a.op:Int)=12)with
 |true=>exact j5_tot g a b h c e f d 0
 |false=>exact j5_tot g a b h c e f d i
def InsT(a:Ins)(r:Option Int):Prop:=∃y,r=some y/\(y=0->a.args.length<=3)
theorem Yb(a:Ins)(b:Int)(c:List dn)(d:Int)(i:Bool){f:Int}(g j e:Int)(h:f<=3):InsT a (dY a b c d i f g j e):=by
 obtain⟨y,k,l⟩:=j4_tot a b c d i f g j e;exact⟨y,k,fun m=>by have:=l m;omega⟩
theorem wz{a:Ins}{c:Bool}{x y:Option Int}(b:InsT a x)(d:InsT a y):InsT a (bif c then x else y):=by
  cases c
  · exact d
  · exact b
theorem Xf{a:Ins}{e:Int}(h:e≠0):InsT a (some e):=⟨e,rfl,fun b=>absurd b h⟩
theorem check_ins(a:Ins)(b:Int)(c:List dn)(d e:Int)(hp:∀x∈c,x.params<=3):InsT a (ky a b c d e):=by
  unfold ky;refine wz (Xf zq1)<|wz (Xf zq1)<|wz (Yb _ _ _ _ _ _ _ _ zq1)<|wz (Yb _ _ _ _ _ _ _ _ zq1) ?_;have f:∀x,InsT a (fO a b c d x):=fun x=>by
    unfold fO;exact wz (Yb _ _ _ _ _ _ _ _ zq1)<|wz (Yb _ _ _ _ _ _ _ _ zq1)<|Yb _ _ _ _ _ _ _ _ zq1
  have g:∀x,InsT a (fV a b c d e x):=fun x=>by
    unfold fV;refine wz (Yb _ _ _ _ _ _ _ _ zq1) ?_;cases decide ((a.op:Int)=7)with
    |false=>
      rw[cond_false];exact wz (f _)<|wz (f _)<|f _
    |true=>
      simp only[cond_true];rw[QW];cases hb:bD a.b (c.length:Int)with
      |false=>exact Xf zq1
      |true=>
        simp only[Bool.not_true,cond_false];unfold bD at hb;simp only[Bool.and_eq_true,decide_eq_true_eq]at hb;obtain⟨n,hn⟩:=Int.eq_ofNat_of_zero_le hb.1;rw[hn,Cu V,Option.bind_some];exact Yb _ _ _ _ _ _ _ _<|hp _<|List.getElem_mem _
  have h:∀x,InsT a (fZ a b c d e x):=fun x=>by
    unfold fZ;refine wz (Yb _ _ _ _ _ _ _ _ zq1) ?_;cases decide ((a.op:Int)=3)with
    |false=>
      rw[cond_false];exact wz (g _)<|g _
    |true=>
      simp only[cond_true];by_cases i:a.args.length=1
      · rw[dT (show((a.args.length:Int):Int)=1 by omega)];obtain⟨y,j⟩:=len_one.1 i;simp only[cond_true];rw[show idx a.args 0=some y by rw[j,idx0],Option.bind_some];exact Yb _ _ _ _ _ _ _ _ zq1
      · rw[dF (show¬((a.args.length:Int):Int)=1 by omega)];exact Yb _ _ _ _ _ _ _ _ zq1
  exact wz (h _)<|h _
def Good(a:List dn):Prop:=a.length<=4/\∀x∈a,yL x/\∀c∈x.code,c.args.length<=3
theorem headOk_zero{i:Nat}{x:dn}(h:H5 i x=0):x.params<=3/\yL x:=by
  unfold H5 at h;split at h
  · split at h
    · exact⟨by omega,by unfold yL;omega⟩
    · cases h
  · cases h
theorem Xg:∀(p:List dn) (i:Nat),heads i p=0->∀x∈p,x.params<=3/\yL x
  |[],_,_,x,hx=>by cases hx
  |y::p,i,h,x,hx=>by
    unfold heads at h;split at h
    · rename_i a;exact absurd h a
    · rename_i a;rcases List.mem_cons.1 hx with rfl|hx
      · exact headOk_zero<|Decidable.not_not.1 a
      · exact Xg p (i+1) h x hx
theorem b35_tot(a:List dn)(x:dn)(k:Unit->Option Int)(hp:∀x∈a,x.params<=3)(Q:Prop)(j:∃y,k ()=some y/\(y=0->Q)):∀(l:List Ins) (i:Int),∃y,iQ (j5 a x) k i l ()=some y/\(y=0->Q/\∀c∈l,c.args.length<=3)
  |[],i=>by
    obtain⟨y,g,b⟩:=j;exact⟨y,g,fun h=>⟨b h,by intro c n;cases n⟩⟩
  |c::l,i=>by
    obtain⟨y,g,b⟩:=b35_tot a x k hp Q j l<|i+1;have m:iQ (j5 a x) k i (c::l) ()=j5 a x i c () (iQ (j5 a x) k (i+1) l):=rfl;rw[m];unfold j5;obtain⟨z,g1,g2⟩:=check_ins c i a x.regs (x.code.length:Int) hp;rw[g1,Option.bind_some];by_cases e:z=0
    · rw[dF V,cond_false];refine⟨y,g,fun h=>⟨(b h).1,fun d f=>?_⟩⟩;rcases List.mem_cons.1 f with rfl|f
      · exact g2 e
      · exact(b h).2 d f
    · rw[dT e,cond_true];exact⟨z,Z,fun h=>absurd h e⟩
theorem b37_tot(a:List dn)(hp:∀x∈a,x.params<=3/\yL x):∀l:List dn,(∀x∈l,x.params<=3/\yL x)->∃y,each (qO a) xQ l ()=some y/\(y=0->∀x∈l,∀c∈x.code,c.args.length<=3)
  |[],_=>⟨0,rfl,fun _ x b=>by cases b⟩
  |x::l,hl=>by
    obtain⟨y,e,i⟩:=b37_tot a hp l fun z g=>hl z<|List.mem_cons_of_mem _ g;rw[iM];unfold qO;have b:=hl x zq3;obtain⟨z,g1,g2⟩:=b35_tot a x (xP x (each (qO a) xQ l)) (fun x b=>(hp x b).1) (∀x∈l,∀c∈x.code,c.args.length<=3) (by
      unfold xP;have f:=b.2;unfold yL at f;rw[gI,show((x.code.length:Int)-1)=((x.code.length-1:Nat):Int) by omega,Cu V,Option.bind_some];cases (decide ((x.code[x.code.length-1].op:Int)≠8)&&decide ((x.code[x.code.length-1].op:Int)≠12))with
      |true=>exact⟨4,rfl,fun h=>absurd h zq1⟩
      |false=>exact⟨y,e,i⟩) x.code 0
    refine⟨z,g1,fun h=>?_⟩;intro w d;rcases List.mem_cons.1 d with rfl|d
    · exact(g2 h).2
    · exact(g2 h).1 w d
theorem Zi(a:List dn):∃y,qP a=some y/\(y=0->Good a):=by
  unfold qP;generalize e:(decide (((a.length:Int):Int)=0)||decide ((4:Int)<(a.length:Int)))=C;cases C with
  |true=>exact⟨2,rfl,fun h=>absurd h zq1⟩
  |false=>
    simp only[Bool.or_eq_false_iff,decide_eq_false_iff_not]at e;have d:iQ mY (uN a) 0 a ()=_:=Xe (uN a) a 0;rw[cond_false,d];by_cases b:heads 0 a=0
    · rw[if_neg V];have hp:=Xg a 0 b;obtain⟨y,g1,g2⟩:=b37_tot a hp a hp;exact⟨y,g1,fun h=>⟨by omega,fun x c=>⟨(hp x c).2,g2 h x c⟩⟩⟩
    · rw[if_pos b];exact⟨_,Z,fun h=>absurd h b⟩
def chk(a:List dn):Int:=(qP a).getD 0
theorem chk_eq(a:List dn):qP a=some (chk a):=by
 obtain⟨y,h,_⟩:=Zi a;unfold chk;rw[h];rfl
def TF(R x:Int):Prop:=0<=x/\x<R
def Mt(a:List dn)(R L:Int)(c:Ins):Prop:=
 (c.op=1/\TF R c.a/\(-1000000000<=c.b/\c.b<=1000000000))\/
 (c.op=2/\TF R c.a/\TF R c.b)\/
 (c.op=3/\TF R c.a/\TF R c.b/\TF R c.c/\∃n,c.args=[n]/\1<=n/\n<=5)\/
 ((c.op=4\/c.op=6)/\TF R c.a/\TF R c.b/\(0<=c.c/\c.c<4))\/
 (c.op=5/\TF R c.a/\(1<=c.b/\c.b<=4))\/
 (c.op=7/\TF R c.a/\(∃p,idx a c.b=some p/\(c.args.length:Int)=p.params)/\∀x∈c.args,TF R x)\/
 ((c.op=8\/c.op=9\/c.op=11)/\TF R c.a)\/
 c.op=10\/
 (c.op=12/\(0<=c.b/\c.b<L))\/
 (c.op=13/\TF R c.a/\(0<=c.b/\c.b<L))
theorem each_b8(R:Int):∀l:List Int,each (wE R) Dm l ()=some 0->∀x∈l,TF R x
  |[],_,x,hx=>by cases hx
  |y::l,h,x,hx=>by
    rw[iM]at h;unfold wE at h;cases e:(!(decide ((0:Int)<=y)&&decide ((y:Int)<R)))with
    |true=>rw[e,cond_true]at h;cases h
    |false=>
      rw[e,cond_false]at h;rcases List.mem_cons.1 hx with rfl|hx
      · simp at e;exact e
      · exact each_b8 R l h x hx
theorem insG_of{c:Ins}{i:Int}{a:List dn}{R L:Int}(h:ky c i a R L=some 0):Mt a R L c:=by
  obtain⟨op,w,v,u,args⟩:=c;by_cases n:op=1
  · subst n;simp[ky,fq,gz,jb,jB,iP,dY,gV,fZ,fV,fO,Bool.cond_eq_ite]at h;simp[Mt,TF]
    (repeat (split at h;·simp at h))
    omega
  by_cases l:op=2
  · subst l;simp[ky,fq,gz,jb,jB,iP,dY,gV,fZ,fV,fO,Bool.cond_eq_ite]at h;simp[Mt,TF]
    (repeat (split at h;·simp at h))
    omega
  by_cases q:op=3
  · subst q;simp[ky,fq,gz,jb,jB,iP,dY,gV,fZ,fV,fO,Bool.cond_eq_ite]at h;simp[Mt,TF];by_cases o:args.length=1
    · obtain⟨y,rfl⟩:=len_one.1 o;simp[idx0]at h;split at h
      · simp at h
      split at h
      · simp at h
      refine⟨by omega,by omega,by omega,y,Z,by omega,by omega⟩
    · exfalso;rw[if_neg (show¬((args.length:Int)=1) by omega)]at h;split at h<;>simp at h
  by_cases k:op=4
  · subst k;simp[ky,fq,gz,jb,jB,iP,dY,gV,fZ,fV,fO,Bool.cond_eq_ite]at h;simp[Mt,TF]
    (repeat (split at h;·simp at h))
    omega
  by_cases r:op=5
  · subst r;simp[ky,fq,gz,jb,jB,iP,dY,gV,fZ,fV,fO,Bool.cond_eq_ite]at h;simp[Mt,TF]
    (repeat (split at h;·simp at h))
    omega
  by_cases m:op=6
  · subst m;simp[ky,fq,gz,jb,jB,iP,dY,gV,fZ,fV,fO,Bool.cond_eq_ite]at h;simp[Mt,TF]
    (repeat (split at h;·simp at h))
    omega
  by_cases j:op=7
  · subst j;simp[ky,fq,gz,jb,jB,iP,dY,gV,fZ,fV,fO,Bool.cond_eq_ite]at h;simp[Mt,TF];split at h
    · simp at h
    split at h
    · simp at h
    obtain⟨p,hp,h⟩:=az h
    (repeat (split at h;·simp at h))
    refine⟨by omega,⟨p,hp,by omega⟩,fun x s=>each_b8 R args h x s⟩
  by_cases g:op=8
  · subst g;simp[ky,fq,gz,jb,jB,iP,dY,gV,fZ,fV,fO,Bool.cond_eq_ite]at h;simp[Mt,TF]
    (repeat (split at h;·simp at h))
    omega
  by_cases t:op=9
  · subst t;simp[ky,fq,gz,jb,jB,iP,dY,gV,fZ,fV,fO,Bool.cond_eq_ite]at h;simp[Mt,TF]
    (repeat (split at h;·simp at h))
    omega
  by_cases b:op=10
  · subst b;simp[Mt,TF]
  by_cases e:op=11
  · subst e;simp[ky,fq,gz,jb,jB,iP,dY,gV,fZ,fV,fO,Bool.cond_eq_ite]at h;simp[Mt,TF]
    (repeat (split at h;·simp at h))
    omega
  by_cases d:op=12
  · subst d;simp[ky,fq,gz,jb,jB,iP,dY,gV,fZ,fV,fO,Bool.cond_eq_ite]at h;simp[Mt,TF]
    (repeat (split at h;·simp at h))
    omega
  by_cases f:op=13
  · subst f;simp[ky,fq,gz,jb,jB,iP,dY,gV,fZ,fV,fO,Bool.cond_eq_ite]at h;simp[Mt,TF]
    (repeat (split at h;·simp at h))
    omega
  · exfalso;simp[ky,fq,gz,jb,jB,iP,dY,gV,fZ,fV,fO,Bool.cond_eq_ite, *]at h
structure PD(a:List dn):Prop where
 many:1<=a.length/\a.length<=4
 head:∀(i:Nat) x,a[i]? =some x->(0<=x.params/\x.params<=3)/\(1<=x.regs/\x.params<=x.regs/\x.regs<=40)/\¬(i=0/\x.params≠0)/\yL x
 last:∀x∈a,∃c,idx x.code ((x.code.length:Int)-1)=some c/\(c.op=8\/c.op=12)
 ins:∀x∈a,∀c∈x.code,Mt a x.regs x.code.length c
theorem Zj:∀(p:List dn) (j:Nat),heads j p=0->∀(i:Nat) x,p[i]? =some x->H5 (j+i) x=0
  |[],j,_,i,x,hx=>by simp at hx
  |y::p,j,h,i,x,hx=>by
    unfold heads at h;split at h
    · rename_i a;exact absurd h a
    · rename_i a;cases i with
      |zero=>simp at hx;subst hx;exact Decidable.not_not.1 a
      |succ i=>rw[show j+(i+1)=(j+1)+i by omega];exact Zj p (j+1) h i x (by simpa using hx)
theorem b35_ins(a:List dn)(x:dn)(k:Unit->Option Int):∀(l:List Ins) (i:Int),iQ (j5 a x) k i l ()=some 0->k ()=some 0/\∀c∈l,Mt a x.regs x.code.length c
  |[],i,h=>⟨h,fun c b=>by cases b⟩
  |y::l,i,h=>by
    have j:iQ (j5 a x) k i (y::l) ()=j5 a x i y () (iQ (j5 a x) k (i+1) l):=rfl;rw[j]at h;unfold j5 at h;obtain⟨z,g,h⟩:=az h;by_cases d:z=0
    · subst d;rw[dF zq3,cond_false]at h;obtain⟨f,e⟩:=b35_ins a x k l (i+1) h;refine⟨f,fun c b=>?_⟩;rcases List.mem_cons.1 b with rfl|b
      · exact insG_of g
      · exact e c b
    · rw[dT d,cond_true]at h;exact absurd (osi h) d
theorem b37_ins(a:List dn):∀l:List dn,each (qO a) xQ l ()=some 0->∀x∈l,(∃c,idx x.code ((x.code.length:Int)-1)=some c/\(c.op=8\/c.op=12))/\∀c∈x.code,Mt a x.regs x.code.length c
  |[],_,x,hx=>by cases hx
  |y::l,h,x,hx=>by
    rw[iM]at h;unfold qO at h;obtain⟨b,f⟩:=b35_ins a y _ y.code 0 h;unfold xP at b;obtain⟨_,b⟩:=bC b;obtain⟨c,d,b⟩:=az b;cases e:(decide ((c.op:Int)≠8)&&decide ((c.op:Int)≠12))with
    |true=>rw[e,cond_true]at b;cases b
    |false=>
      rw[e,cond_false]at b;rcases List.mem_cons.1 hx with rfl|hx
      · exact⟨⟨c,d,by simp only[Bool.and_eq_false_iff,decide_eq_false_iff_not,Decidable.not_not]at e;exact e⟩,f⟩
      · exact b37_ins a l b x hx
theorem QX{a:List dn}(h:chk a=0):PD a:=by
  have b:=chk_eq a;rw[h]at b;unfold qP at b;generalize j:(decide (((a.length:Int):Int)=0)||decide ((4:Int)<(a.length:Int)))=C at b;cases C with
  |true=>cases b
  |false=>
    simp only[Bool.or_eq_false_iff,decide_eq_false_iff_not]at j;have f:iQ mY (uN a) 0 a ()=_:=Xe (uN a) a 0;rw[cond_false,f]at b;by_cases d:heads 0 a=0
    · rw[if_neg V]at b;have e:=b37_ins a a b;refine⟨by omega,fun i x c=>?_,fun x c=>(e x c).1,fun x c=>(e x c).2⟩;have:=Zj a 0 d i x c;rw[Nat.zero_add]at this;unfold H5 at this;split at this
      · rename_i g;split at this
        · rename_i g2;exact⟨g.1,g.2.1,g.2.2,g2⟩
        · cases this
      · cases this
    · rw[if_pos d]at b;exact absurd (osi b) d
theorem Cs{α σ ρ:Type}{body:Int->α->σ->(σ->ρ)->ρ}{k:σ->ρ}(i:Int)(x:α)(l:List α)(s:σ):iQ body k i (x::l) s=body i x s (iQ body k (i+1) l):=rfl
theorem Zk{σ ρ:Type}{body:Int->σ->(σ->ρ)->ρ}{k:σ->ρ}(i:Int)(m:Nat)(s:σ):upto body k i (m+1) s=body i s (upto body k (i+1) m):=rfl
theorem Kk{σ β:Type}{body:σ->(σ->Option β)->Option β}{m:Nat}{s:σ}:again body (m+1) s=body s (again body m):=rfl
def wZ(n:Nat)(v:Val):Prop:=(v.kind=0/\v.n=0)\/(v.kind=1/\ -1000000000<=v.n/\v.n<=1000000000)\/(v.kind=2/\0<=v.n/\v.n<n)
instance (n:Nat) (v:Val):Decidable (wZ n v):=inferInstanceAs (Decidable (_\/_))
theorem wB(n:Nat)(v:Val):iT v (n:Int)=0↔wZ n v:=by
  obtain⟨k,m⟩:=v;simp only[iT,wZ,Bool.cond_eq_ite,Bool.or_eq_true,decide_eq_true_eq];constructor
  · intro h
    (repeat' split at h)<;>first|omega|(exfalso;omega)
  · intro h;rcases h with⟨h1,h2⟩|⟨h1,h2⟩|⟨h1,h2⟩
    · rw[if_pos h1,if_neg V]
    · rw[if_neg V,if_pos h1,if_neg V]
    · rw[if_neg V,if_neg V,if_pos h1,if_neg V]
theorem value_eq(v:Val)(n:Int):gB v n=iT v n:=by
 obtain⟨k,m⟩:=v;simp only[iT,gB,si,bu,jH,bD,Bool.cond_eq_ite,Bool.or_eq_true,Bool.and_eq_true,Bool.not_eq_true',decide_eq_true_eq,decide_eq_false_iff_not,Bool.and_eq_false_iff]
 (repeat' split)<;>first|rfl|(exfalso;omega)
def zM(l:List (List Val)):Prop:=l.length<=24/\∀c∈l,(1<=c.length/\c.length<=4)/\∀v∈c,wZ l.length v
theorem cells_eq(a:List (List Val)):qc a=lS a:=by
 unfold qc lS;have k1:∀(l:List Val) (f:Unit->Int),each (ni a) (nk f) l ()=each (lJ a) (kE f) l ():=by
  intro l f;induction l with
  |nil=>rfl
  |cons x l ih=>
   show(bif decide ((gB x (a.length:Int):Int)≠0)then gB x (a.length:Int)else each (ni a) (nk f) l ())=(bif decide ((iT x (a.length:Int):Int)≠0)then iT x (a.length:Int)else each (lJ a) (kE f) l ());rw[value_eq,ih]
 have k2:∀l:List (List Val),each (nu a) ny l ()=each (mZ a) lK l ():=by
  intro l;induction l with
  |nil=>rfl
  |cons x l ih=>
   show(bif (!(bu (x.length:Int) 1 4))then 2 else each (ni a) (nk<|each (nu a) ny l) x ())=(bif (decide (((x.length:Int):Int)=0)||decide ((4:Int)<(x.length:Int)))then 2 else each (lJ a) (kE<|each (mZ a) lK l) x ());have e:(!(bu (x.length:Int) 1 4))=(decide (((x.length:Int):Int)=0)||decide ((4:Int)<(x.length:Int))):=by
    unfold bu;rw[Bool.eq_iff_iff];simp only[Bool.or_eq_true,Bool.not_eq_true',Bool.and_eq_false_iff,decide_eq_true_eq,decide_eq_false_iff_not];omega
   rw[e,k1];have:each (nu a) ny l=each (mZ a) lK l:=by funext u;exact ih
   rw[this]
 rw[k2]
theorem all_ok(a:List (List Val)):lS a=0↔zM a:=by
  have k1:∀(l:List Val) (f:Unit->Int),each (lJ a) (kE f) l ()=0↔(∀v∈l,wZ a.length v)/\f ()=0:=by
    intro l f;induction l with
    |nil=>simp[sI,kE]
    |cons x l ih=>
      show(bif decide ((iT x (a.length:Int):Int)≠0)then iT x (a.length:Int)else each (lJ a) (kE f) l ())=0↔_;by_cases h:iT x (a.length:Int)=0
      · rw[dF V,cond_false,ih];have:=(wB _ _).1 h;simp[this]
      · rw[dT h,cond_true];have b:¬wZ a.length x:=fun e=>h ((wB _ _).2 e);simp[h,b]
  have k2:∀l:List (List Val),each (mZ a) lK l ()=0↔∀c∈l,(1<=c.length/\c.length<=4)/\∀v∈c,wZ a.length v:=by
    intro l;induction l with
    |nil=>simp[sI,lK]
    |cons x l ih=>
      show(bif (decide (((x.length:Int):Int)=0)||decide ((4:Int)<(x.length:Int)))then 2 else each (lJ a) (kE<|each (mZ a) lK l) x ())=0↔_;by_cases h:1<=x.length/\x.length<=4
      · rw[show(decide (((x.length:Int):Int)=0)||decide ((4:Int)<(x.length:Int)))=false by simp only[Bool.or_eq_false_iff,decide_eq_false_iff_not];omega,cond_false,k1,ih];simp[h]
      · rw[show(decide (((x.length:Int):Int)=0)||decide ((4:Int)<(x.length:Int)))=true by simp only[Bool.or_eq_true,decide_eq_true_eq];omega,cond_true];simp[h]
  unfold lS zM;by_cases h:a.length<=24
  · rw[dF V,cond_false,k2];simp[h]
  · rw[dT V,cond_true];simp[h]
structure FrOk(a:List dn)(n:Nat)(f:LX.Frame)(x:dn):Prop where
 proc:idx a f.proc=some x
 at_:0<=f.at_/\f.at_<x.code.length
 regs:(f.regs.length:Int)=x.regs
 vals:∀v∈f.regs,wZ n v
def zq(a:List dn)(n:Nat):Int->List LX.Frame->Prop
 |_,[]=>True
 |ahead,f::l=>(∃x,FrOk a n f x)/\(0<=f.iX/\f.iX<ahead)/\zq a n f.regs.length l
structure StOk(a:List dn)(s:LX.State):Prop where
 status:0<=s.status/\s.status<=3
 bZ: -1000000000<=s.bZ/\s.bZ<=1000000000
 stay:s.status≠3->s.bZ=0
 ended:s.status=1↔s.frames=[]
 many:s.frames.length<=10
 cells:zM s.cells
 frames:zq a s.cells.length 1 s.frames
def ahead(pre:List LX.Frame):Int:=match pre.getLast? with|none=>1|some f=>f.regs.length
theorem Zl:ahead []=1:=rfl
theorem Xh(pre:List LX.Frame)(f:LX.Frame):ahead (pre++[f])=f.regs.length:=by simp[ahead]
theorem TG(b:LX.State)(f:LX.Frame)(a:Unit->Option Int)(c:Int->Option Int)(hn:a ()=c f.regs.length):∀l:List Val,each (vL b) (vM a) l ()=each (rA b) (rC c f) l ()
 |[]=>hn
 |x::l=>by
  show(bif decide ((iT x (b.cells.length:Int):Int)≠0)then some (iT x (b.cells.length:Int))else each (vL b) (vM a) l ())=(bif decide ((gB x (b.cells.length:Int):Int)≠0)then some (gB x (b.cells.length:Int))else each (rA b) (rC c f) l ());rw[value_eq,TG b f a c hn l]
theorem vals_tot(b:LX.State)(a:Unit->Option Int)(Q:Prop)(hn:∃y,a ()=some y/\(y=0↔Q)):∀l:List Val,∃y,each (vL b) (vM a) l ()=some y/\(y=0↔(∀v∈l,wZ b.cells.length v)/\Q)
  |[]=>by obtain⟨y,c,d⟩:=hn;exact⟨y,c,by simp[d]⟩
  |x::l=>by
    obtain⟨y,c,d⟩:=vals_tot b a Q hn l;have e:each (vL b) (vM a) (x::l) ()=(bif decide ((iT x (b.cells.length:Int):Int)≠0)then some (iT x (b.cells.length:Int))else each (vL b) (vM a) l ()):=rfl;rw[e];by_cases h:iT x (b.cells.length:Int)=0
    · rw[dF V,cond_false];have:=(wB _ _).1 h;exact⟨y,c,by rw[d];simp[this]⟩
    · rw[dT h,cond_true];refine⟨_,Z,?_⟩;have f:¬wZ b.cells.length x:=fun e=>h ((wB _ _).2 e);simp[h,f]
theorem Un(a:List dn)(b:LX.State)(k:b.frames.length<=10):∀(l pre:List LX.Frame),b.frames=pre++l->
    iQ (BF a b) ER (pre.length:Int) l ()=each (iJ a b) kX l (ahead pre)
  |[],pre,h=>rfl
  |f::l,pre,h=>by
    have d:=Un a b k l (pre++[f]) (by simpa using h);rw[Xh]at d;have o:(((pre++[f]).length:Nat):Int)=(pre.length:Int)+1:=by simp
    rw[o]at d;rw[Cs,iM];generalize iQ (BF a b) ER ((pre.length:Int)+1) l=K1 at d⊢;generalize each (iJ a b) kX l=K2 at d⊢;unfold BF iJ;have m:pre.length<=10:=by have:=congrArg List.length h;simp at this;omega
    have n:(decide ((f.proc:Int)<0)||decide (((a.length:Int):Int)<=f.proc))= !bD f.proc (a.length:Int):=QW _ _;rw[n];cases hp:bD f.proc (a.length:Int)with
    |false=>rfl
    |true=>
      simp only[Bool.not_true,cond_false];cases hx:idx a f.proc with
      |none=>rfl
      |some x=>
        simp only[bnd];cases ha:bD f.at_ (x.code.length:Int)with
        |false=>
          rw[show(((decide ((f.at_:Int)<0)||decide (((x.code.length:Int):Int)<=f.at_))||decide ((f.iX:Int)<0))||(decide ((pre.length:Int)=0)&&decide ((f.iX:Int)≠0)))=true by
            have:=QW f.at_ (x.code.length:Int);rw[ha]at this;rw[this];rfl]
          rfl
        |true=>
          have j:=QW f.at_ (x.code.length:Int);rw[ha]at j;rw[j];simp only[Bool.not_true,Bool.false_or,cond_false];have i:∀t,yF f x b K1 t=jL a f b K2 t:=by
            intro t;unfold yF jL;rw[hx,bnd,TG b f _ _ d]
          simp only[i];rcases List.eq_nil_or_concat pre with rfl|⟨q,g,rfl⟩
          · rw[Zl];by_cases c:f.iX=0
            · rw[show(decide ((f.iX:Int)<0)||(decide ((([]:List LX.Frame).length:Int)=0)&&decide ((f.iX:Int)≠0)))=false by simp[c],cond_false,dF zq3,cond_false,show(!bD f.iX 1)=false by simp[c,bD]]
            · rw[show(decide ((f.iX:Int)<0)||(decide ((([]:List LX.Frame).length:Int)=0)&&decide ((f.iX:Int)≠0)))=true by simp[c],cond_true,show(!bD f.iX 1)=true by simp[bD];omega]
          · rw[List.concat_eq_append]at*;rw[Xh];have e:((q++[g]).length:Int)=(q.length:Int)+1:=by simp
            rw[e,show(decide ((q.length:Int)+1=0))=false from dF V,Bool.false_and,Bool.or_false];by_cases c:f.iX<0
            · rw[dT c,cond_true,show(!bD f.iX (g.regs.length:Int))=true by simp[bD];omega]
            · rw[dF c,cond_false,dT V,cond_true,gI V (by simp at m;omega),show(q.length:Int)+1-1=((q.length:Nat):Int) by omega,nM,h];simp only[List.append_assoc,List.getElem?_append_right (Nat.le_refl _),Nat.sub_self,List.cons_append,List.nil_append,List.getElem?_cons_zero,bnd];congr 1;rw[Bool.eq_iff_iff];simp[bD];omega
theorem Xi(a:List dn)(b:LX.State):FP a b=vP a b:=by
  unfold FP vP;have f:(((decide ((b.status:Int)<0)||decide ((3:Int)<b.status))||decide ((b.bZ:Int)< -1000000000))||decide ((1000000000:Int)<b.bZ))=((!(bu b.status 0 3))||(!(jH b.bZ))):=by
    unfold jH bu;rw[Bool.eq_iff_iff];simp only[Bool.or_eq_true,Bool.not_eq_true',Bool.and_eq_false_iff,decide_eq_true_eq,decide_eq_false_iff_not];omega
  have g:((decide ((b.status:Int)≠3)&&decide ((b.bZ:Int)≠0))||(decide ((b.status:Int)=1) !=decide (((b.frames.length:Int):Int)=0)))=(((decide ((b.bZ:Int)≠0)&&decide ((b.status:Int)≠3))||(decide ((b.status:Int)=1)&&decide ((0:Int)<(b.frames.length:Int))))||(decide ((b.status:Int)≠1)&&decide (((b.frames.length:Int):Int)=0))):=by
    by_cases c:b.status=1<;>by_cases i:b.frames.length=0<;>by_cases d:b.status=3<;>by_cases e:b.bZ=0<;>simp[c,i,d,e]<;>omega
  rw[f,g,cells_eq];by_cases h:b.frames.length<=10
  · have:=Un a b h b.frames [] Z;rw[Zl]at this;rw[<-this];rfl
  · rw[show(decide ((10:Int)<(b.frames.length:Int)))=true from dT V];rfl
theorem Xj(a:List dn)(b:LX.State):∀(l:List LX.Frame) (t:Int),∃y,each (iJ a b) kX l t=some y/\(y=0↔zq a b.cells.length t l)
  |[],t=>⟨0,rfl,by simp[zq]⟩
  |f::l,t=>by
    obtain⟨y,i,m⟩:=Xj a b l f.regs.length;rw[iM];generalize each (iJ a b) kX l=K2 at i⊢;unfold iJ;cases hp:bD f.proc (a.length:Int)with
    |false=>
      refine⟨5,Z,?_⟩;have:¬zq a b.cells.length t (f::l):=by
        rintro⟨⟨x,g⟩,-,-⟩;have:=aF g.proc;have j:=(List.getElem?_eq_some_iff.1 this.2).1;unfold bD at hp;simp only[Bool.and_eq_false_iff,decide_eq_false_iff_not]at hp;omega
      simp[this]
    |true=>
      unfold bD at hp;simp only[Bool.and_eq_true,decide_eq_true_eq]at hp;simp only[Bool.not_true,cond_false];obtain⟨n,hn⟩:=Int.eq_ofNat_of_zero_le hp.1;have d:idx a f.proc=some (a[n]'V):=by rw[hn,Cu V]
      generalize a[n]'V=x at d;rw[d,bnd];have kB:∃y,jL a f b K2 true=some y/\y≠0:=⟨3,Z,by decide⟩;have c:∀z,FrOk a b.cells.length f z->z=x:=fun z g=>by have:=g.proc;rw[d]at this;exact(osi this).symm
      cases ha:bD f.at_ (x.code.length:Int)with
      |false=>
        obtain⟨y,g1,g2⟩:=kB;refine⟨y,g1,?_⟩;have:¬zq a b.cells.length t (f::l):=by
          rintro⟨⟨z,g⟩,-,-⟩;have:=c z g;subst this;have:=g.at_;unfold bD at ha;simp only[Bool.and_eq_false_iff,decide_eq_false_iff_not]at ha;omega
        simp[this,g2]
      |true=>
        simp only[Bool.not_true,cond_false];cases ht:bD f.iX t with
        |false=>
          obtain⟨y,g1,g2⟩:=kB;refine⟨y,g1,?_⟩;have:¬zq a b.cells.length t (f::l):=by
            rintro⟨⟨z,g⟩,j,-⟩;unfold bD at ht;simp only[Bool.and_eq_false_iff,decide_eq_false_iff_not]at ht;omega
          simp[this,g2]
        |true=>
          simp only[Bool.not_true];unfold jL;rw[d,cond_false,bnd];unfold bD at ha ht;simp only[Bool.and_eq_true,decide_eq_true_eq]at ha ht;by_cases e:(f.regs.length:Int)=x.regs
          · rw[dF V,cond_false,<-TG b f (fun _=>K2 f.regs.length) _ rfl];obtain⟨z,g1,g2⟩:=vals_tot b (fun _=>K2 f.regs.length) _ ⟨y,i,m⟩ f.regs;refine⟨z,g1,g2.trans ⟨fun h=>⟨⟨x,d,ha,e,h.1⟩,ht,h.2⟩,?_⟩⟩;rintro⟨⟨z,g⟩,j,k⟩;exact⟨g.vals,k⟩
          · rw[dT V,cond_true];refine⟨4,Z,?_⟩;have:¬zq a b.cells.length t (f::l):=by
              rintro⟨⟨z,g⟩,-,-⟩;have:=c z g;subst this;exact e g.regs
            simp[this]
theorem Xk(a:List dn)(b:LX.State):∃y,FP a b=some y/\(y=0↔StOk a b):=by
  rw[Xi];unfold vP;cases c1:((!(bu b.status 0 3))||(!(jH b.bZ)))with
  |true=>
    refine⟨3,Z,⟨fun h=>absurd h zq1,fun h=>?_⟩⟩;unfold jH bu at c1;simp only[Bool.or_eq_true,Bool.not_eq_true',Bool.and_eq_false_iff,decide_eq_false_iff_not]at c1;have:=h.status;have:=h.bZ;omega
  |false=>
    unfold jH bu at c1;simp only[Bool.or_eq_false_iff,Bool.not_eq_false',Bool.and_eq_true,decide_eq_true_eq]at c1;rw[cond_false];cases c2:(((decide ((b.bZ:Int)≠0)&&decide ((b.status:Int)≠3))||(decide ((b.status:Int)=1)&&decide ((0:Int)<(b.frames.length:Int))))||(decide ((b.status:Int)≠1)&&decide (((b.frames.length:Int):Int)=0)))with
    |true=>
      refine⟨4,Z,⟨fun h=>absurd h zq1,fun h=>?_⟩⟩;simp only[Bool.or_eq_true,Bool.and_eq_true,decide_eq_true_eq]at c2;rcases c2 with(c2|c2)|c2
      · exact absurd (h.stay c2.2) c2.1
      · have:=h.ended.1 c2.1;rw[this]at c2;simp at c2
      · exact absurd (h.ended.2<|List.eq_nil_of_length_eq_zero V) c2.1
    |false=>
      simp only[Bool.or_eq_false_iff,Bool.and_eq_false_iff,decide_eq_false_iff_not]at c2;rw[cond_false];by_cases e:b.frames.length<=10
      · rw[dF V,cond_false,cells_eq];by_cases c:lS b.cells=0
        · rw[dF V,cond_false];obtain⟨y,f,g⟩:=Xj a b b.frames 1;refine⟨y,f,g.trans ⟨fun h=>⟨by omega,by omega,fun d=>by omega,⟨fun d=>?_,fun d=>?_⟩,e,(all_ok _).1 c,h⟩,fun h=>h.frames⟩⟩
          · exact List.eq_nil_of_length_eq_zero V
          · rw[d]at c2;simp at c2;omega
        · rw[dT c,cond_true];exact⟨_,Z,⟨fun h=>absurd h c,fun h=>absurd ((all_ok _).2 h.cells) c⟩⟩
      · rw[dT V,cond_true];exact⟨2,Z,⟨fun h=>absurd h zq1,fun h=>absurd h.many e⟩⟩
def ckS(a:List dn)(s:LX.State):Int:=(FP a s).getD 0
theorem ckS_eq(a:List dn)(s:LX.State):FP a s=some (ckS a s):=by obtain⟨y,h,-⟩:=Xk a s;unfold ckS;rw[h];rfl
theorem ckS_ok{a:List dn}{s:LX.State}:ckS a s=0↔StOk a s:=by obtain⟨y,h,b⟩:=Xk a s;unfold ckS;rw[h];exact b
theorem vm_Check_eq(a:List dn)(s:LX.State):D6 a s=some (if chk a≠0 then chk a else ckS a s):=by
  unfold D6;rw[chk_eq,bnd];by_cases h:chk a=0
  · rw[dF V,cond_false,ckS_eq,bnd,if_neg V]
  · rw[dT h,cond_true,if_pos h]
theorem eqVals(a b:List Val):oq a b=some (decide (a=b)):=by
  unfold oq;by_cases h:a.length=b.length
  · rw[dF V];simp only[cond_false,Int.toNat_natCast];rw[Rj (fun x y=>decide (x=y)) a b h rfl (fun i x y j c g=>by
      unfold wT;rw[nM,nM,c,g];obtain⟨k,n⟩:=x;obtain⟨k2,f⟩:=y;by_cases e:k=k2<;>by_cases d:n=f<;>simp[e,d]),Jz (fun _ _=>rfl)]
  · rw[dT V];have:a≠b:=fun e=>h (by rw[e]);rw[dF this];rfl
theorem eqCells(a b:List (List Val)):M0 a b=some (decide (a=b)):=by
  unfold M0;by_cases h:a.length=b.length
  · rw[dF V,cond_false,NT (fun x y=>decide (x=y)) a b h rfl (fun i x y d c=>by
      unfold J9;rw[nM,c,bnd,eqVals,bnd];by_cases e:x=y<;>simp[e]),Jz (fun _ _=>rfl)]
  · rw[dT V];have:a≠b:=fun e=>h (by rw[e]);rw[dF this];rfl
theorem fr_eq(x y:LX.Frame)(b:Unit->Option Bool):(bif ((decide ((x.proc:Int)=y.proc)&&decide ((x.at_:Int)=y.at_))&&decide ((x.iX:Int)=y.iX))then(oq x.regs y.regs).bind fun a=>Ao b (!a)else Ao b true)=bif decide (x=y)then b ()else some false:=by
 obtain⟨p,t,r,o⟩:=x;obtain⟨i,f,e,o2⟩:=y;simp only[eqVals,bnd,Ao];by_cases g:p=i<;>by_cases h:t=f<;>by_cases d:r=e<;>by_cases c:o=o2<;>simp[g,h,d,c]
theorem st_eq(a b:LX.State):decide (a=b)=((decide (a.status=b.status)&&decide (a.bZ=b.bZ))&&(decide (a.cells=b.cells)&&decide (a.frames=b.frames))):=by
 obtain⟨f,c,s,w⟩:=a;obtain⟨e,c2,d,g⟩:=b;rw[Bool.eq_iff_iff];simp;constructor<;>(intro h;simp[h])
theorem eqState(a b:LX.State):Qv a b=some (decide (a=b)):=by
  rw[st_eq];unfold Qv;cases (decide ((a.status:Int)=b.status)&&decide ((a.bZ:Int)=b.bZ))with
  |false=>rfl
  |true=>
    rw[cond_true,eqCells,bnd];cases decide (a.cells=b.cells)with
    |false=>rfl
    |true=>
      rw[cond_true];by_cases h:a.frames.length=b.frames.length
      · rw[dF V,cond_false,NT (fun x y=>decide (x=y)) a.frames b.frames h rfl (fun i x y c d=>by
          unfold Ls;rw[nM,d,bnd];exact fr_eq x y c),Jz (fun _ _=>rfl)];rfl
      · rw[dT V];have:a.frames≠b.frames:=fun e=>h (by rw[e]);rw[dF this];rfl
structure Small(s:LX.State):Prop where
 frames:s.frames.length<=10
 regs:∀f∈s.frames,f.regs.length<=40
 cells:s.cells.length<=24
 fields:∀c∈s.cells,c.length<=4
theorem EX{a:List dn}{n:Nat}:∀{l:List LX.Frame} {t:Int},zq a n t l->∀f∈l,∃x,FrOk a n f x
  |[],_,_,f,hf=>by cases hf
  |g::l,t,h,f,hf=>by
    rcases List.mem_cons.1 hf with rfl|hf
    · exact h.1
    · exact EX h.2.2 f hf
theorem PD.mem{a:List dn}(h:PD a){k:Int}{x:dn}(c:idx a k=some x):x∈a/\(0<=x.params/\x.params<=3)/\(1<=x.regs/\x.params<=x.regs/\x.regs<=40)/\yL x:=by
 have b:=(aF c).2;have:=h.head _ x b;exact⟨List.mem_of_getElem? b,this.1,this.2.1,this.2.2.2⟩
theorem StOk.small{a:List dn}{s:LX.State}(h:StOk a s)(ha:PD a):Small s where
 frames:=h.many
 regs f hf:=by
  obtain⟨x,g⟩:=EX h.frames f hf;have:=(ha.mem g.proc).2.2.1;have:=g.regs;omega
 cells:=h.cells.1
 fields c hc:=(h.cells.2 c hc).1.2
theorem QY{α:Type}{b:Nat}{a:List α}(h:a.length<=400)(c:b<=48):clone b a=some a:=by
 have:a.length*b<=400*48:=Nat.mul_le_mul h c;unfold clone;exact mG ⟨by simp;omega,by simp;omega⟩
theorem Fp{ρ:Type}{body:Int->Unit->(Unit->ρ)->ρ}{k:Unit->ρ}:∀(m:Nat) (i:Nat),(∀j:Nat,i<=j->j<i+m->∀a,body (j:Int) () a=a ())->upto body k (i:Int) m ()=k ()
 |0,i,_=>rfl
 |m+1,i,h=>by
  rw[Zk,h i (Nat.le_refl _) V,show((i:Int)+1)=((i+1:Nat):Int) by omega];exact Fp m (i+1) fun j c b=>h j V V
theorem cellCopy_eq{l:List (List Val)}(h:l.length<=24)(a:∀c∈l,c.length<=4):MW l=some l:=by
 unfold MW;rw[QY V zq1,bnd,Int.toNat_natCast];exact Fp (k:=J4 l) l.length 0 (fun j b e d=>by
  unfold J3;rw[Cu V,bnd,QY (by have:=a _ (List.getElem_mem (by omega:j<l.length));omega) zq1,bnd])
theorem copy_eq{s:LX.State}(h:Small s):J5 s=some s:=by
 unfold J5;rw[QY (by have:=h.frames;omega) zq1,bnd,cellCopy_eq h.cells h.fields,bnd];unfold Ou;rw[Int.toNat_natCast];exact Fp (k:=Ot s s.cells) s.frames.length 0 (fun j a c b=>by
  unfold Oq;rw[Cu V,bnd,QY (by have:=h.regs _ (List.getElem_mem (by omega:j<s.frames.length));omega) zq1,bnd])
theorem room_le{α:Type}{a:Nat}{l m:List α}(h:l.length+m.length<=100000)(b:a<=48):Room a l m:=by
 have:(l.length+m.length)*a<=100000*48:=Nat.mul_le_mul h b;exact⟨by omega,by omega⟩
def Yc(l:List Int)(v:Val):List Int:=if v.kind=2/\v.n∉l then l++[v.n]else l
def Xl(l:List Int)(vs:List Val):List Int:=vs.foldl Yc l
def cellAt(cells:List (List Val))(k:Int):List Val:=(idx cells k).getD []
def bfs(cells:List (List Val)):Nat->Nat->List Int->List Int
 |0,_,l=>l
 |m+1,k,l=>if h:k<l.length then bfs cells m (k+1) (Xl l (cellAt cells l[k]))else l
def PE(cells:List (List Val))(vs:List Val):List Int:=bfs cells 25 0 (Xl [] vs)
theorem Zm(l:List Int)(v:Val)(vs:List Val):Xl l (v::vs)=Xl (Yc l v) vs:=rfl
theorem metV_pre(l:List Int)(v:Val):l<+:Yc l v:=by
  unfold Yc;split
  · exact List.prefix_append _ _
  · exact List.prefix_refl _
theorem Mv:∀(vs:List Val) (l:List Int),l<+:Xl l vs
 |[],l=>List.prefix_refl _
 |v::vs,l=>(metV_pre l v).trans (Mv vs _)
theorem bfs_pre(cells:List (List Val)):∀(m k:Nat) (l:List Int),l<+:bfs cells m k l
  |0,_,l=>List.prefix_refl _
  |m+1,k,l=>by
    unfold bfs;split
    · exact(Mv _ _).trans<|bfs_pre cells m _ _
    · exact List.prefix_refl _
theorem Zn:∀(n:Nat) (l:List Int),l.Nodup->(∀x∈l,0<=x/\x<n)->l.length<=n
  |0,l,_,h=>by
    cases l with
    |nil=>simp
    |cons x l=>have:=h x zq3;omega
  |n+1,l,hn,h=>by
    have c:=Zn n (l.erase (n:Int)) (hn.erase _) (fun x b=>by
      have a:=(hn.mem_erase_iff).1 b;have:=h x a.2;have d:=a.1;constructor
      · omega
      · push_cast at this;omega)
    have e:l.length<=(l.erase (n:Int)).length+1:=by rw[List.length_erase];split<;>omega
    omega
def w9(n:Nat)(l:List Int):Prop:=l.Nodup/\∀x∈l,0<=x/\x<n
theorem w9.len{n:Nat}{l:List Int}(h:w9 n l):l.length<=n:=Zn n l h.1 h.2
theorem w9.nil{n:Nat}:w9 n []:=⟨List.nodup_nil,fun x a=>by cases a⟩
theorem wZ.ref{n:Nat}{v:Val}(h:wZ n v)(a:v.kind=2):0<=v.n/\v.n<n:=by unfold wZ at h;omega
theorem w9.v{n:Nat}{l:List Int}(h:w9 n l){v:Val}(i:wZ n v):w9 n (Yc l v):=by
  unfold Yc;split
  · rename_i d;refine⟨List.nodup_append.2 ⟨h.1,by simp,fun a g b f=>?_⟩,fun x c=>?_⟩
    · simp at f;subst f;intro e;subst e;exact d.2 g
    · rcases List.mem_append.1 c with c|c
      · exact h.2 x c
      · simp at c;subst c;exact i.ref d.1
  · exact h
theorem w9.l{n:Nat}:∀{vs:List Val} {l:List Int},w9 n l->(∀v∈vs,wZ n v)->w9 n (Xl l vs)
 |[],l,h,_=>h
 |v::vs,l,h,hv=>w9.l (vs:=vs) (l:=Yc l v) (h.v (hv v zq3)) (fun w a=>hv w (List.mem_cons_of_mem _ a))
theorem PG{cells:List (List Val)}{k:Int}(h:0<=k/\k<cells.length):idx cells k=some (cellAt cells k)/\cellAt cells k∈cells:=by
 obtain⟨n,rfl⟩:=Int.eq_ofNat_of_zero_le h.1;unfold cellAt;rw[Cu V];exact⟨Z,List.getElem_mem _⟩
theorem zM.at{cells:List (List Val)}(h:zM cells){k:Int}(a:0<=k/\k<cells.length):(1<=(cellAt cells k).length/\(cellAt cells k).length<=4)/\∀v∈cellAt cells k,wZ cells.length v:=h.2 _ (PG a).2
theorem w9.bfs{cells:List (List Val)}(a:zM cells):∀{m k:Nat} {l:List Int},w9 cells.length l->w9 cells.length (bfs cells m k l)
  |0,_,l,h=>h
  |m+1,k,l,h=>by
    unfold Proofs.YtodkbibbgakkdaaGreatDoor.bfs;split
    · rename_i b;exact w9.bfs a<|h.l (a.at<|h.2 _<|List.getElem_mem b).2
    · exact h
def yo(vs:List Val)(l:List Int):Prop:=∀v∈vs,v.kind=2->v.n∈l
theorem yo.pre{vs:List Val}{l m:List Int}(h:yo vs l)(hp:l<+:m):yo vs m:=fun v b a=>hp.subset (h v b a)
theorem metV_in(l:List Int)(v:Val)(a:v.kind=2):v.n∈Yc l v:=by
  unfold Yc;split
  · simp
  · rename_i b;exact Decidable.not_not.1 fun h=>b ⟨a,h⟩
theorem metL_in:∀(vs:List Val) (l:List Int),yo vs (Xl l vs)
  |[],l,v,hv,_=>by cases hv
  |w::vs,l,v,hv,hk=>by
    rw[Zm];rcases List.mem_cons.1 hv with rfl|hv
    · exact(Mv vs _).subset<|metV_in l v hk
    · exact metL_in vs _ v hv hk
theorem bfs_in{cells:List (List Val)}(d:zM cells):∀{m k:Nat} {l:List Int},w9 cells.length l->cells.length<k+m->(∀j (b:j<l.length),j<k->yo (cellAt cells l[j]) l)->∀x∈bfs cells m k l,yo (cellAt cells x) (bfs cells m k l)
  |0,k,l,h,hm,b,x,hx=>by
    have:=h.len;obtain⟨j,a,rfl⟩:=List.getElem_of_mem hx;exact b j a (by have f:j<l.length:=a;omega)
  |m+1,k,l,h,hm,b,x,hx=>by
    unfold Proofs.YtodkbibbgakkdaaGreatDoor.bfs at hx⊢;split at hx
    · rename_i c;rw[dif_pos c];have g:=(d.at<|h.2 _<|List.getElem_mem c).2;have hp:=Mv (cellAt cells l[k]) l;refine bfs_in d (h.l g) V (fun j a o=>?_) x hx;by_cases e:j<l.length
      · have i:(Xl l<|cellAt cells l[k])[j]=l[j]:=(hp.getElem e).symm;rw[i];by_cases n:j<k
        · exact(b j e n).pre hp
        · have:j=k:=by omega
          subst this;exact metL_in _ _
      · omega
    · rename_i c;rw[dif_neg c];obtain⟨j,a,rfl⟩:=List.getElem_of_mem hx;exact b j a V
theorem reach_ok{cells:List (List Val)}(a:zM cells){vs:List Val}(c:∀v∈vs,wZ cells.length v):w9 cells.length (PE cells vs)/\yo vs (PE cells vs)/\∀x∈PE cells vs,yo (cellAt cells x) (PE cells vs):=by
 have b:w9 cells.length (Xl [] vs):=w9.nil.l c;refine⟨w9.bfs a b,(metL_in vs []).pre (bfs_pre _ _ _ _),bfs_in a b (by have:=a.1;omega) (fun j e d=>absurd d (Nat.not_lt_zero _))⟩
theorem lk_lput{α:Type}(k a:Int)(v:α):∀l:List (Int×α),lk k (JE a v l)=if k=a then some v else lk k l
  |[]=>by unfold JE lk;by_cases h:k=a<;>simp[h,lk]
  |p::l=>by
    unfold JE;by_cases h:a=p.1
    · rw[if_pos h];show(if k=p.1 then some v else lk k l)=if k=a then some v else(if k=p.1 then some p.2 else lk k l)
      by_cases e:k=p.1
      · rw[if_pos e,if_pos V]
      · rw[if_neg e,if_neg V,if_neg e]
    · rw[if_neg h];show(if k=p.1 then some p.2 else lk k (JE a v l))=if k=a then some v else(if k=p.1 then some p.2 else lk k l)
      by_cases e:k=p.1
      · rw[if_pos e,if_pos e,if_neg V]
      · rw[if_neg e,if_neg e,lk_lput k a v l]
def Seen(l:List Int)(m:List (Int×Bool)):Prop:=∀k,(lk k m).getD false=decide (k∈l)
theorem Seen.nil:Seen [] []:=fun k=>rfl
theorem Seen.put{l:List Int}{m:List (Int×Bool)}(h:Seen l m)(n:Int):Seen (l++[n]) (JE n true m):=by
  intro k;rw[lk_lput];by_cases e:k=n
  · simp[e]
  · rw[if_neg e,h k,Bool.eq_iff_iff];simp[e]
theorem QZ{ρ:Type}{body:Val->List Int×List (Int×Bool)->(List Int×List (Int×Bool)->Option ρ)->Option ρ}{K:List Int×List (Int×Bool)->Option ρ}
    (b:∀x l m c,l.length<=1000->body x (l,m) c=bif (decide (x.kind=2)&&(!((lk x.n m).getD false)))then c (l++[x.n],JE x.n true m)else c (l,m)):
    ∀(vs:List Val) (l:List Int) (m:List (Int×Bool)),Seen l m->l.length+vs.length<=1000->∃d,Seen (Xl l vs) d/\each body K vs (l,m)=K (Xl l vs,d)
  |[],l,m,h,_=>⟨m,h,rfl⟩
  |v::vs,l,m,h,hl=>by
    simp only[List.length_cons]at hl;rw[iM,b v l m _ V,h v.n,Zm];unfold Yc;by_cases a:v.kind=2/\v.n∉l
    · rw[if_pos a,dT a.1,dF a.2,Bool.true_and,Bool.not_false,cond_true];exact QZ b vs _ _ (h.put v.n) (by simp;omega)
    · rw[if_neg a,show(decide (v.kind=2)&& !decide (v.n∈l))=false by rw[Bool.and_eq_false_iff];simp;simp only[not_and,Decidable.not_not]at a;by_cases e:v.kind=2<;>simp[e,a],cond_false];exact QZ b vs _ _ h V
theorem bfs_loop{cells:List (List Val)}(e:zM cells):∀(m N k:Nat) (l:List Int) (s:List (Int×Bool)),w9 cells.length l->Seen l s->cells.length<k+m->m<N->k<=l.length->again (qX cells) N ((k:Int),l,s)=some (bfs cells m k l,0)
  |m,0,k,l,s,h,hs,hm,hN,hk=>by omega
  |0,N+1,k,l,s,h,hs,hm,hN,hk=>by have:=h.len;omega
  |m+1,N+1,k,l,s,h,hs,hm,hN,hk=>by
    rw[Kk];unfold qX Proofs.YtodkbibbgakkdaaGreatDoor.bfs;simp only;have o:=h.len;have hn:=e.1;by_cases a:k<l.length
    · rw[dT V,cond_true,Cu a,bnd,dif_pos a];have g:=h.2 _<|List.getElem_mem a;have i:=e.at g;rw[(PG g).1,bnd];have q:(fun(s:Int×List Int×List (Int×Bool))(c:Int×List Int×List (Int×Bool)->Option (List Int×Int))=>match s with|(b,MR,E9)=>bif decide ((b:Int)<(MR.length:Int))then(idx MR b).bind fun f=>(idx cells f).bind fun d=>each xU (xV b c) d (MR,E9)else some (MR,0))=qX cells:=rfl;rw[q];obtain⟨r,p,j⟩:=QZ (body:=xU) (K:=xV (k:Int) (again (qX cells) N)) (fun x l m t o=>by
        unfold xU;simp only[BH];cases (decide (x.kind=2)&&(!((lk x.n m).getD false)))with
        |false=>rfl
        |true=>rw[cond_true,cond_true,mG (room_le (by simp;omega) zq1)]) (cellAt cells l[k]) l s hs (by have:=i.1.2;omega)
      rw[j];unfold xV;simp only;rw[gI V V];have hp:=(Mv (cellAt cells l[k]) l).length_le;exact bfs_loop e m N (k+1) _ r (h.l i.2) p V V V
    · rw[dF V,cond_false,dif_neg a]
theorem reach_eq{N:Nat}(hN:100<=N){cells:List (List Val)}(b:zM cells){vs:List Val}(a:∀v∈vs,wZ cells.length v)(d:vs.length<=400):J2 N cells vs=some (PE cells vs,0):=by
 unfold J2;rw[(all_ok cells).2 b,dF zq3,cond_false,dF V,cond_false];have k1:∀l:List Val,(∀v∈l,wZ cells.length v)->each (BJ cells) (xW N cells vs) l ()=xW N cells vs ():=by
  intro l;induction l with
  |nil=>intro _;rfl
  |cons x l ih=>
   intro h;rw[iM];unfold BJ;rw[(wB _ _).2 (h x zq3),dF zq3,cond_false];exact ih fun v a=>h v<|List.mem_cons_of_mem _ a
 rw[k1 vs a];unfold xW;obtain⟨f,e,c⟩:=QZ (body:=BI) (K:=FQ N cells) (fun x l m g d=>by
  unfold BI;simp only[BG];cases (decide (x.kind=2)&&(!((lk x.n m).getD false)))with
  |false=>rfl
  |true=>rw[cond_true,cond_true,mG (room_le (by simp;omega) zq1)]) vs [] [] Seen.nil (by simp;omega)
 rw[c];exact bfs_loop b 25 N 0 _ f (w9.nil.l a) e (by have:=b.1;omega) V V
def ren(l:List Int)(v:Val):Val:=if v.kind=2 then⟨v.kind,(l.idxOf v.n:Nat)⟩else v
def renF(l:List Int)(f:LX.Frame):LX.Frame:={f with regs:=f.regs.map (ren l)}
def roots(a:List LX.Frame):List Val:=a.flatMap (·.regs)
def H6(s:LX.State):List Int:=PE s.cells (roots s.frames)
def Gm(s:LX.State):LX.State:=⟨s.frames.map (renF (H6 s)),(H6 s).map (fun k=>(cellAt s.cells k).map (ren (H6 s))),s.status,s.bZ⟩
structure SwOk(s:LX.State):Prop where
 small:Small s
 cells:zM s.cells
 vals:∀f∈s.frames,∀v∈f.regs,wZ s.cells.length v
theorem StOk.sw{a:List dn}{s:LX.State}(h:StOk a s)(ha:PD a):SwOk s where
 small:=h.small ha
 cells:=h.cells
 vals f hf:=by obtain⟨x,g⟩:=EX h.frames f hf;exact g.vals
theorem SwOk.roots{s:LX.State}(h:SwOk s):∀v∈roots s.frames,wZ s.cells.length v:=by
 intro v a;unfold YtodkbibbgakkdaaGreatDoor.roots at a;obtain⟨f,b,a⟩:=List.mem_flatMap.1 a;exact h.vals f b v a
theorem roots_len(a:List LX.Frame)(h:∀f∈a,f.regs.length<=40):(roots a).length<=40*a.length:=by
 induction a with
 |nil=>simp[roots]
 |cons f l ih=>
  have:=h f zq3;have:=ih fun g b=>h g<|List.mem_cons_of_mem _ b;unfold roots at*;rw[List.flatMap_cons,List.length_append,List.length_cons];omega
theorem SwOk.rlen{s:LX.State}(h:SwOk s):(YtodkbibbgakkdaaGreatDoor.roots s.frames).length<=400:=by
 have:=roots_len s.frames h.small.regs;have:=h.small.frames;omega
theorem SwOk.reach{s:LX.State}(h:SwOk s):w9 s.cells.length (H6 s)/\yo (YtodkbibbgakkdaaGreatDoor.roots s.frames) (H6 s)/\∀x∈H6 s,yo (cellAt s.cells x) (H6 s):=reach_ok h.cells h.roots
theorem map_loop{α ρ:Type}{body:Int->List α->(List α->Option ρ)->Option ρ}{K:List α->Option ρ}{g:α->α}{P:α->Prop}
  (e:∀(i:Nat) (x:List α) a nx,x[i]? =some a->P a->body (i:Int) x nx=nx (x.set i (g a))):
  ∀(d c:List α),(∀a∈d,P a)->upto body K (c.length:Int) d.length (c++d)=K (c++d.map g)
 |[],c,_=>by simp[upto]
 |a::d,c,h=>by
  rw[List.length_cons,Zk,e c.length (c++a::d) a _ zq3 (h a zq3)];have:=map_loop (K:=K) e d (c++[g a]) fun b e=>h b<|List.mem_cons_of_mem _ e;rw[show(c++a::d).set c.length (g a)=(c++[g a])++d by simp,show((c.length:Int)+1)=((c++[g a]).length:Nat) by simp,this];simp
theorem TH{α ρ:Type}{body:Int->List α->(List α->Option ρ)->Option ρ}{K:List α->Option ρ}{g:α->α}{P:α->Prop}
  (b:∀(i:Nat) (x:List α) a nx,x[i]? =some a->P a->body (i:Int) x nx=nx (x.set i (g a))) (l:List α) (hp:∀a∈l,P a):upto body K 0 l.length l=K (l.map g):=by
 have:=map_loop (K:=K) b l [] hp;simpa using this
def Xm(l:List Int)(m:List (Int×Int)):Prop:=∀k,lk k m=if k∈l then some ((l.idxOf k:Nat):Int)else none
theorem turn_eq{l:List Int}{m:List (Int×Int)}(h:Xm l m)(vs:List Val)(d:yo vs l):VM vs m=some (vs.map (ren l)):=by
  unfold VM;rw[Int.toNat_natCast];refine TH (P:=fun v=>v.kind=2->v.n∈l) (fun i x a g c hp=>?_) vs fun v f=>d v f;unfold RU MZ;rw[nM,c,bnd];by_cases b:a.kind=2
  · rw[dT b,cond_true,h a.n,if_pos (hp b)];simp[ren,b]
  · rw[dF b,cond_false];have:x.set i a=x:=by
      obtain⟨e,rfl⟩:=List.getElem?_eq_some_iff.1 c;exact List.set_getElem_self e
    simp[ren,b,this]
theorem Xn{s:LX.State}(j:zM s.cells){K:List (List Val)×List Int×List (Int×Int)->Option LX.State}:∀(b a:List Int) (m:List (Int×Int)),w9 s.cells.length (a++b)->Xm a m->
    ∃f,Xm (a++b) f/\iQ (yG s) K (a.length:Int) b (a.map (cellAt s.cells),a,m)=K ((a++b).map (cellAt s.cells),a++b,f)
  |[],a,m,_,h=>⟨m,by simpa using h,by simp[iQ]⟩
  |k::b,a,m,hm,h=>by
    have i:a++k::b=(a++[k])++b:=by simp
    have g:k∉a:=by
      intro g;exact(List.nodup_append.1 hm.1).2.2 k g k zq3 Z
    have o:=hm.len;have hn:=j.1;simp only[List.length_append,List.length_cons]at o;have n:=hm.2 k zq3;rw[Cs];obtain⟨f,p,l⟩:=Xn j (K:=K) b (a++[k]) (JE k (a.length:Int) m) (by rw[<-i];exact hm) (fun q=>by
      rw[lk_lput];by_cases e:q=k
      · subst e;rw[if_pos rfl,if_pos zq3,List.idxOf_append,if_neg g];simp
      · rw[if_neg e,h q];by_cases c:q∈a
        · rw[if_pos c,if_pos (by simp[c]),List.idxOf_append,if_pos c]
        · rw[if_neg c,if_neg (by simp[c,e])])
    refine⟨f,by rw[i];exact p,?_⟩;have d:(((a++[k]).length:Nat):Int)=(a.length:Int)+1:=by simp
    rw[d]at l;rw[i,<-l];generalize iQ (yG s) K ((a.length:Int)+1) b=K1;unfold yG;simp only;rw[(PG n).1,bnd,mG g,mG (room_le (by simp;omega) zq1),List.map_append];rfl
theorem frames_sweep{l:List Int}{m:List (Int×Int)}(h:Xm l m)(K:List LX.Frame->Option LX.State)(b:List LX.Frame)(c:∀f∈b,yo f.regs l):upto (ES m) K 0 b.length b=K (b.map (renF l)):=
 TH (P:=fun f=>yo f.regs l) (fun i x a e d hp=>by
  unfold ES;rw[nM,d,bnd,turn_eq h a.regs hp,bnd];simp[renF]) b c
theorem cells_sweep{l:List Int}{m:List (Int×Int)}(h:Xm l m)(K:List (List Val)->Option LX.State)(cs:List (List Val))(b:∀c∈cs,yo c l):upto (GY m) K 0 cs.length cs=K (cs.map (fun c=>c.map (ren l))):=
 TH (P:=fun c=>yo c l) (fun i x a e d hp=>by
  unfold GY;rw[nM,d,bnd,turn_eq h a hp,bnd];simp) cs b
theorem Zo{K:List Val->Option LX.State}:∀(b:List LX.Frame) (a:List Val),a.length+(roots b).length<=1000->each BL K b a=K (a++roots b)
 |[],a,_=>by simp[sI,roots]
 |f::b,a,h=>by
  have e:roots (f::b)=f.regs++roots b:=rfl;rw[e,List.length_append]at h;rw[iM];have c:=Zo (K:=K) b (a++f.regs) (by simp;omega);generalize each BL K b=K1 at c⊢;unfold BL;rw[mG (room_le V zq1),c,e,List.append_assoc]
theorem roots_in{a:List LX.Frame}{l:List Int}(h:yo (roots a) l):∀f∈a,yo f.regs l:=fun f b v c d=>h v (List.mem_flatMap.2 ⟨f,b,c⟩) d
theorem sweep_eq{N:Nat}(hN:100<=N){s:LX.State}(h:SwOk s):FR N s=some (Gm s):=by
 have a:=h.reach;unfold FR;rw[Zo s.frames [] (by have:=h.rlen;simp;omega),List.nil_append];unfold J8;rw[reach_eq hN h.cells h.roots h.rlen,bnd,dF zq3,cond_false,copy_eq h.small,bnd];have e:PE s.cells (roots s.frames)=H6 s:=rfl;simp only[e];obtain⟨j,b,i⟩:=Xn h.cells (K:=BK s) (H6 s) [] [] (by simpa using a.1) (fun k=>by simp[lk]);have d:iQ (yG s) (BK s) 0 (H6 s) ([],([]:List Int),([]:List (Int×Int)))=_:=i;rw[d];simp only[List.nil_append]at b⊢;unfold BK;simp only[Int.toNat_natCast];rw[frames_sweep b _ _ (roots_in a.2.1)];unfold J7;rw[Int.toNat_natCast,cells_sweep b _ _ (fun c g=>by
  obtain⟨k,f,rfl⟩:=List.mem_map.1 g;exact a.2.2 k f)]
 unfold J6 Gm;rw[List.map_map];rfl
def regAt(r:List Val)(i:Int):Val:=(idx r i).getD ⟨0,0⟩
def opP(k:Int)(b c:Val):Option Val:=
 if k=5 then some ⟨1,if b=c then 1 else 0⟩else if b.kind≠1\/c.kind≠1 then none else if k=4 then some ⟨1,if b.n<c.n then 1 else 0⟩else
 let n:=if k=1 then b.n+c.n else if k=2 then b.n-c.n else b.n*c.n
 if-1000000000<=n/\n<=1000000000 then some ⟨1,n⟩else none
def adv(f:LX.Frame)(x:dn):LX.Frame:={f with at_:=min (f.at_+1) ((x.code.length:Int)-1)}
def newP(s:LX.State)(c:Ins):Option LX.State:=
 if s.cells.length=24 then none else some ⟨s.frames.dropLast++(s.frames.getLast?.map fun h=>{h with regs:=h.regs.set c.a.toNat ⟨2,s.cells.length⟩}).toList,s.cells++[List.replicate c.b.toNat ⟨0,0⟩],s.status,s.bZ⟩
def stepC(a:List dn)(pre:List LX.Frame)(f:LX.Frame)(cells:List (List Val))(j i:Int)(x:dn)(c:Ins):Option (LX.State×Option Int×Bool):=
  let g:=adv f x;let r:=regAt f.regs;let put:=fun(v:Val)=>(⟨pre++[{g with regs:=f.regs.set c.a.toNat v}],cells,j,i⟩:LX.State);let d:=(⟨pre++[g],cells,j,i⟩:LX.State);let e:=(⟨pre++[{g with at_:=c.b}],cells,j,i⟩:LX.State);let k:=fun(v:Val)=>v.kind≠2\/((cellAt cells v.n).length:Int)<=c.c
  if c.op=1 then some (put ⟨1,c.b⟩,none,false)else
  if c.op=2 then some (put (r c.b),none,false)else
  if c.op=3 then(opP (c.args.headD 0) (r c.b) (r c.c)).map fun v=>(put v,none,false)else
  if c.op=4 then(if k (r c.b)then none else some (put (regAt (cellAt cells (r c.b).n) c.c),none,false))else
  if c.op=6 then(if k (r c.a)then none else some (⟨pre++[g],cells.set (r c.a).n.toNat ((cellAt cells (r c.a).n).set c.c.toNat (r c.b)),j,i⟩,none,false))else
  if c.op=5 then(newP (if cells.length=24 then Gm d else d) c).map fun t=>(t,none,false)else
  if c.op=7 then(if pre.length+1=10 then none else some (⟨pre++[g]++[⟨c.b,0,c.args.map r++List.replicate (((idx a c.b).map (·.regs)).getD 0-c.args.length).toNat ⟨0,0⟩,c.a⟩],cells,j,i⟩,none,false))else
  if c.op=8 then some (match pre.getLast? with
    |none=>⟨[],cells,1,i⟩
    |some h=>⟨pre.dropLast++[{h with regs:=h.regs.set f.iX.toNat (r c.a)}],cells,j,i⟩,none,false)else
  if c.op=9 then(if(r c.a).kind=1 then some (d,some (r c.a).n,false)else none)else
  if c.op=11 then(if(r c.a).kind=1 then some (⟨pre++[g],cells,3,(r c.a).n⟩,none,true)else none)else
  if c.op=12 then some (e,none,false)else
  if c.op=13 then some (if(r c.a).kind≠2/\(r c.a).n=0 then e else d,none,false)else
  some (d,none,true)
def insOf(a:List dn)(f:LX.Frame):Option (dn×Ins):=(idx a f.proc).bind fun x=>(idx x.code f.at_).map fun c=>(x,c)
def stepP(a:List dn)(s:LX.State):Option (LX.State×Option Int×Bool):=
 s.frames.getLast?.bind fun f=>(insOf a f).bind fun q=>stepC a s.frames.dropLast f s.cells s.status s.bZ q.1 q.2
def opTop(a:List dn)(s:LX.State):Int:=((s.frames.getLast?.bind fun f=>insOf a f).map fun q=>q.2.op).getD 0
def runP(a:List dn):Nat->List Int->Nat->LX.State->LX.State×List Int×Nat
 |0,said,n,s=>(s,said,n)
 |m+1,said,n,s=>
  if s.status≠0 then(s,said,n)else
  if said.length=40/\opTop a s=9 then(s,said,n)else
  match stepP a s with
  |none=>({s with status:=2},said,n+1)
  |some (t,o,p)=>if p then(t,said++o.toList,n+1)else runP a m (said++o.toList) (n+1) t
def begin0(a:List dn):LX.State:=⟨[⟨0,0,List.replicate (((idx a 0).map (fun x:dn=>x.regs)).getD 0).toNat ⟨0,0⟩,0⟩],[],0,0⟩
theorem at_eq(k:Int){n:Int}(hn:0<n)(b:n<=1000000000):∃r,yl k n=some r/\0<=r/\r<n:=by
  unfold yl;rw[mG hn];have a:Int.tmod k n<n:=Int.tmod_lt_of_pos k hn;have c: -n<Int.tmod k n:=by
    have:=Int.tmod_lt_of_pos (-k) hn;rw[Int.neg_tmod]at this;omega
  by_cases h:Int.tmod k n<0
  · rw[dT h,cond_true,gI V V];exact⟨_,Z,by omega,by omega⟩
  · rw[dF h,cond_false];exact⟨_,Z,by omega,a⟩
def valsP(l:List Val):List Int:=l.flatMap fun v=>[v.kind,v.n]
def rowP(l:List Val):List Int:=(l.length:Int)::valsP l
def frP(f:LX.Frame):List Int:=f.proc::f.at_::f.iX::rowP f.regs
def Kw(s:LX.State):List Int:=s.status::s.bZ::(s.frames.length:Int)::(s.frames.flatMap frP++(s.cells.length:Int)::s.cells.flatMap rowP)
def Rdr(α:Type):=List Int->Option (α×List Int)
def zt{α:Type}(x:α):Rdr α:=fun l=>some (x,l)
def iK{α β:Type}(R:Rdr α)(f:α->Rdr β):Rdr β:=fun l=>(R l).bind fun q=>f q.1 q.2
def EY:Rdr Int:=fun l=>match l with
 |[]=>none
 |x::r=>some (x,r)
def zu(m:Int):Rdr Nat:=fun l=>match l with
 |[]=>none
 |x::r=>if 0<=x/\x<=m then some (x.toNat,r)else none
def lL{α:Type}(R:Rdr α):Nat->Rdr (List α)
 |0=>zt []
 |n+1=>iK R fun x=>iK (lL R n) fun l=>zt (x::l)
def UU:Rdr Val:=iK EY fun k=>iK EY fun n=>zt ⟨k,n⟩
def Nf(m:Int):Rdr (List Val):=iK (zu m) fun n=>lL UU n
def Xo:Rdr LX.Frame:=iK EY fun p=>iK EY fun a=>iK EY fun t=>iK (Nf 40) fun r=>zt ⟨p,a,r,t⟩
def Xp:Rdr LX.State:=iK EY fun s=>iK EY fun w=>iK (zu 10) fun n=>iK (lL Xo n) fun f=>iK (zu 24) fun k=>iK (lL (Nf 4) k) fun c=>zt ⟨f,c,s,w⟩
theorem Zp(l:List Val):(valsP l).length=2*l.length:=by
 induction l with
 |nil=>rfl
 |cons v l ih=>show([v.kind,v.n]++valsP l).length=_;simp[ih];omega
theorem rows_len(m:Nat):∀l:List (List Val),(∀c∈l,c.length<=m)->(l.flatMap rowP).length<=(2*m+1)*l.length
 |[],_=>by simp
 |c::l,h=>by
  have e:=h c zq3;have a:=rows_len m l fun d b=>h d<|List.mem_cons_of_mem _ b;rw[List.flatMap_cons,List.length_append];unfold rowP;rw[List.length_cons,Zp,List.length_cons,Nat.mul_succ];unfold rowP at a;omega
theorem frs_len:∀l:List LX.Frame,(∀f∈l,f.regs.length<=40)->(l.flatMap frP).length<=84*l.length
 |[],_=>by simp
 |f::l,h=>by
  have c:=h f zq3;have a:=frs_len l fun d b=>h d<|List.mem_cons_of_mem _ b;rw[List.flatMap_cons,List.length_append];unfold frP rowP;simp only[List.length_cons,Zp];unfold frP rowP at a;omega
theorem pack_len{s:LX.State}(h:Small s):(Kw s).length<=1060:=by
 have a:=rows_len 4 s.cells h.fields;have d:=frs_len s.frames h.regs;have b:=h.frames;have c:=h.cells;unfold Kw;simp only[List.length_cons,List.length_append];omega
def wake(s:LX.State):LX.State:=if s.status=3 then⟨s.frames,s.cells,0,0⟩else s
structure Rel{α:Type}(o:Option (α×List Int))(b:Bool)(x':α)(l':List Int)(b':Bool):Prop where
 stay:b=true->b'=true
 ok:b=false->match o with
  |some (x,r)=>x'=x/\l'=r/\b'=false
  |none=>b'=true
theorem Rel.pure{α:Type}(x:α)(l:List Int)(b:Bool):Rel (zt x l) b x l b:=⟨id,fun h=>⟨rfl,rfl,h⟩⟩
theorem Rel.bind{α β:Type}{R:Rdr α}{f:α->Rdr β}{l j c:List Int}{b b' a:Bool}{x':α}{i:β}(g:Rel (R l) b x' j b')(d:Rel (f x' j) b' i c a):Rel (iK R f l) b i c a:=by
 refine⟨fun h=>d.stay<|g.stay h,fun h=>?_⟩;have:=g.ok h;unfold iK;cases e:R l with
 |none=>rw[e]at this;exact d.stay this
 |some q=>
  obtain⟨x,r⟩:=q;rw[e]at this;obtain⟨rfl,rfl,k⟩:=this;exact d.ok k
theorem Ef(l:List Int)(b:Bool):∃x c b',jJ ⟨l,b⟩=some (x,⟨c,b'⟩)/\Rel (EY l) b x c b':=by
 unfold jJ;cases l with
 |nil=>exact⟨0,[],true,rfl,fun _=>rfl,fun _=>rfl⟩
 |cons x l=>
  simp only;rw[dF (by simp;omega),cond_false,show idx (x::l) 0=some x from idx0 x l,bnd,show sub? (x::l) 1 ((x::l).length:Int)=some l by
   have:=sub_s (l:=x::l) (a:=1) (b:=(x::l).length) zq3<|Nat.le_refl _;rw[List.take_length]at this;exact this,bnd]
  exact⟨x,l,b,Z,id,fun h=>⟨Z,Z,h⟩⟩
theorem Q0(m:Nat)(l:List Int)(b:Bool):∃(x:Nat) (a:List Int) (b':Bool),oo ⟨l,b⟩ m=some ((x:Int),⟨a,b'⟩)/\x<=m/\Rel (zu m l) b x a b':=by
  unfold oo;obtain⟨x,a,b',h,d⟩:=Ef l b;rw[h,bnd];simp only;by_cases f:0<=x/\x<=(m:Int)
  · rw[dF V,dF V,Bool.or_self,cond_false];refine⟨x.toNat,a,b',by rw[Int.toNat_of_nonneg f.1],by omega,d.stay,fun e=>?_⟩;have:=d.ok e;cases l with
    |nil=>exact this
    |cons y l=>
      obtain⟨rfl,rfl,c⟩:=this;rw[show zu (m:Int) (x::a)=some (x.toNat,a)from if_pos f];exact⟨Z,Z,c⟩
  · rw[show(decide (x<0)||decide ((m:Int)<x))=true by
      rw[Bool.or_eq_true,decide_eq_true_eq,decide_eq_true_eq];omega,cond_true]
    refine⟨0,a,true,Z,by omega,fun _=>rfl,fun e=>?_⟩;have:=d.ok e;cases l with
    |nil=>rfl
    |cons y l=>
      obtain⟨rfl,rfl,c⟩:=this;rw[show zu (m:Int) (x::a)=none from if_neg f]
theorem NR(n:Nat)(hn:n<=100):∀(m M i:Nat) (a:List Val) (l:List Int) (b:Bool),i+m=n->a.length=i->m<M->
    ∃vs d b',again (kz n) M (a,(i:Int),l,b)=some (a++vs,⟨d,b'⟩)/\vs.length=m/\Rel (lL UU m l) b vs d b'
  |m,0,i,a,l,b,_,_,hM=>by omega
  |0,M+1,i,a,l,b,hi,_,_=>by
    rw[Kk];unfold kz;simp only;rw[dF V,cond_false];exact⟨[],l,b,by simp,Z,Rel.pure [] l b⟩
  |m+1,M+1,i,a,l,b,hi,ha,hM=>by
    rw[Kk];have c:=NR n hn m M<|i+1;generalize again (kz n) M=K at c⊢;unfold kz;simp only;rw[dT V,cond_true];obtain⟨x,e,r,s,g⟩:=Ef l b;rw[s,bnd];simp only;obtain⟨y,j,h,t,q⟩:=Ef e r;rw[t,bnd];simp only;rw[mG (room_le (by simp;omega) zq1),gI V V];obtain⟨vs,k,o,f,p,u⟩:=c (a++[⟨x,y⟩]) j h V (by simp;omega) V;refine⟨⟨x,y⟩::vs,k,o,?_,by simp[p],?_⟩
    · rw[show((i:Int)+1)=((i+1:Nat):Int) by omega,f];simp
    · exact Rel.bind (Rel.bind g<|Rel.bind q<|Rel.pure _ _ _)<|Rel.bind u<|Rel.pure _ _ _
theorem Xq{N n:Nat}(hn:n<=100)(hN:200<=N)(l:List Int)(b:Bool):∃vs a b',qW N ⟨l,b⟩ n=some (vs,⟨a,b'⟩)/\vs.length=n/\Rel (lL UU n l) b vs a b':=by
 unfold qW;obtain⟨vs,a,b',e,d,c⟩:=NR n hn n N 0 [] l b V Z V;exact⟨vs,a,b',by simpa using e,d,c⟩
def none0:LX.State:=⟨[],[],0,0⟩
def endP(a:List dn)(s:LX.State):LX.State×Int:=
 if chk a≠0 then(none0,chk a)else if ckS a s≠0 then(none0,ckS a s)else if Gm s=s then(s,0)else(none0,4)
def fG(a:List dn)(l:List Int):LX.State×Int:=
 if 1200<l.length then(none0,2)else match Xp l with
  |some (s,[])=>endP a s
  |_=>(none0,8)
theorem un_end(a:List dn)(s:LX.State){N:Nat}(hN:100<=N):((D6 a s).bind fun b=>bif decide ((b:Int)≠0)then some (none0,b)else(FR N s).bind fun x=>(Qv x s).bind fun y=>bif (!y)then some (none0,4)else some (s,0))=some (endP a s):=by
  rw[vm_Check_eq,bnd];unfold endP;by_cases c:chk a=0
  · rw[if_neg V,if_neg V];by_cases e:ckS a s=0
    · have f:=QX c;rw[dF V,cond_false,sweep_eq hN ((ckS_ok.1 e).sw f),bnd,eqState,bnd,if_neg V];by_cases d:Gm s=s
      · rw[dT d,if_pos d];rfl
      · rw[dF d,if_neg d];rfl
    · rw[dT e,cond_true,if_pos e]
  · rw[if_pos c,dT c,cond_true,if_pos c]
theorem Zq{N:Nat}(hN:200<=N)(g:Int×mH)(a:List dn)(e:List LX.Frame)(f d:Int×mH)(n:Nat)(A:g.1=n)(hn:n<=24):
    ∀(m M i:Nat) (c:List (List Val)) (l:List Int) (b:Bool),i+m=n->c.length=i->m<M->
    ∃cs k b',again (qY N g a e f d) M ((i:Int),l,b,c)=(bif (b'||decide ((0:Int)<(k.length:Int)))then some (none0,8)else some (endP a ⟨e,c++cs,f.1,d.1⟩))/\Rel (lL (Nf 4) m l) b cs k b'
  |m,0,i,c,l,b,_,_,hM=>by omega
  |0,M+1,i,c,l,b,hi,_,_=>by
    rw[Kk];unfold qY;simp only;rw[dF V,cond_false];refine⟨[],l,b,?_,Rel.pure [] l b⟩;rw[List.append_nil,<-un_end a ⟨e,c,f.1,d.1⟩ (N:=N) V];rfl
  |m+1,M+1,i,c,l,b,hi,ha,hM=>by
    rw[Kk];have h:=Zq hN g a e f d n A hn m M<|i+1;generalize again (qY N g a e f d) M=K at h⊢;unfold qY;simp only;rw[dT V,cond_true];obtain⟨x,o,w,j,B,s⟩:=Q0 4 l b;rw[show((4:Nat):Int)=4 from rfl]at j;rw[j,bnd];simp only;obtain⟨vs,t,q,y,C,v⟩:=Xq (N:=N) (n:=x) V hN o w;rw[y,bnd];simp only;rw[mG (room_le (by simp;omega) zq1)];unfold FT;rw[gI V V];obtain⟨cs,u,z,p,r⟩:=h (c++[vs]) t q V (by simp;omega) V;refine⟨vs::cs,u,z,?_,?_⟩
    · rw[show((i:Int)+1)=((i+1:Nat):Int) by omega,p];simp
    · exact Rel.bind (Rel.bind s v)<|Rel.bind r<|Rel.pure _ _ _
theorem times_bind{α β:Type}{R:Rdr α}{m:Nat}{G:List α->Rdr β}{l:List Int}:iK (lL R (m+1)) G l=iK R (fun x=>iK (lL R m) fun a=>G (x::a)) l:=by
 show((iK R (fun x=>iK (lL R m) fun l=>zt<|x::l) l).bind _)=_;unfold iK;cases R l with
 |none=>rfl
 |some q=>
  rw[Option.bind_some,Option.bind_some];simp only;cases lL R m q.2 with
  |none=>rfl
  |some q2=>rfl
theorem Xr{N:Nat}(hN:200<=N)(e:Int×mH)(a:List dn)(h g:Int×mH)(n:Nat)(hy:e.1=n)(hn:n<=10):
    ∀(m M i:Nat) (d:List LX.Frame) (l:List Int) (b:Bool),i+m=n->d.length=i->m<M->
    ∃(s:LX.State) (L:List Int) (b':Bool),again (pI N e a h g) M ((i:Int),l,b,d)=(bif (b'||decide ((0:Int)<(L.length:Int)))then some (none0,8)else some (endP a s))/\
      Rel (iK (lL Xo m) (fun f=>iK (zu 24) fun k=>iK (lL (Nf 4) k) fun c=>zt (⟨d++f,c,h.1,g.1⟩:LX.State)) l) b s L b'
  |m,0,i,d,l,b,_,_,hM=>by omega
  |0,M+1,i,d,l,b,hi,_,_=>by
    rw[Kk];unfold pI;simp only;rw[dF V,cond_false];obtain⟨x,j,r,o,C,z⟩:=Q0 24 l b;rw[show((24:Nat):Int)=24 from rfl]at o;rw[o,bnd];simp only;obtain⟨cs,v,y,A,w⟩:=Zq hN ((x:Int),⟨j,r⟩) a d h g x Z C x N 0 [] j r V Z V;refine⟨⟨d++[],[]++cs,h.1,g.1⟩,v,y,?_,?_⟩
    · rw[List.append_nil];exact A
    · exact Rel.bind (Rel.pure [] l b)<|Rel.bind z<|Rel.bind w<|Rel.pure _ _ _
  |m+1,M+1,i,d,l,b,hi,ha,hM=>by
    rw[Kk];have B:=Xr hN e a h g n hy hn m M<|i+1;generalize again (pI N e a h g) M=K at B⊢;unfold pI;simp only;rw[dT V,cond_true];obtain⟨p,j,r,o,z⟩:=Ef l b;rw[o,bnd];simp only;obtain⟨q,v,y,A,w⟩:=Ef j r;rw[A,bnd];simp only;obtain⟨t,l3,X,e3,P⟩:=Ef v y;rw[e3,bnd];simp only;obtain⟨x,l4,T,J,C,R⟩:=Q0 40 l3 X;rw[show((40:Nat):Int)=40 from rfl]at J;rw[J,bnd];simp only;obtain⟨vs,E,I,e5,hv,r5⟩:=Xq (N:=N) (n:=x) V hN l4 T;rw[e5,bnd];simp only;rw[mG (room_le (by simp;omega) zq1),gI V V];obtain⟨s,S,Q,O,G⟩:=B (d++[⟨p,q,vs,t⟩]) E I V (by simp;omega) V;refine⟨s,S,Q,?_,?_⟩
    · rw[show((i:Int)+1)=((i+1:Nat):Int) by omega,O]
    · have u:Rel (Xo l) b ⟨p,q,vs,t⟩ E I:=Rel.bind z<|Rel.bind w<|Rel.bind P<|Rel.bind (Rel.bind R r5)<|Rel.pure _ _ _;simp only[List.append_assoc,List.cons_append,List.nil_append]at G;rw[times_bind];exact Rel.bind (f:=fun x=>iK (lL Xo m) fun fs=>iK (zu 24) fun k=>iK (lL (Nf 4) k) fun c=>zt (⟨d++x::fs,c,h.1,g.1⟩:LX.State)) u G
theorem end_rel{a:List dn}{l b:List Int}{b':Bool}{s:LX.State}{y:Option (LX.State×Int)}(d:¬1200<l.length)(c:Rel (Xp l) false s b b')(h:y=(bif (b'||decide ((0:Int)<(b.length:Int)))then some (none0,8)else some (endP a s))):y=some (fG a l):=by
 rw[h];unfold fG;rw[if_neg d];have:=c.ok Z;cases e:Xp l with
 |none=>rw[e]at this;simp only at this;subst this;rfl
 |some q=>
  obtain⟨f,r⟩:=q;rw[e]at this;obtain⟨rfl,rfl,rfl⟩:=this;cases b with
  |nil=>rfl
  |cons x b=>rw[Bool.false_or,dT zq3,cond_true]
theorem Mw(a:List dn)(l:List Int){N:Nat}(hN:200<=N):yf N a l=some (fG a l):=by
  unfold yf;by_cases e:1200<l.length
  · rw[dT V,cond_true];unfold fG;rw[if_pos e];rfl
  · rw[dF V,cond_false];obtain⟨j,b,h,m,q⟩:=Ef l false;rw[m,bnd];simp only;obtain⟨o,f,d,u,t⟩:=Ef b h;rw[u,bnd];simp only;obtain⟨x,g,i,c,n,p⟩:=Q0 10 f d;rw[show((10:Nat):Int)=10 from rfl]at c;rw[c,bnd];simp only;obtain⟨s,v,w,k,r⟩:=Xr hN ((x:Int),⟨g,i⟩) a (j,⟨b,h⟩) (o,⟨f,d⟩) x Z n x N 0 [] g i V Z V;exact end_rel e (Rel.bind q<|Rel.bind t<|Rel.bind p r) k
section
variable{I:List Int}(hI:I.length<=1200)
include hI
omit hI in
end
namespace Dk
open Go Go.Proofs Go.LX
theorem eqInt(a b:List Int):slices_Equal_int a b=some (decide (a=b)):=by
  unfold slices_Equal_int;by_cases h:a.length=b.length
  · rw[dF V];simp only[cond_false,Int.toNat_natCast];rw[Rj (fun x y=>decide (x=y)) a b h rfl (fun i x y f c d=>by
      unfold yX;rw[nM,nM,c,d];by_cases e:x=y<;>simp[e]),Jz (fun _ _=>rfl)]
  · rw[dT V];have:a≠b:=fun e=>h (by rw[e]);rw[dF this];rfl
theorem rec_eq(r:Rec):dV r=iy r:=by
  unfold dV iy yS sj lC eG;have e:(((!(bu r.co 0 2))||(!(bu r.aM 0 100)))||(!(bu r.place 0 2)))=(((((decide ((r.co:Int)<0)||decide ((3:Int)<=r.co))||decide ((r.aM:Int)<0))||decide ((100:Int)<r.aM))||decide ((r.place:Int)<0))||decide ((3:Int)<=r.place)):=by
    unfold bu;rw[Bool.eq_iff_iff];simp;omega
  rw[e];generalize (((((decide ((r.co:Int)<0)||decide ((3:Int)<=r.co))||decide ((r.aM:Int)<0))||decide ((100:Int)<r.aM))||decide ((r.place:Int)<0))||decide ((3:Int)<=r.place))=C1;generalize (decide ((40:Int)<(r.says.length:Int))||decide ((1200:Int)<(r.image.length:Int)))=C2;generalize decide ((r.place:Int)≠0)=p0;generalize decide ((0:Int)<(r.says.length:Int))=s1;generalize decide ((0:Int)<(r.image.length:Int))=i1;generalize decide ((r.aM:Int)=0)=e0;have d:∀l:Str,(hasB l 73=true\/hasB l 73=false):=fun l=>by cases hasB l 73<;>simp
  by_cases k1:r.kind=1
  · rw[k1,show hasB ((lk (1:Int) ([(1,[73]),(2,[83,73]),(3,[80]),(4,[73]),(5,[])]:List (Int×Str))).getD []) 80=false by decide,show hasB ((lk (1:Int) ([(1,[73]),(2,[83,73]),(3,[80]),(4,[73]),(5,[])]:List (Int×Str))).getD []) 83=false by decide,show hasB ((lk (1:Int) ([(1,[73]),(2,[83,73]),(3,[80]),(4,[73]),(5,[])]:List (Int×Str))).getD []) 73=true by decide];cases C1<;>cases C2<;>cases p0<;>cases s1<;>cases i1<;>cases e0<;>rfl
  by_cases k2:r.kind=2
  · rw[k2,show hasB ((lk (2:Int) ([(1,[73]),(2,[83,73]),(3,[80]),(4,[73]),(5,[])]:List (Int×Str))).getD []) 80=false by decide,show hasB ((lk (2:Int) ([(1,[73]),(2,[83,73]),(3,[80]),(4,[73]),(5,[])]:List (Int×Str))).getD []) 83=true by decide,show hasB ((lk (2:Int) ([(1,[73]),(2,[83,73]),(3,[80]),(4,[73]),(5,[])]:List (Int×Str))).getD []) 73=true by decide];cases C1<;>cases C2<;>cases p0<;>cases s1<;>cases i1<;>cases e0<;>rfl
  by_cases a:r.kind=3
  · rw[a,show hasB ((lk (3:Int) ([(1,[73]),(2,[83,73]),(3,[80]),(4,[73]),(5,[])]:List (Int×Str))).getD []) 80=true by decide,show hasB ((lk (3:Int) ([(1,[73]),(2,[83,73]),(3,[80]),(4,[73]),(5,[])]:List (Int×Str))).getD []) 83=false by decide,show hasB ((lk (3:Int) ([(1,[73]),(2,[83,73]),(3,[80]),(4,[73]),(5,[])]:List (Int×Str))).getD []) 73=false by decide];cases C1<;>cases C2<;>cases p0<;>cases s1<;>cases i1<;>cases e0<;>rfl
  by_cases c:r.kind=4
  · rw[c,show hasB ((lk (4:Int) ([(1,[73]),(2,[83,73]),(3,[80]),(4,[73]),(5,[])]:List (Int×Str))).getD []) 80=false by decide,show hasB ((lk (4:Int) ([(1,[73]),(2,[83,73]),(3,[80]),(4,[73]),(5,[])]:List (Int×Str))).getD []) 83=false by decide,show hasB ((lk (4:Int) ([(1,[73]),(2,[83,73]),(3,[80]),(4,[73]),(5,[])]:List (Int×Str))).getD []) 73=true by decide];cases C1<;>cases C2<;>cases p0<;>cases s1<;>cases i1<;>cases e0<;>rfl
  by_cases b:r.kind=5
  · rw[b,show hasB ((lk (5:Int) ([(1,[73]),(2,[83,73]),(3,[80]),(4,[73]),(5,[])]:List (Int×Str))).getD []) 80=false by decide,show hasB ((lk (5:Int) ([(1,[73]),(2,[83,73]),(3,[80]),(4,[73]),(5,[])]:List (Int×Str))).getD []) 83=false by decide,show hasB ((lk (5:Int) ([(1,[73]),(2,[83,73]),(3,[80]),(4,[73]),(5,[])]:List (Int×Str))).getD []) 73=false by decide];cases C1<;>cases C2<;>cases p0<;>cases s1<;>cases i1<;>cases e0<;>rfl
  rw[show lk r.kind ([(1,[73]),(2,[83,73]),(3,[80]),(4,[73]),(5,[])]:List (Int×Str))=none by simp[lk,k1,k2,a,c,b]];rw[show(decide ((r.kind:Int)<1)||decide ((5:Int)<r.kind))=true by simp;omega];rfl
structure GoodR(r:Rec):Prop where
 kind:1<=r.kind/\r.kind<=5
 co:0<=r.co/\r.co<=2
 aM:1<=r.aM/\r.aM<=100
 place:0<=r.place/\r.place<=2
 says:r.says.length<=40
 image:r.image.length<=1200
 has:(r.kind=1\/r.kind=2\/r.kind=4)->1<=r.image.length
theorem Zr(r:Rec)(h:iy r=0):GoodR r:=by
 rw[<-rec_eq]at h;unfold dV at h;have hn:0<=(r.image.length:Int):=by omega
 generalize d:(decide ((r.kind:Int)<1)||decide ((5:Int)<r.kind))=A at h;cases A with
 |true=>simp only[cond_true]at h;exact absurd h zq1
 |false=>
 simp only[cond_false]at h;generalize c:(((((decide ((r.co:Int)<0)||decide ((3:Int)<=r.co))||decide ((r.aM:Int)<0))||decide ((100:Int)<r.aM))||decide ((r.place:Int)<0))||decide ((3:Int)<=r.place))=B at h;cases B with
 |true=>simp only[cond_true]at h;exact absurd h zq1
 |false=>
 simp only[cond_false]at h;generalize e:(decide ((40:Int)<(r.says.length:Int))||decide ((1200:Int)<(r.image.length:Int)))=C at h;cases C with
 |true=>simp only[cond_true]at h;exact absurd h zq1
 |false=>
 simp only[cond_false]at h;generalize b:((((decide ((r.kind:Int)≠3)&&decide ((r.place:Int)≠0))||(decide ((r.kind:Int)≠2)&&decide ((0:Int)<(r.says.length:Int))))||(((decide ((r.kind:Int)=1)||decide ((r.kind:Int)=2))||decide ((r.kind:Int)=4)) !=decide ((0:Int)<(r.image.length:Int))))||decide ((r.aM:Int)=0))=D at h;cases D with
 |true=>simp only[cond_true]at h;exact absurd h zq1
 |false=>
 simp only[Bool.or_eq_false_iff,decide_eq_false_iff_not,bne_eq_false_iff_eq]at d c e b;obtain⟨⟨⟨_,_⟩,a⟩,g⟩:=b;refine⟨by omega,by omega,by omega,by omega,by omega,by omega,fun i=>?_⟩;have:((decide ((r.kind:Int)=1)||decide ((r.kind:Int)=2))||decide ((r.kind:Int)=4))=true:=by
  simp;omega
 rw[this]at a;have f:decide ((0:Int)<(r.image.length:Int))=true:=by
  cases hq:decide ((0:Int)<(r.image.length:Int))with
  |true=>rfl
  |false=>rw[hq]at a;cases a
 have:=Yr f;omega
def TI(r:Rec):Prop:=ko r.kind/\ko r.co/\ko r.aM/\ko r.place/\(∀x∈r.says,ko x)/\(∀x∈r.image,ko x)
def nl(r:Rec):List Int:=[r.kind,r.co,r.aM,r.place,(r.says.length:Int)]++r.says++r.image
def zR:Rec:=⟨0,0,0,0,[],[]⟩
def vQ(r:Rec):Str×Int:=if dV r=0 then(uD 32 ((nl r).map Lib.itoa),0)else([],dV r)
def Mx(l:List Int)(n:Nat):Rec:=⟨l.getD 0 0,l.getD 1 0,l.getD 2 0,l.getD 3 0,(l.take (5+n)).drop 5,l.drop (5+n)⟩
def Jn(l:List Int):Rec×Int:=
 if l.length<5 then(zR,1)else if l.getD 4 0<0\/(l.length:Int)-5<l.getD 4 0 then(zR,1)else
 if dV (Mx l (l.getD 4 0).toNat)=0 then(Mx l (l.getD 4 0).toNat,0)else(zR,dV (Mx l (l.getD 4 0).toNat))
def mD(s:Str):Rec×Int:=match TW 32 s with|none=>(zR,1)|some l=>Jn l
def Q3(s:Str):Rec×Int:=if(60000:Int)<(s.length:Int)then(zR,2)else mD s
theorem concat5:∀(l:List (List Int)) (a:List Int),a.length+(l.map List.length).sum<=1000000->each sU sV l a=some (a++l.flatten)
 |[],a,_=>by simp[sI,sV]
 |x::l,a,h=>by
  simp only[List.map_cons,List.sum_cons]at h;rw[iM,sU,mG ⟨by omega,by omega⟩,concat5 l (a++x) (by rw[List.length_append];omega)];simp
theorem concat7(a:List (List Int)):∀(l:List (List Int)) (n:Nat),n+(l.map List.length).sum<=1000000->each sW (oU a) l (n:Int)=oU a ((n+(l.map List.length).sum:Nat):Int)
 |[],n,_=>by simp[sI]
 |x::l,n,h=>by
  simp only[List.map_cons,List.sum_cons]at h⊢;rw[iM,sW,gI,dF V,cond_false,show((n:Int)+(x.length:Int))=((n+x.length:Nat):Int) by omega,concat7 a l (n+x.length) V,Nat.add_assoc]
theorem concat_eq(a:List (List Int))(h:(a.map List.length).sum<=1000000):sZ a=some a.flatten:=by
 unfold sZ;have:=concat7 a a 0 V;rw[show((0:Nat):Int)=0 from rfl]at this;rw[this];unfold oU;rw[show NB 8 ((0+(a.map List.length).sum:Nat):Int)=some ([]:List Int) by unfold NB;rw[mG ⟨by omega,by omega⟩],bnd,concat5 a [] (by simpa using h)];simp
theorem concat3(a b c:List Int)(h:a.length+b.length+c.length<=1000000):sZ [a,b,c]=some (a++b++c):=by
 rw[concat_eq _ (by simp;omega)];simp
theorem nl_len(r:Rec):(nl r).length=5+r.says.length+r.image.length:=by simp[nl];omega
theorem nl_ok{r:Rec}(g:GoodR r)(w:TI r):∀x∈nl r,ko x:=by
  obtain⟨b,h,f,c,e,d⟩:=w;have i:=g.says;intro x a;simp only[nl,List.mem_append,List.mem_cons,List.not_mem_nil,or_false]at a;rcases a with((rfl|rfl|rfl|rfl|rfl)|a)|a
  · exact b
  · exact h
  · exact f
  · exact c
  · exact ko.mk V V
  · exact e x a
  · exact d x a
theorem Xt{r:Rec}(g:GoodR r):(nl r).length<=1245:=by rw[nl_len];have:=g.says;have:=g.image;omega
theorem nl_ne(r:Rec):nl r≠[]:=by simp[nl]
theorem Xu:∀(l:List Int) (pre:List Str),(∀x∈l,ko x)->iQ wy sG (pre.length:Int) l (pre++List.replicate l.length ([]:Str))=sG (pre++l.map Lib.itoa)
 |[],pre,_=>by simp[Yg]
 |x::l,pre,h=>by
  rw[Cs,wy,U8 (h x zq3),bnd,nM];have b:(pre++List.replicate (x::l).length ([]:Str))[pre.length]? =some []:=by rw[List.getElem?_append_right (Nat.le_refl _)];simp
  rw[b,bnd,Int.toNat_natCast];have c:(pre++List.replicate (x::l).length ([]:Str)).set pre.length (Lib.itoa x)=(pre++[Lib.itoa x])++List.replicate l.length ([]:Str):=by
   rw[List.set_append_right _ _ (Nat.le_refl _)];simp[List.replicate_succ]
  have a:((pre.length:Int)+1)=((pre++[Lib.itoa x]).length:Int):=by simp
  rw[c,a,Xu l (pre++[Lib.itoa x]) (fun y d=>h y (List.mem_cons_of_mem _ d))];simp
theorem join_ok{l:List Int}(h:∀x∈l,ko x)(d:l.length<=1245):U6 (l.map Lib.itoa) [32]=some (uD 32 (l.map Lib.itoa)):=by
 have a:=Rm 32 21 (l.map Lib.itoa) (by intro x b;obtain⟨y,c,rfl⟩:=List.mem_map.1 b;exact itoa_len (h y c));rw[List.length_map]at a;exact joinS_eq 32 (by rw[List.length_map];omega) V
theorem print_eq(r:Rec)(c:dV r=0->TI r):ET r=some (vQ r):=by
  unfold ET vQ;by_cases h:dV r=0
  · have g:=Zr r (by rw[<-rec_eq];exact h);have e:=g.says;have f:=g.image;rw[dF V,cond_false,if_pos h,concat3 _ _ _ (by simp;omega),bnd];have b:=Xt g;have a:=nl_ok g<|c h;show ic _ (iQ wy sG 0 (nl r)<|List.replicate ((nl r).length:Int).toNat ([]:Str))=_;have d:(r.kind::r.co::r.aM::r.place::(r.says.length:Int)::(r.says++r.image)).length=(nl r).length:=by simp[nl]
    rw[mG (by
      refine⟨by omega,?_⟩;have:([r.kind,r.co,r.aM,r.place,(r.says.length:Int)]++r.says++r.image).length=(nl r).length:=rfl;rw[this];omega),Int.toNat_natCast]
    have:=Xu (nl r) [] a;simp only[List.length_nil,List.nil_append]at this;rw[show((0:Nat):Int)=0 from rfl]at this;rw[this];unfold sG;rw[join_ok a b,bnd]
  · rw[dT h,cond_true,if_neg h]
theorem numbers_each:∀(w:List Str) (a:List Int),(∀x∈w,x.length<=60000)->a.length+w.length<=1000000->
    each AA AB w a=some (match w.mapM numOf with|some v=>(a++v,true)|none=>([],false))
  |[],a,_,_=>by simp[sI,AB]
  |x::w,a,h,hl=>by
    have g:=h x zq3;simp only[List.length_cons]at hl;have f:=fun y=>numbers_each w (a++[y]) (fun z c=>h z (List.mem_cons_of_mem _ c)) (by simp;omega);rw[iM,AA,parseS_eq V,bnd,List.mapM_cons];cases e:Lib.atoiAll x with
    |ok v=>
      have d:ko v:=Lib.atoiAll_bounds e;simp only[cond_false];rw[U8 d,bnd,uT];by_cases b:Lib.itoa v=x
      · rw[dF (by simpa using b),cond_false,mG ⟨by simp;omega,by simp;omega⟩,f];have:numOf x=some v:=by simp[numOf,e,b]
        rw[this];cases e2:w.mapM numOf with
        |none=>rfl
        |some m=>simp
      · rw[dT b,cond_true];have:numOf x=none:=by simp[numOf,e,b]
        rw[this];rfl
    |range=>
      have:numOf x=none:=by simp[numOf,e]
      rw[this];rfl
    |_=>
      have:numOf x=none:=by simp[numOf,e]
      rw[this];rfl
theorem Xv:∀(w:List Str) (a:List Int),(∀x∈w,x.length<=60000)->a.length+w.length<=1000000->
    each yD qo w a=match w.mapM numOf with|some v=>qo (a++v)|none=>some (zR,1)
  |[],a,_,_=>by simp[sI]
  |x::w,a,h,hl=>by
    have g:=h x zq3;simp only[List.length_cons]at hl;have f:=fun y=>Xv w (a++[y]) (fun z c=>h z (List.mem_cons_of_mem _ c)) (by simp;omega);rw[iM,yD,atoiS_eq V,bnd,List.mapM_cons];cases e:Lib.atoiAll x with
    |ok v=>
      have d:ko v:=Lib.atoiAll_bounds e;simp only[cond_false];rw[U8 d,bnd,yC];by_cases b:Lib.itoa v=x
      · rw[dF (by simpa using b),cond_false,mG ⟨by simp;omega,by simp;omega⟩,f];have:numOf x=some v:=by simp[numOf,e,b]
        rw[this];cases e2:w.mapM numOf with
        |none=>rfl
        |some m=>simp
      · rw[dT b,cond_true];have:numOf x=none:=by simp[numOf,e,b]
        rw[this];rfl
    |range=>
      have:numOf x=none:=by simp[numOf,e]
      rw[this];rfl
    |_=>
      have:numOf x=none:=by simp[numOf,e]
      rw[this];rfl
theorem five{l:List Int}(h:¬l.length<5):∃a b c d n r,l=a::b::c::d::n::r:=by
 match l,h with
 |a::b::c::d::n::r,_=>exact⟨a,b,c,d,n,r,rfl⟩
 |[],h=>simp at h
 |[a],h=>simp at h
 |[a,b],h=>simp at h
 |[a,b,c],h=>simp at h
 |[a,b,c,d],h=>simp at h
theorem parse_k31(l:List Int)(j:l.length<=1000000)(hI:∀x∈l,ko x):qo l=some (Jn l):=by
  unfold qo Jn;by_cases h:l.length<5
  · rw[dT V,if_pos h];rfl
  · rw[dF V,if_neg h,cond_false];obtain⟨a,b,c,d,n,r,rfl⟩:=five h;have hn:ko n:=hI n zq3;have k:idx (a::b::c::d::n::r) 4=some n:=rfl;rw[k,bnd];have i:(a::b::c::d::n::r).getD 4 0=n:=rfl;rw[i];by_cases f:n<0
    · rw[dT f,if_pos (.inl f)];rfl
    · rw[dF f,cond_false];simp only[List.length_cons]at j⊢;rw[gI];by_cases g:((r.length+1+1+1+1+1:Nat):Int)-5<n
      · rw[dT g,if_pos (.inr g)];rfl
      · rw[dF g,if_neg V];unfold uO;obtain⟨m,rfl⟩:=Int.eq_ofNat_of_zero_le (show 0<=n by omega);rw[cond_false,show idx (a::b::c::d::(m:Int)::r) 0=some a from rfl,bnd,show idx (a::b::c::d::(m:Int)::r) 1=some b from rfl,bnd,show idx (a::b::c::d::(m:Int)::r) 2=some c from rfl,bnd,show idx (a::b::c::d::(m:Int)::r) 3=some d from rfl,bnd,show idx (a::b::c::d::(m:Int)::r) 4=some (m:Int)from rfl,bnd,gI];rw[show(5+(m:Int))=((5+m:Nat):Int) by omega,show(5:Int)=((5:Nat):Int)from rfl,sub_s V (by simp;omega),bnd,gI,sub_s (by simp;omega) (Nat.le_refl _),bnd,sK (by simp;omega) (by simp;omega),bnd,sK (by simp;omega) (by simp;omega),bnd];have o:((a::b::c::d::(m:Int)::r).take (a::b::c::d::(m:Int)::r).length).drop (5+m)=(a::b::c::d::(m:Int)::r).drop (5+m):=by rw[List.take_length]
        rw[o];unfold Cz;show(bif decide ((dV (Mx (a::b::c::d::(m:Int)::r) m):Int)≠0)then some (zR,dV<|Mx (a::b::c::d::(m:Int)::r) m)else some (Mx (a::b::c::d::(m:Int)::r) m,0))=_;rw[Int.toNat_natCast];by_cases e:dV (Mx (a::b::c::d::(m:Int)::r) m)=0
        · rw[dF V,if_pos e];rfl
        · rw[dT e,if_neg e];rfl
theorem parse_eq(s:Str):EO s=some (Q3 s):=by
  unfold EO Q3;by_cases h:(60000:Int)<(s.length:Int)
  · rw[dT h,if_pos h];rfl
  · rw[dF h,if_neg h,cond_false];have d:=JA 32 s;rw[splitS_eq 32 V,bnd,Xv _ [] (fun x b=>by have:=Cv 32 s x b;omega) (by simp;omega)];unfold mD;cases e:TW 32 s with
    |none=>unfold TW at e;rw[e]
    |some l=>
      have:=G9 (show(jr 32 s).mapM numOf=some l from e);unfold TW at e;rw[e];have a:l.length<=1000000:=by
        have c:=congrArg List.length this.1;rw[List.length_map]at c;omega
      simp only[List.nil_append];exact parse_k31 l a this.2
theorem mkRec_nl(r:Rec):Mx (nl r) r.says.length=r:=by
 obtain⟨k,c,e,p,s,i⟩:=r;unfold Mx nl;have a:((([k,c,e,p,(s.length:Int)]++s++i).take (5+s.length)).drop 5)=s:=by
  rw[List.append_assoc,show 5+s.length=([k,c,e,p,(s.length:Int)]).length+s.length from rfl,List.take_length_add_append,List.take_left];rfl
 have b:([k,c,e,p,(s.length:Int)]++s++i).drop (5+s.length)=i:=by
  rw[show 5+s.length=([k,c,e,p,(s.length:Int)]++s).length by simp;omega,List.drop_left]
 simp only[a,b];rfl
theorem fromNums_nl{r:Rec}(h:dV r=0):Jn (nl r)=(r,0):=by
 have a:=nl_len r;unfold Jn;rw[if_neg V,show(nl r).getD 4 0=(r.says.length:Int)from rfl,if_neg V,Int.toNat_natCast,mkRec_nl,if_pos h]
theorem Xw{r:Rec}(h:dV r=0)(w:TI r):mD (uD 32 ((nl r).map Lib.itoa))=(r,0):=by
 unfold mD;rw[nums_join zq1 (nl_ne r) (nl_ok (Zr r (by rw[<-rec_eq];exact h)) w)];exact fromNums_nl h
theorem nl_mk{l:List Int}{n:Nat}(e:5+n<=l.length)(g:l.getD 4 0=n):nl (Mx l n)=l:=by
 obtain⟨a,b,c,d,m,r,rfl⟩:=five (l:=l) V;have h:m=n:=g;subst h;simp only[List.length_cons]at e;have f:((a::b::c::d::(n:Int)::r).take (5+n)).drop 5=r.take n:=by
  rw[show 5+n=n+1+1+1+1+1 by omega];rfl
 have i:(a::b::c::d::(n:Int)::r).drop (5+n)=r.drop n:=by
  rw[show 5+n=n+1+1+1+1+1 by omega];rfl
 show [a,b,c,d,((((a::b::c::d::(n:Int)::r).take (5+n)).drop 5).length:Int)]++((a::b::c::d::(n:Int)::r).take (5+n)).drop 5++(a::b::c::d::(n:Int)::r).drop (5+n)=_;rw[f,i,List.length_take,show min n r.length=n by omega,List.append_assoc,List.take_append_drop];rfl
theorem read_ok{s:Str}{r:Rec}(h:mD s=(r,0)):dV r=0/\TI r/\s=uD 32 ((nl r).map Lib.itoa):=by
  unfold mD at h;cases e:TW 32 s with
  |none=>rw[e]at h;cases h
  |some l=>
    rw[e]at h;obtain⟨i,j,o⟩:=join_nums e;simp only at h;unfold Jn at h;split at h
    · cases h
    · rename_i p;split at h
      · cases h
      · rename_i k;split at h
        · rename_i c;obtain⟨m,f⟩:=Int.eq_ofNat_of_zero_le (show 0<=l.getD 4 0 by omega);rw[f]at h c k;simp only[Int.toNat_natCast]at h c;have g:Mx l m=r:=by injection h
          have b:=nl_mk (l:=l) (n:=m) V f;rw[g]at b c;refine⟨c,?_,by rw[b];exact i⟩;have a:∀x∈nl r,ko x:=by rw[b];exact j
          refine⟨a _ (by simp[nl]),a _ (by simp[nl]),a _ (by simp[nl]),a _ (by simp[nl]),fun x d=>a x (by simp[nl,d]),fun x d=>a x (by simp[nl,d])⟩
        · rename_i c;exact absurd (congrArg Prod.snd h) c
theorem text_ok{r:Rec}(h:dV r=0):vQ r=(uD 32 ((nl r).map Lib.itoa),0):=by unfold vQ;rw[if_pos h]
def r0:Rec:=⟨2,1,2,0,[7,-8],[1]⟩
def Q4(most:Int):List Str->List Rec->Int->List Rec×Int×Int
 |[],l,n=>(l,n,0)
 |[x],l,n=>if x=[]then(l,n,0)else(l,n,8)
 |x::y::r,l,n=>if(mD x).2≠0 then(l,n,(mD x).2)else if most<=(l.length:Int)then(l,n,2)else Q4 most (y::r) (l++[(mD x).1]) (n+(x.length:Int)+1)
def ln(most:Int)(s:Str):List Rec×Int×Int:=Q4 most (jr 10 s) [] 0
theorem lnP_cons{most:Int}{x:Str}{q:List Str}{l:List Rec}{n:Int}(a:q≠[]):Q4 most (x::q) l n=if(mD x).2≠0 then(l,n,(mD x).2)else if most<=(l.length:Int)then(l,n,2)else Q4 most q (l++[(mD x).1]) (n+(x.length:Int)+1):=by
 cases q with
 |nil=>exact absurd Z a
 |cons y r=>rfl
theorem joinC_len2(c:UInt8)(x y:Str)(l:List Str):(uD c (x::y::l)).length=x.length+1+(uD c (y::l)).length:=by
 rw[xu,List.length_append,List.length_cons];omega
theorem lnP_len(most:Int):∀(p:List Str) (l:List Rec) (n:Int),0<=n->n<=(Q4 most p l n).2.1/\(Q4 most p l n).2.1<=n+(uD 10 p).length/\(Q4 most p l n).1.length+0<=l.length+p.length/\l.length<=(Q4 most p l n).1.length/\((l.length:Int)<=most->((Q4 most p l n).1.length:Int)<=most)
  |[],l,n,hn=>by simp[Q4];omega
  |[x],l,n,hn=>by
    unfold Q4;split<;>simp<;>omega
  |x::y::r,l,n,hn=>by
    have b:=joinC_len2 10 x y r;unfold Q4;split
    · simp;omega
    · split
      · simp;omega
      · have a:=lnP_len most (y::r) (l++[(mD x).1]) (n+(x.length:Int)+1) V;simp only[List.length_append,List.length_cons,List.length_nil]at a⊢;omega
theorem lines_loop(a:Str)(b:Int)(k:a.length<=60000):∀(p:List Str) (s:Str) (l:List Rec) (N:Nat),jr 10 s=p->s.length<=a.length->p.length<=N->l.length+p.length<=60001->(l.length:Int)<=b->
    again (zk a b) N (s,l)=some (Q4 b p l ((a.length:Int)-(s.length:Int))):=by
  intro p;induction p with
  |nil=>intro s l N hp;exact absurd hp (E8 10 s)
  |cons x q ih=>
    intro s l N hp m hN j n;cases N with
    |zero=>simp at hN
    |succ N=>
    rw[again,zk];cases q with
    |nil=>
      obtain⟨rfl,e⟩:=XO hp;by_cases d:s=[]
      · subst d;rw[dF zq3,cond_false];simp[Q4]
      · rw[dT d,cond_true,cutS_free e V,bnd];simp only[Bool.not_false,cond_true];rw[gI];simp[Q4,d]
    |cons y r=>
      obtain⟨t,rfl,i,e⟩:=splitC_cons hp;have f:(x++10::t).length=x.length+1+t.length:=by simp;omega
      rw[dT zq3,cond_true,cutS_hit e V,bnd];simp only[Bool.not_true,cond_false];have c:Q3 x=mD x:=by unfold Q3;rw[if_neg V]
      rw[parse_eq,bnd,c,lnP_cons zq3];by_cases h:(mD x).2=0
      · rw[dF V,cond_false,if_neg V];by_cases g:(l.length:Int)=b
        · rw[dT g,cond_true,gI,if_pos V]
        · rw[dF g,cond_false,if_neg V];simp only[List.length_cons]at hN j;rw[mG ⟨by simp;omega,by simp;omega⟩,ih t (l++[(mD x).1]) N i V (by simp;omega) (by simp;omega) (by simp;omega)];congr 2;omega
      · rw[dT h,cond_true,gI,if_pos h]
theorem Xx(N:Nat)(a:Str)(b:Int)(hN:60002<=N)(d:a.length<=60000)(c:0<=b):CB N a b=some (ln b a):=by
 unfold CB ln;have e:=JA 10 a;rw[lines_loop a b d (jr 10 a) a [] N rfl (Nat.le_refl _) V (by simp;omega) (by simpa using c)];congr 2;omega
theorem eqByte(a b:Str):tH a b=some (decide (a=b)):=by
  unfold tH;by_cases h:a.length=b.length
  · rw[dF V];simp only[cond_false,Int.toNat_natCast];rw[Rj (fun x y=>decide (x=y)) a b h rfl (fun i x y f c d=>by
      unfold ym;rw[nM,nM,c,d];by_cases e:x=y
      · subst e;simp
      · have:¬((x.toNat:Int)=(y.toNat:Int)):=fun h=>e<|UInt8.toNat_inj.1 V;simp[e,this]),Jz (fun _ _=>rfl)]
  · rw[dT V];have:a≠b:=fun e=>h (by rw[e]);rw[dF this];rfl
theorem diskSame(a b:gN):Jl a b=some (decide (a=b)):=by
 unfold Jl;rw[eqByte,eqByte];obtain⟨c,h⟩:=a;obtain⟨e,f⟩:=b;simp only[gN.mk.injEq,bnd];by_cases d:c=e<;>by_cases g:h=f<;>simp[d,g]
theorem bcat5:∀(l:List Str) (a:Str),a.length+(l.map List.length).sum<=1000000->each rF rG l a=some (a++l.flatten)
 |[],a,_=>by simp[sI,rG]
 |x::l,a,h=>by
  simp only[List.map_cons,List.sum_cons]at h;rw[iM,rF,mG ⟨by omega,by omega⟩,bcat5 l (a++x) (by rw[List.length_append];omega)];simp
theorem bcat7(a:List Str):∀(l:List Str) (n:Nat),n+(l.map List.length).sum<=1000000->each rH (nQ a) l (n:Int)=nQ a ((n+(l.map List.length).sum:Nat):Int)
 |[],n,_=>by simp[sI]
 |x::l,n,h=>by
  simp only[List.map_cons,List.sum_cons]at h⊢;rw[iM,rH,gI,dF V,cond_false,show((n:Int)+(x.length:Int))=((n+x.length:Nat):Int) by omega,bcat7 a l (n+x.length) V,Nat.add_assoc]
theorem bcat(a b:Str)(h:a.length+b.length<=1000000):qR [a,b]=some (a++b):=by
 unfold qR;have:=bcat7 [a,b] [a,b] 0 (by simp;omega);rw[show((0:Nat):Int)=0 from rfl]at this;rw[this];unfold nQ;rw[show NB 1 ((0+([a,b].map List.length).sum:Nat):Int)=some ([]:Str) by unfold NB;rw[mG ⟨by omega,by simp;omega⟩],bnd,bcat5 [a,b] [] (by simp;omega)];simp
def zD:gN:=⟨[],[]⟩
def kC(d:gN):Int:=if 60000<d.safe.length\/60000<d.safe.length+d.wait.length then 2 else(ln 120 d.safe).2.2
theorem MB(N:Nat)(hN:60002<=N)(d:gN)(b:d.wait.length<=9223372036854775807):tQ N d=some (kC d):=by
  unfold tQ kC;by_cases h:60000<d.safe.length
  · rw[dT V,cond_true,if_pos (.inl h)];rfl
  · rw[dF V,cond_false,gI];by_cases a:60000<d.safe.length+d.wait.length
    · rw[dT V,if_pos (.inr a)];rfl
    · rw[dF V,if_neg V];unfold Dp;rw[cond_false,Xx N d.safe 120 hN V V,bnd]
theorem wB{d:gN}(h:kC d=0):d.safe.length+d.wait.length<=60000/\(ln 120 d.safe).2.2=0:=by
  unfold kC at h;split at h
  · cases h
  · exact⟨by omega,h⟩
def putT(d:gN)(r:Rec):gN×Int:=
 if(vQ r).2≠0 then(zD,(vQ r).2)else if 60000<d.safe.length+d.wait.length+(vQ r).1.length+1 then(zD,2)else(⟨d.safe,d.wait++(vQ r).1++[10]⟩,0)
def AQ(d:gN)(r:Rec):gN×Int:=if kC d≠0 then(zD,kC d)else putT d r
theorem text_len{r:Rec}(w:TI r):(vQ r).1.length<=27390:=by
  unfold vQ;split
  · rename_i h;have g:=Zr r (by rw[<-rec_eq];exact h);have a:=Rm 32 21 ((nl r).map Lib.itoa) (by intro x b;obtain⟨y,c,rfl⟩:=List.mem_map.1 b;exact itoa_len (nl_ok g w y c));have d:=Xt g;rw[List.length_map]at a;show(uD 32 ((nl r).map Lib.itoa)).length<=_;omega
  · simp
theorem put_eq(N:Nat)(hN:60002<=N)(d:gN)(r:Rec)(c:d.wait.length<=9223372036854775807)(w:TI r):I8 N d r=some (AQ d r):=by
  unfold I8 AQ putT;rw[MB N hN d c,bnd];by_cases h:kC d=0
  · obtain⟨f,_⟩:=wB h;have e:=text_len w;rw[dF V,cond_false,if_neg V,print_eq r (fun _=>w),bnd];by_cases a:(vQ r).2=0
    · rw[dF V,cond_false,if_neg V,gI,gI,gI];by_cases b:60000<d.safe.length+d.wait.length+(vQ r).1.length+1
      · rw[dT V,cond_true,if_pos b];rfl
      · rw[dF V,cond_false,if_neg b,sK V V,bnd,sK V V,bnd,mG ⟨by omega,by omega⟩,mG ⟨by simp;omega,by simp;omega⟩]
    · rw[dT a,cond_true,if_pos a];rfl
  · rw[dT h,cond_true,if_pos h];rfl
def syncT(d:gN):gN×Int:=if kC ⟨d.safe++d.wait,[]⟩≠0 then(zD,kC ⟨d.safe++d.wait,[]⟩)else(⟨d.safe++d.wait,[]⟩,0)
def Gn(d:gN):gN×Int:=if kC d≠0 then(zD,kC d)else syncT d
theorem sync_eq(N:Nat)(hN:60002<=N)(d:gN)(b:d.wait.length<=9223372036854775807):I9 N d=some (Gn d):=by
  unfold I9 Gn syncT;rw[MB N hN d b,bnd];by_cases h:kC d=0
  · obtain⟨c,_⟩:=wB h;rw[dF V,cond_false,if_neg V,bcat _ _ V,bnd,MB N hN _ zq3,bnd];by_cases a:kC ⟨d.safe++d.wait,[]⟩=0
    · rw[dF V,cond_false,if_neg V]
    · rw[dT a,cond_true,if_pos a];rfl
  · rw[dT h,cond_true,if_pos h];rfl
def dCrash(d:gN)(n:Int):gN×Int:=if kC d≠0 then(zD,kC d)else if n<0\/(d.wait.length:Int)<n then(zD,3)else(⟨d.safe,d.wait.take n.toNat⟩,0)
def recT(d:gN):gN×List Rec:=
 (⟨d.safe++d.wait.take (ln (120-((ln 120 d.safe).1.length:Int)) d.wait).2.1.toNat,[]⟩,(ln 120 d.safe).1++(ln (120-((ln 120 d.safe).1.length:Int)) d.wait).1)
def Xy(d:gN):gN×List Rec×Int:=if kC d≠0 then(zD,[],kC d)else((recT d).1,(recT d).2,0)
theorem ln_len(most:Int)(s:Str):0<=(ln most s).2.1/\(ln most s).2.1<=s.length/\(ln most s).1.length<=s.length+1/\(0<=most->((ln most s).1.length:Int)<=most):=by
 have h:=lnP_len most (jr 10 s) [] 0<|Int.le_refl 0;have a:=JA 10 s;rw[Ae]at h;unfold ln;simp only[List.length_nil]at h;omega
theorem recover_eq(N:Nat)(hN:60002<=N)(d:gN)(a:d.wait.length<=9223372036854775807):qb N d=some (Xy d):=by
  unfold qb Xy recT;rw[MB N hN d a,bnd];by_cases h:kC d=0
  · obtain⟨b,_⟩:=wB h;have k1:=ln_len 120 d.safe;rw[dF V,cond_false,if_neg V,Xx N d.safe 120 hN V V,bnd,gI,Xx N d.wait _ hN V V,bnd];have k2:=ln_len (120-((ln 120 d.safe).1.length:Int)) d.wait;generalize ln (120-((ln 120 d.safe).1.length:Int)) d.wait=y at*;obtain⟨f,c,e⟩:=y;simp only at k2⊢;obtain⟨m,rfl⟩:=Int.eq_ofNat_of_zero_le k2.1;rw[show(0:Int)=((0:Nat):Int)from rfl,sub_s V V,bnd,List.drop_zero,bcat _ _ (by simp;omega),bnd,mG ⟨by omega,by omega⟩,Int.toNat_natCast]
  · rw[dT h,cond_true,if_pos h];rfl
def Ex(r:Rec):Str:=uD 32 ((nl r).map Lib.itoa)
def Gp(l:List Rec):Prop:=∀r∈l,dV r=0/\TI r
def txt:List Rec->Str
 |[]=>[]
 |r::l=>Ex r++10::txt l
theorem Kl:∀(a b:List Rec),txt (a++b)=txt a++txt b
 |[],b=>rfl
 |r::a,b=>by simp[txt,Kl a b]
theorem Zt(c:UInt8):∀(l:List Str) (x:UInt8),x∈uD c l->x=c\/∃w∈l,x∈w
  |[],x,h=>by simp[uD,Lib.join_nil]at h
  |[y],x,h=>by rw[Ad]at h;exact .inr ⟨y,by simp,h⟩
  |y::z::l,x,h=>by
    rw[xu]at h;rcases List.mem_append.1 h with h|h
    · exact .inr ⟨y,by simp,h⟩
    · rcases List.mem_cons.1 h with h|h
      · exact .inl h
      · rcases Zt c (z::l) x h with h|⟨w,hw,h⟩
        · exact .inl h
        · exact .inr ⟨w,List.mem_cons_of_mem _ hw,h⟩
theorem line_free(r:Rec):(10:UInt8)∉Ex r:=by
  intro h;rcases Zt 32 _ _ h with h|⟨w,hw,h⟩
  · exact absurd h zq1
  · obtain⟨n,_,rfl⟩:=List.mem_map.1 hw;exact Ym zq1 h
theorem TJ:∀(l:List Rec) (t:Str),jr 10 (txt l++t)=l.map Ex++jr 10 t
 |[],t=>rfl
 |r::l,t=>by
  rw[txt,List.append_assoc,List.cons_append,zQ (line_free r),TJ l t];rfl
theorem lnP_txt(most:Int):∀(a:List Rec) (q:List Str) (l:List Rec) (n:Int),Gp a->q≠[]->((l.length+a.length:Nat):Int)<=most->Q4 most (a.map Ex++q) l n=Q4 most q (l++a) (n+((txt a).length:Int))
 |[],q,l,n,_,_,_=>by simp[txt]
 |r::a,q,l,n,h,hq,hl=>by
  obtain⟨d,b⟩:=h r zq3;simp only[List.length_cons]at hl;have c:mD (Ex r)=(r,0):=Xw d b;rw[List.map_cons,List.cons_append,lnP_cons (by simp[hq]),c,if_neg zq3,if_neg V,lnP_txt most a q (l++[r]) _ (fun x e=>h x (List.mem_cons_of_mem _ e)) hq (by simp;omega)];simp only[txt,List.length_append,List.length_cons,List.append_assoc,List.cons_append,List.nil_append];congr 1;omega
theorem ln_txt{most:Int}{a:List Rec}(t:Str)(h:Gp a)(b:(a.length:Int)<=most):ln most (txt a++t)=Q4 most (jr 10 t) a ((txt a).length:Int):=by
 unfold ln;rw[TJ,lnP_txt most a _ [] 0 h (E8 10 t) (by simpa using b)];simp
theorem ln_all{most:Int}{a:List Rec}(h:Gp a)(b:(a.length:Int)<=most):ln most (txt a)=(a,((txt a).length:Int),0):=by
 have:=ln_txt (most:=most) [] h b;rw[List.append_nil]at this;rw[this];simp[jr,Q4]
theorem Jo{a:List Rec}{w:Str}(h:Gp a)(b:a.length<=120)(c:(txt a).length+w.length<=60000):kC ⟨txt a,w⟩=0:=by
 unfold kC;show(if 60000<(txt a).length\/60000<(txt a).length+w.length then(2:Int)else(ln 120<|txt a).2.2)=0;rw[if_neg V,ln_all h V]
theorem put_txt{a b:List Rec}{r:Rec}(g:Gp a)(i:a.length<=120)(f:(txt a).length+(txt b).length<=60000)(w:TI r):
    (AQ ⟨txt a,txt b⟩ r).2≠0\/(AQ ⟨txt a,txt b⟩ r=(⟨txt a,txt (b++[r])⟩,0)/\dV r=0/\(txt a).length+(txt (b++[r])).length<=60000):=by
  unfold AQ putT;rw[if_neg (by rw[Jo g i f];simp)];by_cases h:dV r=0
  · have e:vQ r=(Ex r,0):=text_ok h;rw[e];simp only[ne_eq,not_true_eq_false,if_false];by_cases c:60000<(txt a).length+(txt b).length+(Ex r).length+1
    · rw[if_pos c];left;simp
    · rw[if_neg c];right;have d:txt (b++[r])=txt b++Ex r++[10]:=by rw[Kl];simp[txt]
      refine⟨by rw[d],h,by rw[d];simp;omega⟩
  · have e:vQ r=([],dV r):=by unfold vQ;rw[if_neg h]
    rw[e,if_pos h];exact .inl h
theorem sync_txt{a b:List Rec}(c:Gp a)(g:Gp b)(h:a.length+b.length<=120)(d:(txt a).length+(txt b).length<=60000):Gn ⟨txt a,txt b⟩=(⟨txt (a++b),[]⟩,0):=by
 have e:Gp (a++b):=fun r f=>(List.mem_append.1 f).elim (c r)<|g r;unfold Gn syncT;rw[if_neg (by rw[Jo c V d];simp)];show(if kC ⟨txt a++txt b,[]⟩≠0 then _ else _)=_;rw[<-Kl,if_neg (by rw[Jo e (by simpa using h) (by rw[Kl];simp;omega)];simp)]
theorem MC:Gp []:=fun r h=>by cases h
theorem coSame(a b:List Co):CF a b=some (decide (a=b)):=by
  unfold CF;by_cases h:a.length=b.length
  · rw[dF V];simp only[cond_false];rw[NT (fun x y=>decide (x=y)) a b h rfl (fun i x y j c=>by
      unfold FO BD;rw[nM,c];simp only[bnd,eqInt];have e:(((decide (x.lF=y.lF)&&decide (x.aM=y.aM))&&decide (x.offered=y.offered))&&decide (x.image=y.image))=decide (x=y):=by
        cases x;cases y;rw[Bool.eq_iff_iff];simp;exact⟨fun⟨⟨⟨d,c⟩,f⟩,g⟩=>⟨d,c,g,f⟩,fun⟨d,c,g,f⟩=>⟨⟨⟨d,c⟩,f⟩,g⟩⟩
      rw[<-e];cases ((decide (x.lF=y.lF)&&decide (x.aM=y.aM))&&decide (x.offered=y.offered))<;>cases decide (x.image=y.image)<;>rfl),Jz (fun _ _=>rfl)]
  · rw[dT V];have:a≠b:=fun e=>h (by rw[e]);rw[dF this];rfl
def coOk(x:Co):Prop:=0<=x.lF/\x.lF<=2/\1<=x.aM/\x.aM<=100/\ -1<=x.offered/\x.offered<=2/\1<=x.image.length/\x.image.length<=1200
def rg(x:Co):Bool:=(((((decide ((x.lF:Int)<0)||decide ((3:Int)<=x.lF))||decide ((x.aM:Int)<1))||decide ((100:Int)<x.aM))||decide ((x.offered:Int)< -1))||decide ((3:Int)<=x.offered))
def mn(x:Co):Bool:=(decide (((x.image.length:Int):Int)=0)||decide ((1200:Int)<(x.image.length:Int)))
theorem rg_eq(x:Co):(((!(bu x.lF 0 2))||(!(bu x.aM 1 100)))||(!(bu x.offered (-1) 2)))=rg x:=by
 unfold bu rg;rw[Bool.eq_iff_iff];simp;omega
theorem mn_eq(x:Co):(!(bu (x.image.length:Int) 1 1200))=mn x:=by
 have hn:0<=(x.image.length:Int):=by omega
 unfold bu mn;generalize (x.image.length:Int)=n at hn⊢;rw[Bool.eq_iff_iff];simp;omega
theorem coOk_iff(x:Co):coOk x↔rg x=false/\mn x=false:=by
 have hn:0<=(x.image.length:Int):=by omega
 unfold coOk rg mn;rw[show(1<=x.image.length)=(1<=(x.image.length:Int)) by simp;omega,show(x.image.length<=1200)=((x.image.length:Int)<=1200) by simp;omega];generalize (x.image.length:Int)=n at hn⊢;simp;omega
theorem chkEq(a:List Co):GX a=some (iA a):=by
  unfold GX iA;by_cases h:(3:Int)<(a.length:Int)
  · rw[dT h];rfl
  · rw[dF h];simp only[cond_false];have f:∀(k:List Co) (i:Nat) (b:Int),(∀j,k[j]? =a[i+j]?)->(i=0->b= -1)->(∀j,i=j+1->∃y,a[j]? =some y/\y.lF=b)->i<=a.length->iQ (wu a) zI (i:Int) k ()=some (each jM kJ k b):=by
      intro k;induction k with
      |nil=>intro i b _ _ _ _;rfl
      |cons x k ih=>
        intro i b l n o r;rw[Cs,iM];have d:a[i]? =some x:=by have:=l 0;simpa using this.symm
        have p:i<a.length:=by
          rcases Nat.lt_or_ge i a.length with h|h
          · exact h
          · rw[List.getElem?_eq_none h]at d;cases d
        have c:=ih (i+1) x.lF (fun j=>by have:=l (j+1);simpa[Nat.add_assoc,Nat.add_comm 1 j]using this) V (fun j q=>⟨x,by rw[show j=i by omega];exact d,Z⟩) V;rw[show((i+1:Nat):Int)=(i:Int)+1 from rfl]at c;generalize iQ (wu a) zI ((i:Int)+1) k=nx at c⊢;generalize each jM kJ k=nx2 at c⊢;unfold wu jM;rw[rg_eq,mn_eq,<-rg,<-mn];cases hr:rg x with
        |true=>rfl
        |false=>
        cases hm:mn x with
        |true=>rfl
        |false=>
        have e:=(coOk_iff x).2 ⟨hr,hm⟩;simp only[cond_false];unfold zH;cases i with
        |zero=>
          rw[n rfl,dF (show¬x.lF<= -1 by have:=e.1;omega)];simpa using c
        |succ j=>
          obtain⟨y,m,g⟩:=o j Z;rw[dT (show(0:Int)<((j+1:Nat):Int) by omega),show((j+1:Nat):Int)-1=(j:Int) by omega,gI,nM,m];simp only[cond_true,bnd,g];cases decide (x.lF<=b)with
          |true=>rfl
          |false=>exact c
    exact f a 0 (-1) (fun j=>by simp) (fun _=>rfl) (fun j q=>by omega) V
abbrev Up(l:List Co):Prop:=l.Pairwise (fun x y=>x.lF<y.lF)
theorem each_ok:∀(l:List Co) (a:Int),each jM kJ l a=0↔(∀x∈l,coOk x)/\Up l/\∀x∈l,a<x.lF
  |[],a=>by simp[sI,kJ]
  |x::r,a=>by
    rw[iM];have i:=each_ok r x.lF;generalize each jM kJ r=nx at i⊢;unfold jM;rw[rg_eq,mn_eq];have c:=coOk_iff x;cases hr:rg x with
    |true=>
      simp only[cond_true];constructor
      · intro h;exact absurd h zq1
      · intro h;have:=(c.1<|h.1 x List.mem_cons_self).1;rw[hr]at this;cases this
    |false=>
    cases hm:mn x with
    |true=>
      simp only[cond_true,cond_false];constructor
      · intro h;exact absurd h zq1
      · intro h;have:=(c.1<|h.1 x List.mem_cons_self).2;rw[hm]at this;cases this
    |false=>
    have ho:=c.2 ⟨hr,hm⟩;simp only[cond_false];by_cases g:x.lF<=a
    · rw[dT g];simp only[cond_true];constructor
      · intro h;exact absurd h zq1
      · intro h;have:=h.2.2 x List.mem_cons_self;omega
    · rw[dF g];simp only[cond_false];rw[i];show _↔_/\List.Pairwise _ (x::r)/\_;rw[List.pairwise_cons];constructor
      · rintro⟨e,f,d⟩;refine⟨?_,⟨d,f⟩,?_⟩
        · intro y b;rcases List.mem_cons.1 b with rfl|b
          · exact ho
          · exact e y b
        · intro y b;rcases List.mem_cons.1 b with rfl|b
          · omega
          · have:=d y b;omega
      · rintro⟨e,⟨f,d⟩,j⟩;exact⟨fun y b=>e y<|List.mem_cons_of_mem _ b,d,f⟩
structure Good(l:List Co):Prop where
 len:l.length<=3
 ok:∀x∈l,coOk x
 up:Up l
theorem good_iff(l:List Co):iA l=0↔Good l:=by
  unfold iA;by_cases h:(3:Int)<(l.length:Int)
  · rw[dT h];simp only[cond_true];exact⟨fun h=>absurd h zq1,fun g=>by have:=g.len;omega⟩
  · rw[dF h];simp only[cond_false];rw[each_ok];exact⟨fun⟨a,c,_⟩=>⟨by omega,a,c⟩,fun g=>⟨g.ok,g.up,fun x b=>by have:=(g.ok x b).1;omega⟩⟩
def EZ(c:Co):List Co->List Co
 |[]=>[c]
 |x::r=>if x.lF<c.lF then x::EZ c r else c::x::r
def KN(b:Rec)(l:List Co):List Co:=l.filter fun x=>decide (x.lF≠b.co)
def PH(b:Rec)(l:List Co):Option Co:=l.find? fun x=>decide (x.lF=b.co)
def nW(a:List Co)(b:Rec):List Co×Int:=
 if iA a≠0 then([],iA a)else if iy b≠0 then([],iy b)else
 match PH b a with
 |none=>if b.kind=1\/b.kind=4 then(if(decide (b.aM=1) !=decide (b.kind=1))=true then([],7)else(EZ ⟨b.co,b.aM,b.image,-1⟩ (KN b a),0))else([],5)
 |some c=>if b.kind=1\/b.kind=4 then([],6)else if(decide (b.aM≠c.aM)||(decide (c.offered≠ -1) !=decide (b.kind=5)))=true then([],7)else
  if b.kind=5 then(KN b a,0)else if b.kind=2 then(EZ ⟨c.lF,c.aM,b.image,c.offered⟩ (KN b a),0)else if c.aM=100 then([],2)else(EZ ⟨c.lF,c.aM,c.image,b.place⟩ (KN b a),0)
theorem oth_up(b:Rec){l:List Co}(h:Up l):Up (KN b l):=h.filter _
theorem UW{b:Rec}{l:List Co}{x:Co}(h:x∈KN b l):x∈l/\x.lF≠b.co:=by
 unfold KN at h;rw[List.mem_filter]at h;exact⟨h.1,by simpa using h.2⟩
theorem coCopy{a:List Co}(h:a.length<=3)(e:∀x∈a,x.image.length<=1200):FM a=some a:=by
 unfold FM;rw[sK V V];simp only[bnd,Int.toNat_natCast];have c:∀(m i:Nat),i+m=a.length->upto tT zl (i:Int) m a=some a:=by
  intro m;induction m with
  |zero=>intro i _;rfl
  |succ m ih=>
   intro i f;have d:i<a.length:=by omega
   show tT (i:Int) a (upto tT zl ((i:Int)+1) m)=_;have b:=ih (i+1) V;rw[show((i+1:Nat):Int)=(i:Int)+1 from rfl]at b;generalize upto tT zl ((i:Int)+1) m=nx at b⊢;unfold tT;rw[Cu d];have:=e a[i]<|List.getElem_mem d;simp only[bnd];rw[sK V V];simp only[bnd,Int.toNat_natCast];rw[show({a[i]with image:=a[i].image}:Co)=a[i]from rfl,List.set_getElem_self];exact b
 simpa using c a.length 0 V
theorem findEq(a:List Co)(k:Int):tV a k=some (match a.findIdx? (fun x=>decide (x.lF=k))with|some n=>(n:Int)|none=> -1):=by
 unfold tV;simp only[Int.toNat_natCast];rw[Yk (fun x=>decide (x.lF=k)) (fun i=>some i) a (fun i x c b=>by
  unfold Hm;rw[nM,b];rfl)]
 cases a.findIdx? (fun x=>decide (x.lF=k))<;>rfl
theorem Xz(b:Rec):∀(a:List Co),(PH b a=none/\a.findIdx? (fun x=>decide (x.lF=b.co))=none/\KN b a=a)\/
    ∃n x,PH b a=some x/\a.findIdx? (fun x=>decide (x.lF=b.co))=some n/\a[n]? =some x/\x.lF=b.co
  |[]=>.inl ⟨rfl,rfl,rfl⟩
  |x::r=>by
    unfold PH KN;rw[List.find?_cons,List.findIdx?_cons,List.filter_cons];by_cases h:x.lF=b.co
    · exact .inr ⟨0,x,by simp[h],by simp[h],Z,h⟩
    · simp only[h,decide_false,Bool.false_eq_true,if_false,ne_eq,not_false_eq_true,decide_true,if_true];rcases Xz b r with⟨h1,h2,h3⟩|⟨n,y,h1,h2,h3,h4⟩
      · exact .inl ⟨h1,by rw[h2];rfl,by unfold KN at h3;rw[h3]⟩
      · exact .inr ⟨n+1,y,h1,by rw[h2];rfl,by simpa using h3,h4⟩
theorem set_ins(b:Rec):∀(a:List Co) (n:Nat) (x y:Co),Up a->a[n]? =some x->x.lF=b.co->y.lF=b.co->a.set n y=EZ y (KN b a)
 |[],n,x,y,_,h,_,_=>by simp at h
 |z::r,0,x,y,hu,h,hx,hy=>by
  simp only[List.getElem?_cons_zero,Option.some.injEq]at h;subst h;rw[Up,List.pairwise_cons]at hu;have d:KN b (z::r)=r:=by
   unfold KN;rw[List.filter_cons,if_neg (by simp[hx]),List.filter_eq_self];intro u c;have:=hu.1 u c;simp;omega
  rw[d,List.set_cons_zero];cases r with
  |nil=>rfl
  |cons u r=>
   have:=hu.1 u List.mem_cons_self;simp only[EZ];rw[if_neg V]
 |z::r,n+1,x,y,hu,h,hx,hy=>by
  simp only[List.getElem?_cons_succ]at h;rw[Up,List.pairwise_cons]at hu;have e:=hu.1 x<|List.mem_of_getElem? h;have d:KN b (z::r)=z::KN b r:=by unfold KN;rw[List.filter_cons,if_pos (by simp;omega)]
  rw[d,List.set_cons_succ,set_ins b r n x y hu.2 h hx hy];simp only[EZ];rw[if_pos V]
theorem del_oth(b:Rec):∀(a:List Co) (n:Nat) (x:Co),Up a->a[n]? =some x->x.lF=b.co->a.take n++a.drop (n+1)=KN b a
 |[],n,x,_,h,_=>by simp at h
 |z::r,0,x,hu,h,hx=>by
  simp only[List.getElem?_cons_zero,Option.some.injEq]at h;subst h;rw[Up,List.pairwise_cons]at hu;unfold KN;rw[List.filter_cons,if_neg (by simp[hx])];have:r.filter (fun x=>decide<|x.lF≠b.co)=r:=by
   rw[List.filter_eq_self];intro u c;have:=hu.1 u c;simp;omega
  rw[this];simp
 |z::r,n+1,x,hu,h,hx=>by
  simp only[List.getElem?_cons_succ]at h;rw[Up,List.pairwise_cons]at hu;have e:=hu.1 x<|List.mem_of_getElem? h;have d:KN b (z::r)=z::KN b r:=by unfold KN;rw[List.filter_cons,if_pos (by simp;omega)]
  rw[d,<-del_oth b r n x hu.2 h hx];simp
theorem ins_loop(b:Rec)(a:List Co)(f:a.length<=3)(g:b.image.length<=1200):∀(k i N:Nat),i+k=a.length->k<N->again (j6 a b) N (i:Int)=some (a.take i++EZ ⟨b.co,b.aM,b.image,-1⟩ (a.drop i),0)
  |0,i,N+1,h,_=>by
    show j6 a b (i:Int) (again (j6 a b) N)=_;generalize again (j6 a b) N=nx;unfold j6 xS;rw[dF V];simp only[cond_false];rw[sK V V];simp only[bnd];rw[mG (Room.mk (by simp;omega) (by simp;omega)),ins1,if_pos ⟨by omega,by omega⟩];rw[List.drop_eq_nil_of_le (show a.length<=i by omega)];simp[EZ,show a.drop i=[]from List.drop_eq_nil_of_le V]
  |k+1,i,N+1,h,hN=>by
    have d:i<a.length:=by omega
    have e:=ins_loop b a f g k (i+1) N V V;rw[show((i+1:Nat):Int)=(i:Int)+1 from rfl]at e;show j6 a b (i:Int) (again (j6 a b) N)=_;generalize again (j6 a b) N=nx at e⊢;unfold j6 xS;rw[dT V,Cu d];simp only[cond_true,bnd];by_cases c:a[i].lF<b.co
    · rw[dT c];simp only[cond_true];rw[gI,e,List.drop_eq_getElem_cons d];simp only[EZ];rw[if_pos c,List.take_succ_eq_append_getElem d,List.append_assoc,List.singleton_append]
    · rw[dF c];simp only[cond_false];rw[sK V V];simp only[bnd];rw[mG (Room.mk (by simp;omega) (by simp;omega)),ins1,if_pos ⟨by omega,by omega⟩];simp only[bnd,Int.toNat_natCast];rw[List.drop_eq_getElem_cons d];simp only[EZ];rw[if_neg c,List.append_assoc,List.singleton_append]
theorem next_eq(N:Nat)(hN:5<N)(a:List Co)(b:Rec):CE N a b=some (nW a b):=by
  unfold CE nW;rw[chkEq];simp only[bnd];by_cases f:iA a=0
  · rw[rec_eq];by_cases i:iy b=0
    · have g:=(good_iff a).1 f;have gr:=Zr b i;have gl:=g.len;rw[f,i];simp only[ne_eq,not_true_eq_false,decide_false,cond_false,if_false];rw[coCopy g.len (fun x t=>(g.ok x t).2.2.2.2.2.2.2)];simp only[bnd];rw[findEq];simp only[bnd];have p:=gr.kind;have e:(decide ((b.kind:Int)=1)||decide ((b.kind:Int)=4))=decide (b.kind=1\/b.kind=4):=by simp
      rw[e];rcases Xz b a with⟨e1,e2,e3⟩|⟨n,c,e1,e2,e3,e4⟩
      · rw[e1,e2];simp only;by_cases d:b.kind=1\/b.kind=4
        · rw[dT d,if_pos d];simp only[cond_true];rw[show decide ((0:Int)<= -1)=false by decide];simp only[cond_false];have r:((decide ((b.kind:Int)=1)&&decide ((b.aM:Int)≠1))||(decide ((b.kind:Int)=4)&&decide ((b.aM:Int)=1)))=(decide (b.aM=1) !=decide (b.kind=1)):=by
            by_cases q:b.aM=1
            · rcases d with k|k<;>simp[q,k]
            · rcases d with k|k<;>simp[q,k]
          rw[r];cases (decide (b.aM=1) !=decide (b.kind=1))with
          |true=>rfl
          |false=>
            simp only[cond_false,Bool.false_eq_true,if_false];have:=ins_loop b a g.len gr.image a.length 0 N V V;simp only[Int.natCast_zero,List.take_zero,List.drop_zero,List.nil_append]at this;rw[this,e3]
        · rw[dF d,if_neg d];simp only[cond_false];rw[show decide ((-1:Int)<0)=true by decide];rfl
      · have hn:n<a.length:=by
          rcases Nat.lt_or_ge n a.length with h|h
          · exact h
          · rw[List.getElem?_eq_none h]at e3;cases e3
        have l:=g.ok c<|List.mem_of_getElem? e3;rw[e1,e2];simp only;by_cases d:b.kind=1\/b.kind=4
        · rw[dT d,if_pos d];simp only[cond_true];rw[dT (show(0:Int)<=(n:Int) by omega)];rfl
        · rw[dF d,if_neg d];simp only[cond_false];rw[dF (show¬(n:Int)<0 by omega),nM,e3];simp only[cond_false,bnd];have ho:decide ((0:Int)<=c.offered)=decide (c.offered≠ -1):=by
            rw[decide_eq_decide];have:=l.2.2.2.2.1;omega
          have s:(bif decide (c.aM≠b.aM)then qU b a (n:Int) c true else qU b a (n:Int) c (decide (b.kind=5) !=decide ((0:Int)<=c.offered)))=qU b a (n:Int) c (decide (b.aM≠c.aM)||(decide (c.offered≠ -1) !=decide (b.kind=5))):=by
            rw[ho];by_cases q:b.aM=c.aM
            · rw[q];simp only[ne_eq,not_true_eq_false,decide_false,cond_false,Bool.false_or];cases decide (b.kind=5)<;>cases decide (¬c.offered= -1)<;>rfl
            · rw[show decide (c.aM≠b.aM)=true from dT (fun h=>q h.symm),show decide (b.aM≠c.aM)=true from dT q];rfl
          refine s.trans ?_;unfold qU;cases (decide (b.aM≠c.aM)||(decide (c.offered≠ -1) !=decide (b.kind=5)))with
          |true=>rfl
          |false=>
            simp only[cond_false,Bool.false_eq_true,if_false];by_cases k2:b.kind=2
            · rw[dT k2,if_neg V,if_pos k2];simp only[cond_true];rw[sK (by have:=gr.image;omega) (by have:=gr.image;omega)];simp only[bnd,Int.toNat_natCast];rw[set_ins b a n c {c with image:=b.image} g.up e3 e4 e4]
            · rw[dF k2,if_neg k2];simp only[cond_false];by_cases m:b.kind=3
              · rw[dT m,if_neg V];simp only[cond_true];by_cases j:c.aM=100
                · rw[dT j,if_pos j];rfl
                · rw[dF j,if_neg j];simp only[cond_false,Int.toNat_natCast];rw[set_ins b a n c {c with offered:=b.place} g.up e3 e4 e4]
              · have o:b.kind=5:=by omega
                rw[dF m,dT o,if_pos o];simp only[cond_false,cond_true];rw[gI,del_s1 hn];simp only[bnd];rw[del_oth b a n c g.up e3 e4]
    · rw[f];simp only[ne_eq,not_true_eq_false,decide_false,cond_false,if_false];rw[show decide (¬iy b=0)=true from dT i,if_pos i];rfl
  · rw[show decide (iA a≠0)=true from dT f,if_pos f];rfl
def wU:List Co->List Rec->List Co×Int
 |s,[]=>(s,0)
 |s,r::l=>if(nW s r).2≠0 then([],(nW s r).2)else wU (nW s r).1 l
theorem rep_each(N:Nat)(hN:5<N):∀(l:List Rec) (s:List Co),each (zJ N) zK l s=some (wU s l)
  |[],s=>by simp[sI,zK,wU]
  |r::l,s=>by
    rw[iM,zJ,next_eq N hN,bnd,wU];by_cases h:(nW s r).2=0
    · rw[dF V,cond_false,if_neg V,rep_each N hN l]
    · rw[dT h,cond_true,if_pos h]
theorem replay_eq(N:Nat)(hN:5<N)(l:List Rec):BC N l=some (if 120<l.length then([],2)else wU [] l):=by
  unfold BC;by_cases h:120<l.length
  · rw[dT V,cond_true,if_pos h]
  · rw[dF V,cond_false,if_neg h,rep_each N hN]
theorem pRep_app:∀(a b:List Rec) (s:List Co),wU s (a++b)=if(wU s a).2≠0 then([],(wU s a).2)else wU (wU s a).1 b
  |[],b,s=>by simp[wU]
  |r::a,b,s=>by
    rw[List.cons_append,wU,wU];by_cases h:(nW s r).2=0
    · simp only[h,ne_eq,not_true_eq_false,if_false];exact pRep_app a b _
    · simp[h]
theorem ME{c y:Co}:∀{l:List Co},y∈EZ c l↔y=c\/y∈l
  |[]=>by simp[EZ]
  |x::r=>by
    unfold EZ;split
    · rw[List.mem_cons,ME,List.mem_cons];constructor
      · rintro(h|h|h)
        · exact .inr<|.inl h
        · exact .inl h
        · exact .inr<|.inr h
      · rintro(h|h|h)
        · exact .inr<|.inl h
        · exact .inl h
        · exact .inr<|.inr h
    · rw[List.mem_cons]
theorem Eg{c:Co}:∀{l:List Co},(EZ c l).length=l.length+1
  |[]=>rfl
  |x::r=>by
    unfold EZ;split
    · rw[List.length_cons,Eg,List.length_cons]
    · rfl
theorem insC_up{c:Co}:∀{l:List Co},Up l->(∀x∈l,x.lF≠c.lF)->Up (EZ c l)
  |[],_,_=>by simp[EZ,Up]
  |x::r,h,hn=>by
    rw[Up,List.pairwise_cons]at h;have b:=hn x List.mem_cons_self;unfold EZ;split
    · next hl=>
      show List.Pairwise _ _;rw[List.pairwise_cons];refine⟨fun y a=>?_,insC_up h.2 fun y a=>hn y<|List.mem_cons_of_mem _ a⟩;rcases ME.1 a with rfl|a
      · exact hl
      · exact h.1 y a
    · next hl=>
      show List.Pairwise _ _;rw[List.pairwise_cons,List.pairwise_cons];refine⟨fun y a=>?_,h.1,h.2⟩;rcases List.mem_cons.1 a with rfl|a
      · omega
      · have:=h.1 y a;omega
theorem find_of{l:List Co}(b:Up l){x:Co}(a:x∈l):∃n,l.findIdx? (fun y=>decide (y.lF=x.lF))=some n/\l[n]? =some x/\n<l.length:=by
  induction l with
  |nil=>cases a
  |cons z r ih=>
    rw[Up,List.pairwise_cons]at b;rw[List.findIdx?_cons];rcases List.mem_cons.1 a with rfl|a
    · exact⟨0,by simp,Z,by simp⟩
    · have:=b.1 x a;obtain⟨n,c,d,e⟩:=ih b.2 a;exact⟨n+1,by rw[if_neg (by simp;omega),c];rfl,by simpa using d,by simp;omega⟩
theorem next_ok(a:List Co)(b:Rec)(h:(nW a b).2=0):Good a/\Good (nW a b).1/\a.length<=(nW a b).1.length+1/\(nW a b).1.length<=a.length+1/\(∀x∈a,x.lF≠b.co->x∈(nW a b).1)/\(∀x∈a,x.lF=b.co->0<=x.offered->b.kind=5):=by
  unfold nW at h⊢;by_cases s:iA a=0
  · by_cases t:iy b=0
    · have g:=(good_iff a).1 s;have gr:=Zr b t;have gl:=g.len;have B:=gr.co;rw[if_neg (by simpa using s),if_neg (by simpa using t)]at h⊢;have j:∀x∈a,x.lF≠b.co->x∈KN b a:=fun x f hn=>by unfold KN;rw[List.mem_filter];exact⟨f,by simpa using hn⟩
      have i:∀c:Co,coOk c->c.lF=b.co->(KN b a).length<=2->Good (EZ c (KN b a)):=fun c M J O=>⟨by rw[Eg];omega,fun x f=>by
        rcases ME.1 f with rfl|f
        · exact M
        · exact g.ok x (UW f).1,insC_up (oth_up b g.up) (fun x f=>by have:=(UW f).2;omega)⟩
      rcases Xz b a with⟨e1,e2,e3⟩|⟨n,c,e1,e2,e3,e4⟩
      · rw[e1]at h⊢;simp only at h⊢;have hno:∀x∈a,x.lF≠b.co:=fun x f e=>by
          unfold PH at e1;rw[List.find?_eq_none]at e1;exact e1 x f (by simpa using e)
        by_cases q:b.kind=1\/b.kind=4
        · rw[if_pos q]at h⊢;cases hq:(decide (b.aM=1) !=decide (b.kind=1))with
          |true=>rw[hq,if_pos Z]at h;exact absurd h zq1
          |false=>
            rw[hq]at h;simp only[Bool.false_eq_true,if_false]at h⊢;have w:a.length<=2:=by
              match a,g,hno with
              |[],_,_=>simp
              |[x],_,_=>simp
              |[x,y],_,_=>simp
              |[x,y,z],g,hno=>
                have K:=g.up;simp[Up]at K;have o1:=g.ok x zq3;have o2:=g.ok y zq3;have N:=g.ok z zq3;have P:=hno x zq3;have R:=hno y zq3;have Q:=hno z zq3;unfold coOk at o1 o2 N;omega
              |x::y::z::u::r,g,_=>have:=g.len;simp at this
            have v:=gr.has V;refine⟨g,i _ ⟨B.1,B.2,gr.aM.1,gr.aM.2,by simp,by simp,v,gr.image⟩ Z (by rw[e3];exact w),?_,?_,fun x f hn=>ME.2 (.inr (j x f hn)),fun x f e=>absurd e (hno x f)⟩
            · rw[Eg,e3];omega
            · rw[Eg,e3];omega
        · rw[if_neg q]at h;exact absurd h zq1
      · rw[e1]at h⊢;simp only at h⊢;have hn:n<a.length:=by
          rcases Nat.lt_or_ge n a.length with h|h
          · exact h
          · rw[List.getElem?_eq_none h]at e3;cases e3
        have L:(KN b a).length+1=a.length:=by
          rw[<-del_oth b a n c g.up e3 e4];simp;omega
        have d:=g.ok c<|List.mem_of_getElem? e3;have o:∀x∈a,x.lF=b.co->x=c:=by
          intro x f p;obtain⟨m,G,E,_⟩:=find_of g.up f;rw[p,e2]at G;cases G;rw[e3]at E;exact(osi E).symm
        by_cases q:b.kind=1\/b.kind=4
        · rw[if_pos q]at h;exact absurd h zq1
        · rw[if_neg q]at h⊢;cases hq:(decide (b.aM≠c.aM)||(decide (c.offered≠ -1) !=decide (b.kind=5)))with
          |true=>rw[hq,if_pos Z]at h;exact absurd h zq1
          |false=>
            rw[hq]at h;simp only[Bool.false_eq_true,if_false]at h⊢;have k:∀x∈a,x.lF=b.co->0<=x.offered->b.kind=5:=by
              intro x f p S;have:=o x f p;subst this;rw[Bool.or_eq_false_iff]at hq;have A:=hq.2;rw[show decide (x.offered≠ -1)=true from dT V]at A;cases h5:decide (b.kind=5)with
              |true=>exact Yr h5
              |false=>rw[h5]at A;cases A
            have l:∀(I:Co) x,x∈a->x.lF≠b.co->x∈EZ I (KN b a):=fun I x f hn=>ME.2<|.inr<|j x f hn;by_cases C:b.kind=5
            · rw[if_pos C]at h⊢;exact⟨g,⟨by show(KN b a).length<=3;omega,fun x f=>g.ok x (UW f).1,oth_up b g.up⟩,by show a.length<=(KN b a).length+1;omega,by show(KN b a).length<=a.length+1;omega,j,k⟩
            · rw[if_neg C]at h⊢;by_cases k2:b.kind=2
              · rw[if_pos k2]at h⊢;have v:=gr.has V;refine⟨g,i _ ⟨d.1,d.2.1,d.2.2.1,d.2.2.2.1,d.2.2.2.2.1,d.2.2.2.2.2.1,v,gr.image⟩ e4 V,?_,?_,l _,k⟩
                · rw[Eg];omega
                · rw[Eg];omega
              · rw[if_neg k2]at h⊢;by_cases p:c.aM=100
                · rw[if_pos p]at h;exact absurd h zq1
                · rw[if_neg p]at h⊢;have hp:=gr.place;refine⟨g,i _ ⟨d.1,d.2.1,d.2.2.1,d.2.2.2.1,by show-1<=b.place;omega,hp.2,d.2.2.2.2.2.2.1,d.2.2.2.2.2.2.2⟩ e4 V,?_,?_,l _,k⟩
                  · rw[Eg];omega
                  · rw[Eg];omega
    · rw[if_neg (by simpa using s),if_pos t]at h;exact absurd h t
  · rw[if_pos s]at h;exact absurd h s
theorem TK{a:List il}(h:dL a=0):a.length<=40/\∀x∈a,x.image.length<=1200:=by
  unfold dL at h;by_cases c:(40:Int)<(a.length:Int)
  · rw[decide_eq_true c]at h;cases h
  · rw[decide_eq_false c]at h;refine⟨by omega,?_⟩;simp only[cond_false]at h;clear c;induction a with
    |nil=>intro x b;cases b
    |cons y r ih=>
      rw[iM]at h;unfold yB at h;generalize e:(((((((decide ((y.from_:Int)<0)||decide ((3:Int)<=y.from_))||decide ((y.iX:Int)<0))||decide ((3:Int)<=y.iX))||decide ((y.co:Int)<0))||decide ((3:Int)<=y.co))||decide ((y.aM:Int)<2))||decide ((100:Int)<y.aM))=A at h;cases A with
      |true=>cases h
      |false=>
        simp only[cond_false]at h;generalize d:((y.taken !=decide (((y.image.length:Int):Int)=0))||decide ((1200:Int)<(y.image.length:Int)))=B at h;cases B with
        |true=>cases h
        |false=>
          simp only[cond_false]at h;intro x b;rcases List.mem_cons.1 b with rfl|b
          · simp only[Bool.or_eq_false_iff,decide_eq_false_iff_not]at d;omega
          · exact ih h x b
theorem wCopy{a:List il}(h:a.length<=40)(d:∀x∈a,x.image.length<=1200):BO a=some a:=by
 unfold BO;rw[sK V V];simp only[bnd,Int.toNat_natCast];have b:∀(m i:Nat),i+m=a.length->upto Au G5 (i:Int) m a=some a:=by
  intro m;induction m with
  |zero=>intro i _;rfl
  |succ m ih=>
   intro i e;have c:i<a.length:=by omega
   show Au (i:Int) a (upto Au G5 ((i:Int)+1) m)=_;unfold Au;rw[Cu c];have:=d a[i]<|List.getElem_mem c;simp only[bnd];rw[sK V V];simp only[bnd,Int.toNat_natCast];rw[show({a[i]with image:=a[i].image}:il)=a[i]from rfl,List.set_getElem_self];exact ih (i+1) V
 simpa using b a.length 0 V
theorem b_t{p:Prop} [Decidable p](h:p):decide p=true:=decide_eq_true h
theorem b_f{p:Prop} [Decidable p](h:¬p):decide p=false:=decide_eq_false h
theorem wSend(a:List il)(b:il):LF a b=some (if dL a≠0 then([],dL a)else if dL [b]≠0 then([],dL [b])else(if a.length<40 then a++[b]else a,0)):=by
  unfold LF;by_cases c:dL a≠0
  · rw[b_t c,if_pos c];rfl
  · rw[b_f c,if_neg c];by_cases d:dL [b]≠0
    · rw[b_t d,if_pos d];rfl
    · rw[b_f d,if_neg d];have c1:=TK<|Decidable.not_not.1 c;have c2:=TK<|Decidable.not_not.1 d;simp only[cond_false,wCopy c1.1 c1.2,wCopy c2.1 c2.2,bnd];by_cases e:(a.length:Int)<40
      · rw[b_t e,if_pos V];simp only[cond_true];exact mG (Room.mk (by simp;omega) (by simp;omega))
      · rw[b_f e,if_neg V];rfl
def Q5:il:=⟨0,0,0,0,false,[]⟩
theorem wTake(a:List il)(k:Int)(t:Bool):I7 a k t=some (if dL a≠0 then([],Q5,dL a)else if k<0\/(a.length:Int)<=k then([],Q5,5)else(if t then a else a.take k.toNat++a.drop (k.toNat+1),(a[k.toNat]?).getD Q5,0)):=by
  unfold I7 G6;by_cases b:dL a≠0
  · rw[b_t b,if_pos b];rfl
  · rw[b_f b,if_neg b];have c1:=TK<|Decidable.not_not.1 b;by_cases c:k<0\/(a.length:Int)<=k
    · rw[show(decide (k<0)||decide ((a.length:Int)<=k))=true by simpa using c,if_pos c];rfl
    · rw[show(decide (k<0)||decide ((a.length:Int)<=k))=false by simpa using c,if_neg c];obtain⟨n,rfl⟩:=Int.eq_ofNat_of_zero_le (show 0<=k by omega);have hn:n<a.length:=by omega
      simp only[cond_false,wCopy c1.1 c1.2,bnd,Int.toNat_natCast];have g1:ko ((n:Int)+1):=ko.mk V V;rw[mG g1];have e:(n:Int)+1=((n+1:Nat):Int):=rfl;rw[e,sub_s V V];have f:=one_at hn;rw[f];simp only[bnd];rw[wCopy zq3 (by intro x d;simp at d;subst d;exact c1.2 _ (List.getElem_mem hn))];simp only[bnd];rw[show idx [a[n]] 0=some a[n]from rfl];simp only[bnd,List.getElem?_eq_getElem hn,Option.getD_some];cases t with
      |true=>simp only[Bool.not_true,cond_false,if_true]
      |false=>
        simp only[Bool.not_false,cond_true];rw[mG (show ko (((n+1:Nat):Int))from ko.mk V V),del_s V V];simp only[bnd,Bool.false_eq_true,if_false]
end Dk
open Go Go.Proofs Go.LX
namespace Pw
open Dk
theorem lnP_inv(most:Int):∀(p:List Str) (l:List Rec) (n:Int),∃a,(Q4 most p l n).1=l++a/\Gp a/\(Q4 most p l n).2.1=n+((txt a).length:Int)/\∃t,uD 10 p=txt a++t/\((Q4 most p l n).2.2=0->t=[])
  |[],l,n=>⟨[],by simp[Q4],MC,by simp[Q4,txt],[],by simp[uD,Lib.join_nil,txt],fun _=>rfl⟩
  |[x],l,n=>by
    unfold Q4;by_cases h:x=[]
    · rw[if_pos h];subst h;exact⟨[],by simp,MC,by simp[txt],[],by rw[Ad];rfl,fun _=>rfl⟩
    · rw[if_neg h];exact⟨[],by simp,MC,by simp[txt],x,by rw[Ad];rfl,fun h=>by simp at h⟩
  |x::y::r,l,n=>by
    unfold Q4;by_cases c:(mD x).2=0
    · rw[if_neg V];by_cases e:most<=(l.length:Int)
      · rw[if_pos e];exact⟨[],by simp,MC,by simp[txt],_,Z,fun h=>by simp at h⟩
      · rw[if_neg e];obtain⟨a,i,k,f,t,g,j⟩:=lnP_inv most (y::r) (l++[(mD x).1])<|n+(x.length:Int)+1;obtain⟨k1,k2,d⟩:=read_ok (s:=x) (r:=(mD x).1) (by rw[<-c]);refine⟨(mD x).1::a,by rw[i];simp,?_,?_,t,?_,j⟩
        · intro z b;rcases List.mem_cons.1 b with rfl|b
          · exact⟨k1,k2⟩
          · exact k z b
        · rw[f];have:(Ex (mD x).1)=x:=d.symm;simp only[txt,List.length_append,List.length_cons,this];omega
        · rw[xu,g];have:(Ex (mD x).1)=x:=d.symm;simp[txt,this]
    · rw[if_pos c];exact⟨[],by simp,MC,by simp[txt],_,Z,fun h=>absurd h c⟩
theorem ln_inv(most:Int)(s:Str):Gp (ln most s).1/\(ln most s).2.1=((txt (ln most s).1).length:Int)/\∃t,s=txt (ln most s).1++t/\((ln most s).2.2=0->t=[]):=by
 obtain⟨f,b,e,d,t,a,c⟩:=lnP_inv most (jr 10 s) [] 0;rw[List.nil_append]at b;rw[Ae]at a;unfold ln;rw[b];exact⟨e,by rw[d];omega,t,a,c⟩
def KJ(d:gN):List Rec:=(ln 120 d.safe).1
def uk(d:gN):List Rec:=(recT d).2
structure DOk(d:gN):Prop where
 safe:d.safe=txt (KJ d)
 good:Gp (uk d)
 len:(uk d).length<=120
 room:d.safe.length+d.wait.length<=60000
 pre:KJ d<+:uk d
 whole:(recT d).1=⟨txt (uk d),[]⟩
 rroom:(txt (uk d)).length<=60000
 still:d.wait=[]->uk d=KJ d
theorem dOk{d:gN}(h:kC d=0):DOk d:=by
  obtain⟨l,j⟩:=Dk.wB h;obtain⟨g1,g2,t,c,i⟩:=ln_inv 120 d.safe;have k:=i j;subst k;rw[List.append_nil]at c;have n:((ln 120 d.safe).1.length:Int)<=120:=(ln_len 120 d.safe).2.2.2 V;obtain⟨k1,k2,u,f,o⟩:=ln_inv (120-((ln 120 d.safe).1.length:Int)) d.wait;have m:=(ln_len (120-((ln 120 d.safe).1.length:Int)) d.wait).2.2.2 V;have a:uk d=(ln 120 d.safe).1++(ln (120-((ln 120 d.safe).1.length:Int)) d.wait).1:=rfl;have b:d.wait.take (ln (120-((ln 120 d.safe).1.length:Int)) d.wait).2.1.toNat=txt (ln (120-((ln 120 d.safe).1.length:Int)) d.wait).1:=by
    generalize q:txt (ln (120-((ln 120 d.safe).1.length:Int)) d.wait).1=T at k2 f;rw[k2,Int.toNat_natCast,f,List.take_left]
  have p:(txt (ln (120-((ln 120 d.safe).1.length:Int)) d.wait).1).length<=d.wait.length:=by
    rw[<-b,List.length_take];omega
  refine⟨c,?_,?_,l,?_,?_,?_,?_⟩
  · rw[a];exact fun r g=>(List.mem_append.1 g).elim (g1 r)<|k1 r
  · rw[a,List.length_append];omega
  · rw[a];exact List.prefix_append _ _
  · show(⟨d.safe++d.wait.take (ln (120-((ln 120 d.safe).1.length:Int)) d.wait).2.1.toNat,[]⟩:gN)=_;rw[b,a,Kl,<-c]
  · rw[a,Kl,List.length_append,<-c];omega
  · intro e;rw[a,e];show _++(Q4 _ (jr 10 []) [] 0).1=_;simp[jr,Q4,KJ]
theorem dOk_mk{a:List Rec}{w:Str}(h:Gp a)(b:a.length<=120)(c:(txt a).length+w.length<=60000):kC ⟨txt a,w⟩=0/\KJ ⟨txt a,w⟩=a:=by
 refine⟨Jo h b c,?_⟩;unfold KJ;rw[ln_all h V]
theorem note_disk{d:gN}(h:kC d=0)(s:d.wait=[]){r:Rec}(w:TI r){d1 d2:gN}(v:AQ d r=(d1,0))(g:Gn d1=(d2,0)):
    dV r=0/\d2=⟨txt (KJ d++[r]),[]⟩/\kC d2=0/\KJ d2=KJ d++[r]/\uk d2=KJ d++[r]/\(KJ d).length+1<=120:=by
  have j:=dOk h;obtain⟨t,y⟩:=d;simp only at s;subst s;have q:=j.safe;simp only at q;have f:=j.room;simp only[List.length_nil]at f;have n:=j.len;rw[j.still rfl]at n;have i:=j.good;rw[j.still rfl]at i;generalize z:KJ ⟨t,[]⟩=a at*;subst q;have e:=put_txt (a:=a) (b:=[]) (r:=r) i n (by simpa[txt]using f) w;rw[show txt ([]:List Rec)=[]from rfl,v]at e;rcases e with e|⟨e,er,el⟩
  · exact absurd Z e
  · rw[List.nil_append]at e el;obtain rfl:=congrArg Prod.fst e;simp only at g;have k:Gp [r]:=fun x l=>by rw[List.mem_singleton]at l;subst l;exact⟨er,w⟩
    have m:Gp (a++[r]):=fun x l=>(List.mem_append.1 l).elim (i x)<|k x;by_cases c:a.length+1<=120
    · rw[sync_txt i k (by simpa using c) el]at g;obtain rfl:=congrArg Prod.fst g;obtain⟨k1,k2⟩:=dOk_mk (a:=a++[r]) (w:=[]) m (by simpa using c) (by rw[Kl];simp;omega);exact⟨er,Z,k1,k2,by rw[(dOk k1).still Z,k2],c⟩
    · exfalso;unfold Gn syncT at g;rw[if_neg (by rw[Jo i n el];simp)]at g;simp only at g;have p:a.length=120:=by omega
      have:kC ⟨txt a++txt [r],[]⟩=2:=by
        unfold kC;simp only[List.length_nil,List.length_append];rw[if_neg V];rw[ln_txt (txt [r]) i V];have o:jr 10 (txt [r])=[Ex r,[]]:=by
          have:=TJ [r] [];rw[List.append_nil]at this;rw[this];simp[jr]
        rw[o];unfold Q4;have u:mD (Ex r)=(r,0):=Xw er w;rw[u,if_neg zq3,if_pos V]
      rw[this]at g;simp at g
end Pw
open Go Go.Proofs Go.LX
namespace Pw
open Dk
theorem Ng{α:Type}{R:Rdr α}{g:α->List Int}(h:∀l x r,R l=some (x,r)->l=g x++r):∀(n:Nat) (l:List Int) (xs:List α) (r:List Int),lL R n l=some (xs,r)->l=xs.flatMap g++r/\xs.length=n
 |0,l,xs,r,e=>by
  have a:some (([]:List α),l)=some (xs,r):=e;cases a;exact⟨Z,Z⟩
 |n+1,l,xs,r,e=>by
  have a:(R l).bind (fun q=>(lL R n q.2).bind fun b=>some (q.1::b.1,b.2))=some (xs,r):=e;cases h1:R l with
  |none=>rw[h1]at a;cases a
  |some q=>
   rw[h1,Option.bind_some]at a;cases h2:lL R n q.2 with
   |none=>rw[h2]at a;cases a
   |some b=>
    rw[h2,Option.bind_some]at a;cases a;obtain⟨k1,k2⟩:=Ng h n q.2 b.1 b.2 h2;refine⟨?_,by simp[k2]⟩;rw[h l q.1 q.2 h1,List.flatMap_cons,List.append_assoc,<-k1]
theorem num_inv{l:List Int}{x:Int}{r:List Int}(h:EY l=some (x,r)):l=x::r:=by
 cases l with
 |nil=>cases h
 |cons a l=>cases h;rfl
theorem XA{m:Int}{l:List Int}{x:Nat}{r:List Int}(h:zu m l=some (x,r)):l=(x:Int)::r/\(x:Int)<=m:=by
  cases l with
  |nil=>cases h
  |cons a l=>
    unfold zu at h;simp only at h;by_cases b:0<=a/\a<=m
    · rw[if_pos b]at h;cases h;rw[Int.toNat_of_nonneg b.1];exact⟨Z,b.2⟩
    · rw[if_neg b]at h;cases h
theorem uV{α β:Type}{R:Rdr α}{f:α->Rdr β}{l:List Int}{y:β}{r:List Int}(h:iK R f l=some (y,r)):∃x a,R l=some (x,a)/\f x a=some (y,r):=by
 unfold iK at h;cases e:R l with
 |none=>rw[e]at h;cases h
 |some q=>rw[e,Option.bind_some]at h;exact⟨q.1,q.2,Z,h⟩
theorem XB{α:Type}{x y:α}{l r:List Int}(h:zt x l=some (y,r)):x=y/\l=r:=by cases h;exact⟨Z,Z⟩
theorem val_inv{l:List Int}{x:Val}{r:List Int}(h:UU l=some (x,r)):l=[x.kind,x.n]++r:=by
 obtain⟨k,d,a,h⟩:=uV h;obtain⟨n,c,b,h⟩:=uV h;obtain⟨rfl,rfl⟩:=XB h;rw[num_inv a,num_inv b];rfl
theorem row_inv{m:Int}{l:List Int}{x:List Val}{r:List Int}(h:Nf m l=some (x,r)):l=rowP x++r:=by
 obtain⟨k,a,b,h⟩:=uV h;obtain⟨c,d⟩:=Ng (fun l x r=>val_inv) k a x r h;rw[(XA b).1,c,<-d];rfl
theorem fr_inv{l:List Int}{x:LX.Frame}{r:List Int}(h:Xo l=some (x,r)):l=frP x++r:=by
 obtain⟨a,k,e,h⟩:=uV h;obtain⟨b,j,i,h⟩:=uV h;obtain⟨c,n,f,h⟩:=uV h;obtain⟨d,m,g,h⟩:=uV h;obtain⟨rfl,rfl⟩:=XB h;rw[num_inv e,num_inv i,num_inv f,row_inv g];rfl
theorem st_inv{l:List Int}{s:LX.State}{r:List Int}(h:Xp l=some (s,r)):l=Kw s++r:=by
 obtain⟨a,z,v,h⟩:=uV h;obtain⟨b,A,q,h⟩:=uV h;obtain⟨n,m,w,h⟩:=uV h;obtain⟨f,t,o,h⟩:=uV h;obtain⟨k,p,i,h⟩:=uV h;obtain⟨c,e,u,h⟩:=uV h;obtain⟨rfl,rfl⟩:=XB h;obtain⟨j,y⟩:=Ng (fun l x r=>fr_inv) n m f t o;obtain⟨d,g⟩:=Ng (fun l x r=>row_inv) k p c e u;rw[num_inv v,num_inv q,(XA w).1,j,(XA i).1,d,<-y,<-g];unfold Kw;simp
structure Img(p:List dn)(l:List Int)(s:LX.State):Prop where
 un:fG p l=(s,0)
 st:StOk p s
 idem:Gm s=s
 eq:l=Kw s
theorem img_of{p:List dn}(hp:chk p=0){l:List Int}(h:(fG p l).2=0):Img p l (fG p l).1:=by
  have g:fG p l=((fG p l).1,0):=by rw[<-h]
  have a:=g;unfold fG at h;by_cases c:1200<l.length
  · rw[if_pos c]at h;simp at h
  · rw[if_neg c]at h;cases e:Xp l with
    |none=>rw[e]at h;simp at h
    |some q=>
      obtain⟨s,r⟩:=q;rw[e]at h;cases r with
      |cons x r=>simp at h
      |nil=>
        simp only at h;have f:fG p l=endP p s:=by unfold fG;rw[if_neg c,e]
        rw[f]at a⊢;unfold endP at h a⊢;rw[if_neg V]at h a⊢;by_cases d:ckS p s=0
        · rw[if_neg V]at h a⊢;by_cases b:Gm s=s
          · rw[if_pos b]at h a⊢;refine⟨?_,ckS_ok.1 d,b,?_⟩
            · rw[f];unfold endP;rw[if_neg V,if_neg V,if_pos b]
            · have:=st_inv e;rw[List.append_nil]at this;exact this
          · rw[if_neg b]at h;simp at h
        · rw[if_pos d]at h;exact absurd h d
theorem valsP_mem{l:List Val}{x:Int}(h:x∈valsP l):∃v∈l,x=v.kind\/x=v.n:=by
 obtain⟨v,b,a⟩:=List.mem_flatMap.1 h;simp at a;exact⟨v,b,a⟩
theorem Km{x:Int}(h: -2000000000<=x/\x<=2000000000):ko x:=⟨by omega,by omega⟩
theorem val_b{n:Nat}{v:Val}(h:wZ n v)(hn:n<=24):(-2000000000<=v.kind/\v.kind<=2000000000)/\ -2000000000<=v.n/\v.n<=2000000000:=by unfold wZ at h;omega
theorem row_b{n:Nat}{l:List Val}(h:∀v∈l,wZ n v)(hn:n<=24)(c:l.length<=40):∀x∈rowP l,-2000000000<=x/\x<=2000000000:=by
  intro x a;rcases List.mem_cons.1 a with rfl|a
  · omega
  · obtain⟨v,b,e⟩:=valsP_mem a;have:=val_b (h v b) hn;rcases e with rfl|rfl
    · exact this.1
    · exact this.2
theorem pack_b{p:List dn}(hp:PD p){s:LX.State}(h:StOk p s):∀x∈Kw s,ko x:=by
  have d:=h.small hp;have C:=d.frames;have n:=d.cells;have v:=h.status;have u:=h.bZ;intro x a;refine Km ?_;unfold Kw at a;rcases List.mem_cons.1 a with rfl|a
  · omega
  rcases List.mem_cons.1 a with rfl|a
  · omega
  rcases List.mem_cons.1 a with rfl|a
  · omega
  rcases List.mem_append.1 a with a|a
  · obtain⟨f,b,a⟩:=List.mem_flatMap.1 a;obtain⟨q,g⟩:=EX h.frames f b;have y:=(hp.mem g.proc).2.2.2;have w:=(aF g.proc).1;have o:f.proc.toNat<p.length:=by
      have:=(aF g.proc).2;exact(List.getElem?_eq_some_iff.1 this).1
    have A:=hp.many;have hat:=g.at_;unfold yL at y;have j: -2000000000<=f.iX/\f.iX<=2000000000:=by
      have i:∀(l:List LX.Frame) (t:Int),t<=40->(∀f∈l,f.regs.length<=40)->zq p s.cells.length t l->∀f∈l,0<=f.iX/\f.iX<40:=by
        intro l;induction l with
        |nil=>intro t _ _ _ f b;cases b
        |cons g l ih=>
          intro t B k e f b;rcases List.mem_cons.1 b with rfl|b
          · have:=e.2.1;omega
          · exact ih _ (by have:=k g zq3;omega) (fun z r=>k z (List.mem_cons_of_mem _ r)) e.2.2 f b
      have:=i s.frames 1 V d.regs h.frames f b;omega
    unfold frP at a;rcases List.mem_cons.1 a with rfl|a
    · omega
    rcases List.mem_cons.1 a with rfl|a
    · omega
    rcases List.mem_cons.1 a with rfl|a
    · exact j
    · exact row_b g.vals n (d.regs f b) x a
  · rcases List.mem_cons.1 a with rfl|a
    · omega
    · obtain⟨c,m,a⟩:=List.mem_flatMap.1 a;exact row_b (h.cells.2 c m).2 n (by have:=d.fields c m;omega) x a
theorem img_b{p:List dn}(hp:PD p){l:List Int}{s:LX.State}(h:Img p l s):(∀x∈l,ko x)/\1<=l.length/\l.length<=1200:=by
 rw[h.eq];have:=pack_len<|h.st.small hp;refine⟨pack_b hp h.st,?_,by omega⟩;unfold Kw;simp
def rD(i:Int)(l:List Co):Option Co:=l.find? fun x=>decide (x.lF=i)
theorem Q6{i:Int}{l:List Co}{c:Co}(h:rD i l=some c):c.lF=i/\c∈l:=by
 have a:=List.find?_some h;exact⟨by simpa using a,List.mem_of_find?_eq_some h⟩
theorem Df{c:Co}{i:Int}:∀{l:List Co},(∀x∈l,x.lF≠c.lF)->rD i (EZ c l)=if i=c.lF then some c else rD i l
  |[],_=>by
    unfold EZ rD;rw[List.find?_cons];by_cases h:i=c.lF
    · rw[if_pos h,dT h.symm]
    · rw[if_neg h,dF (fun e=>h e.symm)]
  |x::r,hx=>by
    unfold EZ;by_cases a:x.lF<c.lF
    · rw[if_pos a];have b:=Df (c:=c) (i:=i) (l:=r) fun y d=>hx y<|List.mem_cons_of_mem _ d;unfold rD at b⊢;rw[List.find?_cons,List.find?_cons,b];by_cases h:x.lF=i
      · rw[dT h];show some x=_;rw[if_neg (by have:=hx x zq3;omega)]
      · rw[dF h]
    · rw[if_neg a];unfold rD;rw[List.find?_cons];by_cases h:i=c.lF
      · rw[if_pos h,dT h.symm]
      · rw[if_neg h,dF (fun e=>h e.symm)]
theorem Fq{b:Rec}{i:Int}:∀{l:List Co},rD i (KN b l)=if i=b.co then none else rD i l
  |[]=>by simp[rD,KN]
  |x::r=>by
    have c:=Fq (b:=b) (i:=i) (l:=r);unfold rD KN at c⊢;rw[List.filter_cons];by_cases h:x.lF=b.co
    · rw[dF V];simp only[Bool.false_eq_true,if_false];rw[c,List.find?_cons];by_cases a:i=b.co
      · rw[if_pos a,if_pos a]
      · rw[if_neg a,if_neg a,dF V]
    · rw[dT h];simp only[if_true];rw[List.find?_cons,List.find?_cons,c];by_cases a:x.lF=i
      · rw[dT a];show some x=_;rw[if_neg V]
      · rw[dF a]
inductive Did (r:Rec) (o n:Option Co):Prop
 |begin (h:r.kind=1/\r.aM=1) (ho:o=none) (hn:n=some ⟨r.co,r.aM,r.image,-1⟩)
 |take (h:r.kind=4/\r.aM≠1) (ho:o=none) (hn:n=some ⟨r.co,r.aM,r.image,-1⟩)
 |slice (c:Co) (h:r.kind=2) (ho:o=some c) (he:c.aM=r.aM) (hf:c.offered= -1) (hn:n=some ⟨c.lF,c.aM,r.image,-1⟩)
 |offer (c:Co) (h:r.kind=3) (ho:o=some c) (he:c.aM=r.aM) (hf:c.offered= -1) (hx:c.aM≠100) (hn:n=some ⟨c.lF,c.aM,c.image,r.place⟩)
 |gone (c:Co) (h:r.kind=5) (ho:o=some c) (he:c.aM=r.aM) (hf:c.offered≠ -1) (hn:n=none)
theorem TL{a:List Co}{r:Rec}(h:(nW a r).2=0):(∀i,i≠r.co->rD i (nW a r).1=rD i a)/\Did r (rD r.co a) (rD r.co (nW a r).1)/\iy r=0:=by
  have v:=(next_ok a r h).1;unfold nW at h⊢;by_cases q:iA a=0
  · by_cases o:iy r=0
    · have gr:=Zr r o;rw[if_neg (by simpa using q),if_neg (by simpa using o)]at h⊢;have l:∀x∈KN r a,x.lF≠r.co:=fun x m=>(UW m).2;have u:PH r a=rD r.co a:=rfl;cases e:PH r a with
      |none=>
        rw[e]at h;rw[u]at e;simp only at h⊢;by_cases f:r.kind=1\/r.kind=4
        · rw[if_pos f]at h⊢;by_cases k:(decide (r.aM=1) !=decide (r.kind=1))=true
          · rw[if_pos k]at h;simp at h
          · rw[if_neg k];simp only;refine⟨fun i j=>?_,?_,o⟩
            · rw[Df l,if_neg j,Fq,if_neg j]
            · rw[Df l,if_pos rfl,e];rcases f with f|f
              · refine .begin ⟨f,?_⟩ Z Z;by_cases g:r.aM=1
                · exact g
                · exact absurd (by simp[f,g]) k
              · refine .take ⟨f,?_⟩ Z Z;intro g;exact absurd (by simp[f,g]) k
        · rw[if_neg f]at h;simp at h
      |some c=>
        rw[e]at h;rw[u]at e;obtain⟨d,w⟩:=Q6 e;simp only at h⊢;by_cases f:r.kind=1\/r.kind=4
        · rw[if_pos f]at h;simp at h
        · rw[if_neg f]at h⊢;by_cases k:(decide (r.aM≠c.aM)||(decide (c.offered≠ -1) !=decide (r.kind=5)))=true
          · rw[if_pos k]at h;simp at h
          · rw[if_neg k]at h⊢;have g:c.aM=r.aM:=by
              by_cases g:r.aM=c.aM
              · exact g.symm
              · exact absurd (by simp[g]) k
            by_cases p:r.kind=5
            · rw[if_pos p];simp only;refine⟨fun i j=>by rw[Fq,if_neg j],?_,o⟩;rw[Fq,if_pos rfl,e];refine .gone c p Z g ?_ Z;intro n;exact absurd (by simp[p,n]) k
            · have n:c.offered= -1:=by
                by_cases n:c.offered= -1
                · exact n
                · exact absurd (by simp[p,n]) k
              rw[if_neg p]at h⊢;by_cases t:r.kind=2
              · rw[if_pos t];simp only;have b:∀x∈KN r a,x.lF≠(⟨c.lF,c.aM,r.image,c.offered⟩:Co).lF:=fun x m=>by simp only[d];exact l x m
                refine⟨fun i j=>?_,?_,o⟩
                · rw[Df b,if_neg (by simp only[d];exact j),Fq,if_neg j]
                · rw[Df b,if_pos (by simp only[d]),e];exact .slice c t Z g n (by rw[n])
              · rw[if_neg t]at h⊢;by_cases m:c.aM=100
                · rw[if_pos m]at h;simp at h
                · rw[if_neg m];simp only;have s:r.kind=3:=by have:=gr.kind;omega
                  have b:∀x∈KN r a,x.lF≠(⟨c.lF,c.aM,c.image,r.place⟩:Co).lF:=fun x m=>by simp only[d];exact l x m
                  refine⟨fun i j=>?_,?_,o⟩
                  · rw[Df b,if_neg (by simp only[d];exact j),Fq,if_neg j]
                  · rw[Df b,if_pos (by simp only[d]),e];exact .offer c s Z g n m Z
    · rw[if_neg (by simpa using q),if_pos o]at h;exact absurd h o
  · rw[if_pos q]at h;exact absurd h q
end Pw
open Go Go.Proofs Go.LX
namespace Pw
open Dk
structure MF where
 cos:List Co
 d:gN
 up:Bool
deriving DecidableEq
structure BX where
 prog:List dn
 places:List MF
 bE:List il
structure Hap where
 kind:Int
 place:Int
 co:Int
 n:Int
def TM(m:il):Prop:=(0<=m.from_/\m.from_<=2)/\(0<=m.iX/\m.iX<=2)/\(0<=m.co/\m.co<=2)/\(2<=m.aM/\m.aM<=100)/\(m.taken=true↔m.image=[])/\m.image.length<=1200
theorem Zu:∀l:List il,each yB BA l ()=0↔∀m∈l,TM m
  |[]=>by simp[sI,BA]
  |m::l=>by
    have g:=Zu l;rw[iM];generalize each yB BA l=K at g⊢;unfold yB;by_cases c:(0<=m.from_/\m.from_<=2)/\(0<=m.iX/\m.iX<=2)/\(0<=m.co/\m.co<=2)/\(2<=m.aM/\m.aM<=100)
    · rw[show(((((((decide ((m.from_:Int)<0)||decide ((3:Int)<=m.from_))||decide ((m.iX:Int)<0))||decide ((3:Int)<=m.iX))||decide ((m.co:Int)<0))||decide ((3:Int)<=m.co))||decide ((m.aM:Int)<2))||decide ((100:Int)<m.aM))=false by
        simp only[Bool.or_eq_false_iff,decide_eq_false_iff_not];omega,cond_false]
      by_cases b:(m.taken=true↔m.image=[])/\m.image.length<=1200
      · rw[show((m.taken !=decide (((m.image.length:Int):Int)=0))||decide ((1200:Int)<(m.image.length:Int)))=false by
          rw[dF (show¬(1200:Int)<(m.image.length:Int) by have:=b.2;omega),Bool.or_false];by_cases a:m.image=[]
          · rw[b.1.2 a,a];simp
          · have:m.taken=false:=by
              cases e:m.taken with
              |false=>rfl
              |true=>exact absurd (b.1.1 e) a
            rw[this,dF (fun h=>a (List.eq_nil_of_length_eq_zero V))];rfl,cond_false,g]
        constructor
        · intro h x d;rcases List.mem_cons.1 d with rfl|d
          · exact⟨c.1,c.2.1,c.2.2.1,c.2.2.2,b⟩
          · exact h x d
        · exact fun h x d=>h x<|List.mem_cons_of_mem _ d
      · rw[show((m.taken !=decide (((m.image.length:Int):Int)=0))||decide ((1200:Int)<(m.image.length:Int)))=true by
          by_cases f:m.image.length<=1200
          · rw[dF (show¬(1200:Int)<(m.image.length:Int) by omega),Bool.or_false];by_cases a:m.image=[]
            · cases e:m.taken with
              |true=>exact absurd ⟨⟨fun _=>a,fun _=>e⟩,f⟩ b
              |false=>rw[a];simp
            · cases e:m.taken with
              |true=>rw[dF (fun h=>a (List.eq_nil_of_length_eq_zero V))];rfl
              |false=>exact absurd ⟨⟨fun h=>(Bool.false_ne_true (e.symm.trans h)).elim,fun h=>absurd h a⟩,f⟩ b
          · rw[dT (show(1200:Int)<(m.image.length:Int) by omega),Bool.or_true],cond_true]
        constructor
        · intro h;simp at h
        · intro h;exact absurd (h m zq3).2.2.2.2 b
    · rw[show(((((((decide ((m.from_:Int)<0)||decide ((3:Int)<=m.from_))||decide ((m.iX:Int)<0))||decide ((3:Int)<=m.iX))||decide ((m.co:Int)<0))||decide ((3:Int)<=m.co))||decide ((m.aM:Int)<2))||decide ((100:Int)<m.aM))=true by
        simp only[Bool.or_eq_true,decide_eq_true_eq];omega,cond_true]
      constructor
      · intro h;simp at h
      · intro h;have:=h m zq3;exact absurd ⟨this.1,this.2.1,this.2.2.1,this.2.2.2.1⟩ c
theorem Jp(l:List il):dL l=0↔l.length<=40/\∀m∈l,TM m:=by
  unfold dL;by_cases h:l.length<=40
  · rw[dF V,cond_false,Zu];exact⟨fun x=>⟨h,x⟩,fun x=>x.2⟩
  · rw[dT V,cond_true];exact⟨fun x=>by simp at x,fun x=>absurd x.1 h⟩
def Yd(p:List dn):List Co->Int
 |[]=>0
 |c::l=>if(fG p c.image).2≠0 then(fG p c.image).2 else Yd p l
theorem imgs_iff(p:List dn):∀l,Yd p l=0↔∀c∈l,(fG p c.image).2=0
  |[]=>by simp[Yd]
  |c::l=>by
    unfold Yd;by_cases h:(fG p c.image).2=0
    · rw[if_neg V,imgs_iff p l];simp[h]
    · rw[if_pos h];simp[h]
def zw(p:List dn)(x:MF):Int:=
 if kC x.d≠0 then kC x.d else if x.up=false then(if x.cos=[]then 0 else 4)else if x.d.wait≠[]then 4 else
 if(wU [] (uk x.d)).2≠0 then(wU [] (uk x.d)).2 else if(wU [] (uk x.d)).1≠x.cos then 4 else Yd p x.cos
structure PlR(p:List dn)(x:MF):Prop where
 disk:kC x.d=0
 down:x.up=false->x.cos=[]
 wait:x.up=true->x.d.wait=[]
 cos:x.up=true->wU [] (uk x.d)=(x.cos,0)
 img:∀c∈x.cos,(fG p c.image).2=0
theorem plc_iff(p:List dn)(x:MF):zw p x=0↔PlR p x:=by
  unfold zw;by_cases b:kC x.d=0
  · rw[if_neg V];cases hu:x.up with
    |false=>
      simp only[if_true];by_cases a:x.cos=[]
      · rw[if_pos a];exact⟨fun _=>⟨b,fun _=>a,fun h=>(by rw[hu]at h;cases h),fun h=>(by rw[hu]at h;cases h),by rw[a];simp⟩,fun _=>rfl⟩
      · rw[if_neg a];exact⟨fun h=>by simp at h,fun h=>absurd (h.down hu) a⟩
    |true=>
      simp only[Bool.true_eq_false,if_false];by_cases a:x.d.wait=[]
      · rw[if_neg (by simpa using a)];by_cases c:(wU [] (uk x.d)).2=0
        · rw[if_neg V];by_cases e:(wU [] (uk x.d)).1=x.cos
          · rw[if_neg (by simpa using e),imgs_iff];exact⟨fun h=>⟨b,fun h=>(by rw[hu]at h;cases h),fun _=>a,fun _=>by rw[<-e,<-c],h⟩,fun h=>h.img⟩
          · rw[if_pos e];exact⟨fun h=>by simp at h,fun h=>absurd (by rw[h.cos hu]) e⟩
        · rw[if_pos c];exact⟨fun h=>absurd h c,fun h=>absurd (by rw[h.cos hu]) c⟩
      · rw[if_pos a];exact⟨fun h=>by simp at h,fun h=>absurd (h.wait hu) a⟩
  · rw[if_pos b];exact⟨fun h=>absurd h b,fun h=>absurd h.disk b⟩
def MG(p:List dn):List MF->Int
 |[]=>0
 |x::l=>if zw p x≠0 then zw p x else MG p l
theorem XC(p:List dn):∀l,MG p l=0↔∀x∈l,PlR p x
  |[]=>by simp[MG]
  |x::l=>by
    unfold MG;by_cases h:zw p x=0
    · rw[if_neg V,XC p l];have:=(plc_iff p x).1 h;simp[this]
    · rw[if_pos h];exact⟨fun a=>absurd a h,fun a=>absurd ((plc_iff p x).2<|a x zq3) h⟩
def Ky(p:List dn):List il->Int
 |[]=>0
 |m::l=>if m.taken=true then Ky p l else if(fG p m.image).2≠0 then(fG p m.image).2 else Ky p l
theorem TN(p:List dn):∀l,Ky p l=0↔∀m∈l,m.taken=false->(fG p m.image).2=0
  |[]=>by simp[Ky]
  |m::l=>by
    unfold Ky;by_cases a:m.taken=true
    · rw[if_pos a,TN p l];simp[a]
    · rw[if_neg a];have b:m.taken=false:=by simpa using a
      by_cases h:(fG p m.image).2=0
      · rw[if_neg V,TN p l];simp[h]
      · rw[if_pos h];simp[h,b]
def Gq(w:BX):Int:=
 if chk w.prog≠0 then chk w.prog else if w.places.length≠3 then 4 else if dL w.bE≠0 then dL w.bE else
 if MG w.prog w.places≠0 then MG w.prog w.places else Ky w.prog w.bE
structure WR(w:BX):Prop where
 code:chk w.prog=0
 many:w.places.length=3
 UB:w.bE.length<=40
 mok:∀m∈w.bE,TM m
 pl:∀x∈w.places,PlR w.prog x
 mimg:∀m∈w.bE,m.taken=false->(fG w.prog m.image).2=0
theorem w_iff(w:BX):Gq w=0↔WR w:=by
  unfold Gq;by_cases b:chk w.prog=0
  · rw[if_neg V];by_cases e:w.places.length=3
    · rw[if_neg V];by_cases c:dL w.bE=0
      · rw[if_neg V];by_cases d:MG w.prog w.places=0
        · rw[if_neg V,TN];have a:=(Jp _).1 c;exact⟨fun h=>⟨b,e,a.1,a.2,(XC _ _).1 d,h⟩,fun h=>h.mimg⟩
        · rw[if_pos d];exact⟨fun h=>absurd h d,fun h=>absurd ((XC _ _).2 h.pl) d⟩
      · rw[if_pos c];exact⟨fun h=>absurd h c,fun h=>absurd ((Jp _).2 ⟨h.UB,h.mok⟩) c⟩
    · rw[if_pos e];exact⟨fun h=>by simp at h,fun h=>absurd h.many e⟩
  · rw[if_pos b];exact⟨fun h=>absurd h b,fun h=>absurd h.code b⟩
def zP:MF:=⟨[],zD,false⟩
def mE(w:BX)(k:Int):MF:=(idx w.places k).getD zP
def E5(w:BX)(k:Int)(x:MF):BX:=⟨w.prog,w.places.set k.toNat x,w.bE⟩
def uh(x:MF)(r:Rec):MF×Int:=
 if(nW x.cos r).2≠0 then(x,(nW x.cos r).2)else if(AQ x.d r).2≠0 then(x,(AQ x.d r).2)else
 if(Gn (AQ x.d r).1).2≠0 then(x,(Gn (AQ x.d r).1).2)else(⟨(nW x.cos r).1,(Gn (AQ x.d r).1).1,x.up⟩,0)
def tearP(x:MF)(r:Rec)(keep:Int):MF×Int:=
 if(nW x.cos r).2≠0 then(x,(nW x.cos r).2)else if(AQ x.d r).2≠0 then(x,(AQ x.d r).2)else
 (⟨[],(dCrash (AQ x.d r).1 (max 0 (min keep ((AQ x.d r).1.wait.length:Int)))).1,false⟩,0)
def BZ(l:List il)(m:il):List il:=if dL l≠0\/dL [m]≠0 then l else if l.length<40 then l++[m]else l
def sliceP(p:List dn)(k:Int)(c:Co)(fuel:Int):Rec×Int:=
 if 0<=c.offered then(⟨2,c.lF,c.aM,0,[],[]⟩,7)else
 if(fG p c.image).2≠0 then(⟨2,c.lF,c.aM,0,[],[]⟩,(fG p c.image).2)else
 if(fG p c.image).1.status=3/\0<=(fG p c.image).1.bZ/\(fG p c.image).1.bZ<3/\(fG p c.image).1.bZ≠k then(⟨3,c.lF,c.aM,(fG p c.image).1.bZ,[],[]⟩,0)else
 if(wake (fG p c.image).1).status≠0 then(⟨2,c.lF,c.aM,0,[],[]⟩,7)else
 (⟨2,c.lF,c.aM,0,(runP p fuel.toNat [] 0 (wake (fG p c.image).1)).2.1,Kw (Gm (runP p fuel.toNat [] 0 (wake (fG p c.image).1)).1)⟩,0)
def offerM(k:Int)(c:Co):il:=⟨k,c.offered,c.lF,c.aM+1,false,c.image⟩
def runW(w:BX)(x:Hap):BX×Int:=
 match rD x.co (mE w x.place).cos with
 |none=>(w,5)
 |some c=>
  let fuel:=if x.kind=9 then 2000 else x.n
  if fuel<1\/2000<fuel then(w,3)else
  let q:=sliceP w.prog x.place c fuel
  if q.2≠0 then(w,q.2)else
  if x.kind=9 then(E5 w x.place (tearP (mE w x.place) q.1 x.n).1,(tearP (mE w x.place) q.1 x.n).2)else
  if(uh (mE w x.place) q.1).2≠0 then(w,(uh (mE w x.place) q.1).2)else
  let v:=E5 w x.place (uh (mE w x.place) q.1).1
  if q.1.kind=3 then(⟨v.prog,v.places,BZ v.bE (offerM x.place ⟨c.lF,c.aM,c.image,q.1.place⟩)⟩,0)else(v,0)
def resendW(w:BX)(x:Hap):BX×Int:=
 match rD x.co (mE w x.place).cos with
 |none=>(w,5)
 |some c=>if c.offered<0 then(w,7)else(⟨w.prog,w.places,BZ w.bE (offerM x.place c)⟩,0)
def beginW(w:BX)(k i:Int):BX×Int:=
 if i≠k then(w,5)else if(uk (mE w k).d).any (fun r=>decide (r.kind=1))then(w,6)else
 let r:Rec:=⟨1,i,1,0,[],Kw (Gm (begin0 w.prog))⟩
 (E5 w k (uh (mE w k) r).1,(uh (mE w k) r).2)
def UC(x:MF)(i e:Int):Bool:=(uk x.d).any fun r=>decide (r.kind=4)&&decide (r.co=i)&&decide (e<=r.aM)
def AJ(w:BX)(i:Int)(twice:Bool):BX×Int:=
 if i<0\/(w.bE.length:Int)<=i then(w,5)else
 let m:=(w.bE[i.toNat]?).getD Q5
 if(mE w m.iX).up=false then(w,7)else
 let v:BX:=⟨w.prog,w.places,if twice then w.bE else w.bE.take i.toNat++w.bE.drop (i.toNat+1)⟩
 if m.taken then
  match rD m.co (mE v m.iX).cos with
  |none=>(v,0)
  |some c=>if c.aM≠m.aM-1\/c.offered≠m.from_ then(v,0)else
   (E5 v m.iX (uh (mE v m.iX) ⟨5,m.co,m.aM-1,0,[],[]⟩).1,(uh (mE v m.iX) ⟨5,m.co,m.aM-1,0,[],[]⟩).2)
 else
  let a:il:=⟨m.iX,m.from_,m.co,m.aM,true,[]⟩
  if UC (mE v m.iX) m.co m.aM then(⟨v.prog,v.places,BZ v.bE a⟩,0)else
  let r:Rec:=⟨4,m.co,m.aM,0,[],m.image⟩
  if(uh (mE v m.iX) r).2≠0 then(v,(uh (mE v m.iX) r).2)else
  let u:=E5 v m.iX (uh (mE v m.iX) r).1
  (⟨u.prog,u.places,BZ u.bE a⟩,0)
def bootW(w:BX)(k:Int):BX×Int:=
 if(mE w k).up=true then(w,7)else
 if(wU [] (uk (mE w k).d)).2≠0 then(w,(wU [] (uk (mE w k).d)).2)else
 if Yd w.prog (wU [] (uk (mE w k).d)).1≠0 then(w,Yd w.prog (wU [] (uk (mE w k).d)).1)else
 (E5 w k ⟨(wU [] (uk (mE w k).d)).1,(recT (mE w k).d).1,true⟩,0)
def stepWld(w:BX)(x:Hap):BX×Int:=
 if x.kind=4\/x.kind=5 then AJ w x.n (decide (x.kind=5))else
 if x.kind=6 then(if x.n<0\/(w.bE.length:Int)<=x.n then(w,5)else(⟨w.prog,w.places,w.bE.take x.n.toNat++w.bE.drop (x.n.toNat+1)⟩,0))else
 if x.kind<1\/9<x.kind then(w,4)else
 if x.place<0\/(w.places.length:Int)<=x.place then(w,5)else
 if x.kind=8 then bootW w x.place else
 if(mE w x.place).up=false then(w,7)else
 if x.kind=1 then beginW w x.place x.co else
 if x.kind=3 then resendW w x else
 if x.kind=7 then(E5 w x.place ⟨[],(mE w x.place).d,false⟩,0)else runW w x
end Pw
open Go Go.Proofs Go.LX
namespace Pw
open Dk
theorem Zv{l:List Co}(a:Up l){c:Co}(h:c∈l):rD c.lF l=some c:=by
  induction l with
  |nil=>cases h
  |cons x r ih=>
    rw[Up,List.pairwise_cons]at a;unfold rD;rw[List.find?_cons];rcases List.mem_cons.1 h with rfl|h
    · rw[dT rfl]
    · have:=a.1 c h;rw[dF V];exact ih a.2 h
theorem good0:Dk.Good []:=⟨by simp,fun x h=>(by cases h),List.Pairwise.nil⟩
def Off(l:List Co):Prop:=∀c∈l,c.offered≠ -1->c.aM≠100
theorem rep_good:∀(l:List Rec) (s:List Co),Dk.Good s->Off s->(wU s l).2=0->Dk.Good (wU s l).1/\Off (wU s l).1
  |[],s,h,ho,_=>⟨h,ho⟩
  |r::l,s,h,ho,e=>by
    unfold wU at e⊢;by_cases a:(nW s r).2=0
    · rw[if_neg V]at e⊢;have d:=(next_ok s r a).2.1;obtain⟨k1,k2,-⟩:=TL a;refine rep_good l _ d ?_ e;intro c g;have b:=Zv d.up g;by_cases f:c.lF=r.co
      · rw[f]at b;rw[b]at k2;rcases k2 with⟨_,_,hn⟩|⟨_,_,hn⟩|⟨c0,_,_,_,_,hn⟩|⟨c0,_,_,_,_,hx,hn⟩|⟨_,_,_,_,_,hn⟩
        · cases hn;exact fun h=>absurd Z h
        · cases hn;exact fun h=>absurd Z h
        · cases hn;exact fun h=>absurd Z h
        · cases hn;exact fun _=>hx
        · cases hn
      · rw[k1 _ f]at b;exact ho c (Q6 b).2
    · rw[if_pos a]at e;exact absurd e a
theorem PlR.good{p:List dn}{x:MF}(h:PlR p x):Dk.Good x.cos/\Off x.cos:=by
 cases hu:x.up with
 |true=>
  have e:=h.cos hu;have:=rep_good (uk x.d) [] good0 (fun c a=>by cases a) (by rw[e]);rw[e]at this;exact this
 |false=>rw[h.down hu];exact⟨good0,fun c a=>by cases a⟩
structure Noted(p:List dn)(x x':MF)(r:Rec):Prop where
 pl:PlR p x'
 up:x'.up=true
 slog:KJ x'.d=KJ x.d++[r]
 flog:uk x'.d=uk x.d++[r]
 fs:uk x.d=KJ x.d
 cos:x'.cos=(nW x.cos r).1
 ok:(nW x.cos r).2=0
theorem rep_snoc{l:List Rec}{r:Rec}{s a:List Co}(h:wU s l=(a,0)):wU s (l++[r])=if(nW a r).2≠0 then([],(nW a r).2)else((nW a r).1,0):=by
  rw[pRep_app,h];simp only;rw[if_neg zq3];unfold wU;by_cases h:(nW a r).2=0
  · rw[if_neg V,if_neg V];rfl
  · rw[if_pos h,if_pos h]
theorem next_img{p:List dn}{a:List Co}{r:Rec}(b:(nW a r).2=0)(f:∀c∈a,(fG p c.image).2=0)(e:(r.kind=1\/r.kind=2\/r.kind=4)->(fG p r.image).2=0):∀c∈(nW a r).1,(fG p c.image).2=0:=by
  intro c h;have i:=(next_ok a r b).2.1;obtain⟨k1,k2,-⟩:=TL b;have d:=Zv i.up h;by_cases g:c.lF=r.co
  · rw[g]at d;rw[d]at k2;rcases k2 with⟨hk,_,hn⟩|⟨hk,_,hn⟩|⟨c0,hk,_,_,_,hn⟩|⟨c0,_,ho,_,_,hx,hn⟩|⟨_,_,_,_,_,hn⟩
    · cases hn;exact e (.inl hk.1)
    · cases hn;exact e (.inr<|.inr hk.1)
    · cases hn;exact e (.inr<|.inl hk)
    · cases hn;exact f c0 (Q6 ho).2
    · cases hn
  · rw[k1 _ g]at d;exact f c (Q6 d).2
theorem UX{p:List dn}{x x':MF}{r:Rec}(h:PlR p x)(c:x.up=true)(w:TI r)(m:(r.kind=1\/r.kind=2\/r.kind=4)->(fG p r.image).2=0)(e:uh x r=(x',0)):Noted p x x' r:=by
  unfold uh at e;by_cases f:(nW x.cos r).2=0
  · rw[if_neg V]at e;by_cases g:(AQ x.d r).2=0
    · rw[if_neg V]at e;by_cases i:(Gn (AQ x.d r).1).2=0
      · rw[if_neg V]at e;obtain rfl:=congrArg Prod.fst e;have b:=h.disk;have q:=dOk b;have j:=h.wait c;obtain⟨s,o,n,l,k,t⟩:=note_disk b j w (d1:=(AQ x.d r).1) (d2:=(Gn (AQ x.d r).1).1) (by rw[<-g]) (by rw[<-i]);have a:=q.still j;refine⟨⟨n,fun b=>(by simp only[c]at b;cases b),fun _=>(by rw[o]),fun _=>?_,next_img f h.img m⟩,c,l,by rw[k,a],a,Z,f⟩;simp only;rw[k,<-a,rep_snoc (h.cos c),if_neg V]
      · rw[if_pos i]at e;exact absurd (congrArg Prod.snd e) i
    · rw[if_pos g]at e;exact absurd (congrArg Prod.snd e) g
  · rw[if_pos f]at e;exact absurd (congrArg Prod.snd e) f
structure Torn(p:List dn)(x x':MF)(r:Rec):Prop where
 pl:PlR p x'
 down:x'.up=false
 slog:KJ x'.d=KJ x.d
 flog:uk x'.d=uk x.d\/uk x'.d=uk x.d++[r]
 fs:uk x.d=KJ x.d
 ok:(nW x.cos r).2=0
theorem pAt_eq{w:BX}{k:Int}(h:0<=k/\k<w.places.length):idx w.places k=some (mE w k)/\mE w k∈w.places/\w.places[k.toNat]? =some (mE w k):=by
 obtain⟨n,rfl⟩:=Int.eq_ofNat_of_zero_le h.1;have hn:n<w.places.length:=by omega
 have e:idx w.places (n:Int)=some w.places[n]:=Cu hn;unfold mE;rw[e];exact⟨Z,List.getElem_mem hn,by simp[hn]⟩
theorem pAt_set{w:BX}{k j:Int}(x:MF)(b:0<=k/\k<w.places.length)(a:0<=j/\j<w.places.length):mE (E5 w k x) j=if j=k then x else mE w j:=by
  obtain⟨n,rfl⟩:=Int.eq_ofNat_of_zero_le b.1;obtain⟨m,rfl⟩:=Int.eq_ofNat_of_zero_le a.1;unfold mE E5;rw[nM,nM,Int.toNat_natCast,List.getElem?_set];by_cases h:n=m
  · subst h;rw[if_pos rfl,if_pos V,if_pos rfl];rfl
  · rw[if_neg h,if_neg V]
theorem WR.at{w:BX}(h:WR w){k:Int}(a:0<=k/\k<=2):PlR w.prog (mE w k):=h.pl _ (pAt_eq ⟨a.1,by have:=h.many;omega⟩).2.1
theorem WR.set{w:BX}(h:WR w){k:Int}{x:MF}(hx:PlR w.prog x):WR (E5 w k x) where
  code:=h.code
  many:=by show(w.places.set k.toNat x).length=3;rw[List.length_set];exact h.many
  UB:=h.UB
  mok:=h.mok
  pl:=fun y hy=>by
    rcases List.mem_or_eq_of_mem_set hy with hy|rfl
    · exact h.pl y hy
    · exact hx
  mimg:=h.mimg
theorem WR.Ky{w:BX}(h:WR w){l:List il}(c:l.length<=40)(b:∀m∈l,TM m/\(m.taken=false->(fG w.prog m.image).2=0)):WR ⟨w.prog,w.places,l⟩:=
 ⟨h.code,h.many,c,fun m a=>(b m a).1,h.pl,fun m a=>(b m a).2⟩
instance:DecidablePred TM:=fun m=>by unfold TM;infer_instance
theorem XD{w:BX}(h:WR w)(m:il):BZ w.bE m=if TM m/\w.bE.length<40 then w.bE++[m]else w.bE:=by
  unfold BZ;have e:dL w.bE=0:=(Jp _).2 ⟨h.UB,h.mok⟩;by_cases b:TM m
  · have c:dL [m]=0:=(Jp _).2 ⟨by simp,fun x d=>by rw[List.mem_singleton]at d;rw[d];exact b⟩;rw[if_neg V];by_cases a:w.bE.length<40
    · rw[if_pos a,if_pos ⟨b,a⟩]
    · rw[if_neg a,if_neg (fun h=>a h.2)]
  · have c:dL [m]≠0:=fun h=>b (((Jp _).1 h).2 m zq3);rw[if_pos (.inr c),if_neg (fun h=>b h.1)]
theorem WR.send{w:BX}(h:WR w){m:il}(c:m.taken=false->(fG w.prog m.image).2=0):WR ⟨w.prog,w.places,BZ w.bE m⟩:=by
  rw[XD h];by_cases b:TM m/\w.bE.length<40
  · rw[if_pos b];refine h.Ky (by simp;omega) (fun x a=>?_);rcases List.mem_append.1 a with a|a
    · exact⟨h.mok x a,h.mimg x a⟩
    · rw[List.mem_singleton]at a;subst a;exact⟨b.1,c⟩
  · rw[if_neg b];exact h.Ky h.UB (fun x a=>⟨h.mok x a,h.mimg x a⟩)
theorem WR.drop{w:BX}(h:WR w)(n:Nat):WR ⟨w.prog,w.places,w.bE.take n++w.bE.drop (n+1)⟩:=by
 refine h.Ky (by have:=h.UB;simp;omega) (fun x a=>?_);have:x∈w.bE:=(List.mem_append.1 a).elim List.mem_of_mem_take List.mem_of_mem_drop;exact⟨h.mok x this,h.mimg x this⟩
theorem Nh{k c e a:Int}{s i:List Int}(f:1<=k/\k<=5)(j:0<=c/\c<=2)(g:0<=e/\e<=100)(h:0<=a/\a<=2)(d:∀x∈s,ko x)(b:∀x∈i,ko x):TI ⟨k,c,e,a,s,i⟩:=
 ⟨Km (by simp only;omega),Km (by simp only;omega),Km (by simp only;omega),Km (by simp only;omega),d,b⟩
structure Sliced(p:List dn)(k:Int)(c:Co)(fuel:Int)(r:Rec):Prop where
 w:TI r
 co:r.co=c.lF
 aM:r.aM=c.aM
 runs:c.offered= -1
 how:(r.kind=2/\r.place=0/\(wake (fG p c.image).1).status=0/\r.says=(runP p fuel.toNat [] 0 (wake (fG p c.image).1)).2.1/\r.image=Kw (Gm (runP p fuel.toNat [] 0 (wake (fG p c.image).1)).1)/\(fG p r.image).2=0)\/(r.kind=3/\(0<=r.place/\r.place<=2)/\r.place≠k/\r.says=[]/\r.image=[])
 img:Img p c.image (fG p c.image).1
end Pw
open Go Go.Proofs Go.LX
namespace Pw
open Dk
def TP(m:il):il:=⟨m.iX,m.from_,m.co,m.aM,true,[]⟩
def beginR(p:List dn)(k:Int):Rec:=⟨1,k,1,0,[],Kw (Gm (begin0 p))⟩
inductive Ev (w w':BX):Prop
 |begin (k:Int) (x':MF) (hk:0<=k/\k<=2) (up:(mE w k).up=true) (hno:∀r∈uk (mE w k).d,r.kind≠1) (N:Noted w.prog (mE w k) x' (beginR w.prog k)) (hp:w'.places=w.places.set k.toNat x') (hm:w'.bE=w.bE)
 |run (k:Int) (c:Co) (fuel:Int) (r:Rec) (x':MF) (hk:0<=k/\k<=2) (up:(mE w k).up=true) (hc:rD c.lF (mE w k).cos=some c) (hf:1<=fuel/\fuel<=2000) (S:Sliced w.prog k c fuel r) (N:Noted w.prog (mE w k) x' r) (hp:w'.places=w.places.set k.toNat x') (hm:w'.bE=if r.kind=3 then BZ w.bE (offerM k ⟨c.lF,c.aM,c.image,r.place⟩)else w.bE)
 |tear (k:Int) (c:Co) (r:Rec) (x':MF) (hk:0<=k/\k<=2) (up:(mE w k).up=true) (hc:rD c.lF (mE w k).cos=some c) (S:Sliced w.prog k c 2000 r) (T:Torn w.prog (mE w k) x' r) (hp:w'.places=w.places.set k.toNat x') (hm:w'.bE=w.bE)
 |send (k:Int) (c:Co) (hk:0<=k/\k<=2) (up:(mE w k).up=true) (hc:rD c.lF (mE w k).cos=some c) (ho:0<=c.offered) (hp:w'.places=w.places) (hm:w'.bE=BZ w.bE (offerM k c))
 |gone (m:il) (c:Co) (x':MF) (hi:m∈w.bE) (ht:m.taken=true) (up:(mE w m.iX).up=true) (hc:rD m.co (mE w m.iX).cos=some c) (he:c.aM=m.aM-1) (ho:c.offered=m.from_) (N:Noted w.prog (mE w m.iX) x' ⟨5,m.co,m.aM-1,0,[],[]⟩) (hp:w'.places=w.places.set m.iX.toNat x') (hm:∀y∈w'.bE,y∈w.bE)
 |take (m:il) (x':MF) (hi:m∈w.bE) (ht:m.taken=false) (up:(mE w m.iX).up=true) (hno:UC (mE w m.iX) m.co m.aM=false) (N:Noted w.prog (mE w m.iX) x' ⟨4,m.co,m.aM,0,[],m.image⟩) (hp:w'.places=w.places.set m.iX.toNat x') (hm:∀y∈w'.bE,y∈w.bE\/y=TP m)
 |again (m:il) (hi:m∈w.bE) (ht:m.taken=false) (up:(mE w m.iX).up=true) (had:UC (mE w m.iX) m.co m.aM=true) (hp:w'.places=w.places) (hm:∀y∈w'.bE,y∈w.bE\/y=TP m)
 |still (hp:w'.places=w.places) (hm:∀y∈w'.bE,y∈w.bE)
 |crash (k:Int) (hk:0<=k/\k<=2) (up:(mE w k).up=true) (hp:w'.places=w.places.set k.toNat ⟨[],(mE w k).d,false⟩) (hm:w'.bE=w.bE)
 |boot (k:Int) (hk:0<=k/\k<=2) (down:(mE w k).up=false) (ok:(wU [] (uk (mE w k).d)).2=0) (hp:w'.places=w.places.set k.toNat ⟨(wU [] (uk (mE w k).d)).1,(recT (mE w k).d).1,true⟩) (hm:w'.bE=w.bE)
theorem mem_send{w:BX}(h:WR w){m y:il}(a:y∈BZ w.bE m):y∈w.bE\/y=m:=by
  rw[XD h]at a;by_cases b:TM m/\w.bE.length<40
  · rw[if_pos b]at a;simpa using a
  · rw[if_neg b]at a;exact .inl a
theorem hear_ev{w w':BX}(h:WR w){i:Int}{t:Bool}(e:AJ w i t=(w',0)):WR w'/\w'.prog=w.prog/\Ev w w':=by
  unfold AJ at e;by_cases C:i<0\/(w.bE.length:Int)<=i
  · rw[if_pos C]at e;simp at e
  · rw[if_neg C]at e;obtain⟨n,rfl⟩:=Int.eq_ofNat_of_zero_le (by omega:0<=i);have hn:n<w.bE.length:=by omega
    have I:(w.bE[n]?).getD Q5=w.bE[n]:=by rw[List.getElem?_eq_getElem hn];rfl
    simp only[Int.toNat_natCast]at e;simp only[I]at e;have a:w.bE[n]∈w.bE:=List.getElem_mem hn;generalize w.bE[n]=m at*;have d:=h.mok m a;by_cases v:(mE w m.iX).up=false
    · rw[if_pos v]at e;simp at e
    · rw[if_neg v]at e;have f:(mE w m.iX).up=true:=by simpa using v
      have o:WR ⟨w.prog,w.places,if t=true then w.bE else w.bE.take n++w.bE.drop (n+1)⟩:=by
        cases t with
        |true=>exact h
        |false=>exact h.drop n
      have b:∀y∈(if t=true then w.bE else w.bE.take n++w.bE.drop (n+1)),y∈w.bE:=by
        intro y p;cases t with
        |true=>exact p
        |false=>exact(List.mem_append.1 p).elim List.mem_of_mem_take List.mem_of_mem_drop
      generalize M:(if t=true then w.bE else w.bE.take n++w.bE.drop (n+1))=L at*;have z:∀k,mE (⟨w.prog,w.places,L⟩:BX) k=mE w k:=fun k=>rfl;simp only[z]at e;have hat:=h.at ⟨d.2.1.1,d.2.1.2⟩;cases ht:m.taken with
      |true=>
        rw[ht]at e;simp only[if_true]at e;cases hf:rD m.co (mE w m.iX).cos with
        |none=>
          rw[hf]at e;cases e;exact⟨o,Z,.still Z b⟩
        |some c=>
          rw[hf]at e;simp only at e;by_cases l:c.aM≠m.aM-1\/c.offered≠m.from_
          · rw[if_pos l]at e;cases e;exact⟨o,Z,.still Z b⟩
          · rw[if_neg l]at e;have G:=congrArg Prod.snd e;have E:=congrArg Prod.fst e;simp only at E G;have N:=UX (x':=(uh (mE w m.iX) ⟨5,m.co,m.aM-1,0,[],[]⟩).1) (r:=⟨5,m.co,m.aM-1,0,[],[]⟩) hat f (Nh V d.2.2.1 (by have:=d.2.2.2.1;omega) V (fun x q=>(by cases q)) (fun x q=>(by cases q))) (fun h=>by simp only at h;omega) (Prod.ext Z G);subst E;exact⟨o.set N.pl,Z,.gone m c _ a ht f hf V V N Z b⟩
      |false=>
        rw[ht]at e;simp only[Bool.false_eq_true,if_false]at e;have g:∀{u:BX},WR u->WR ⟨u.prog,u.places,BZ u.bE<|TP m⟩:=fun K=>K.send (fun h=>by cases h);by_cases l:UC (mE w m.iX) m.co m.aM=true
        · rw[if_pos l]at e;cases e;refine⟨g o,Z,.again m a ht f l Z fun y p=>?_⟩;exact(mem_send o p).imp (b y) id
        · rw[if_neg l]at e;have A:UC (mE w m.iX) m.co m.aM=false:=by simpa using l
          by_cases s:(uh (mE w m.iX) ⟨4,m.co,m.aM,0,[],m.image⟩).2=0
          · rw[if_neg V]at e;have j:=h.mimg m a ht;have J:=img_of h.code j;have N:=UX (x':=(uh (mE w m.iX) ⟨4,m.co,m.aM,0,[],m.image⟩).1) (r:=⟨4,m.co,m.aM,0,[],m.image⟩) hat f (Nh V d.2.2.1 (by have:=d.2.2.2.1;omega) V (fun x q=>(by cases q)) (img_b (QX h.code) J).1) (fun _=>j) (Prod.ext Z s);cases e;have B:=o.set (k:=m.iX) N.pl;refine⟨g B,Z,.take m _ a ht f A N Z fun y p=>?_⟩;exact(mem_send B p).imp (b y) id
          · rw[if_pos s]at e;exact absurd (congrArg Prod.snd e) s
end Pw
open Go Go.Proofs Go.LX
namespace Pw
open Dk
def On(k:Int):Prop:=0<=k/\k<=2
end Pw
open Go Go.Proofs Go.LX
namespace Pw
open Dk
theorem setP_self{w:BX}{k:Int}(h:0<=k/\k<w.places.length):E5 w k (mE w k)=w:=by
  have:=(pAt_eq h).2.2;unfold E5;have e:w.places.set k.toNat (mE w k)=w.places:=by
    apply List.ext_getElem?;intro i;rw[List.getElem?_set];by_cases a:k.toNat=i
    · subst a;rw[if_pos rfl,if_pos (List.getElem?_eq_some_iff.1 this).1,this]
    · rw[if_neg a]
  rw[e]
theorem Zw{w:BX}(h:WR w){m:il}(b:TM m):BZ w.bE (TP m)=if w.bE.length<40 then w.bE++[TP m]else w.bE:=by
  have c:TM (TP m):=⟨b.2.1,b.1,b.2.2.1,b.2.2.2.1,by simp[TP],by simp[TP]⟩;rw[XD h];by_cases a:w.bE.length<40
  · rw[if_pos ⟨c,a⟩,if_pos a]
  · rw[if_neg (fun x=>a x.2),if_neg a]
theorem twice{w x:BX}(h:WR w){n:Nat}(hn:n<w.bE.length)(e:AJ w n true=(x,0)):
    ∃y,AJ x n true=(y,0)/\y.places=x.places/\y.bE.length=min (x.bE.length+(if w.bE[n].taken=true then 0 else 1)) 40:=by
  obtain⟨o,K,-⟩:=hear_ev h e;have e0:=e;unfold AJ at e;rw[if_neg V]at e;have I:(w.bE[n]?).getD Q5=w.bE[n]:=by rw[List.getElem?_eq_getElem hn];rfl
  simp only[Int.toNat_natCast]at e;simp only[I,if_true]at e;have j:w.bE[n]∈w.bE:=List.getElem_mem hn;have O:∀t:List il,((w.bE++t)[n]?).getD Q5=w.bE[n]:=fun t=>by rw[List.getElem?_append_left hn];exact I
  generalize w.bE[n]=m at*;have b:=h.mok m j;have f:On m.iX:=b.2.1;have X:=h.many;have g:0<=m.iX/\m.iX<w.places.length:=by have:=f.1;have:=f.2;omega
  by_cases J:(mE w m.iX).up=false
  · rw[if_pos J]at e;simp at e
  · rw[if_neg J]at e;have u:(mE w m.iX).up=true:=by simpa using J
    have M:∀L k,mE (⟨w.prog,w.places,L⟩:BX) k=mE w k:=fun L k=>rfl;simp only[M]at e;have hat:=h.at f;cases ht:m.taken with
    |true=>
      rw[ht]at e;simp only[if_true,Nat.add_zero]at e⊢;have l:=h.UB;have p:x=w->∃y,AJ x n true=(y,0)/\y.places=x.places/\y.bE.length=min x.bE.length 40:=by
        intro d;subst d;exact⟨x,e0,Z,by omega⟩
      cases hf:rD m.co (mE w m.iX).cos with
      |none=>rw[hf]at e;cases e;exact p Z
      |some c=>
        rw[hf]at e;simp only at e;by_cases A:c.aM≠m.aM-1\/c.offered≠m.from_
        · rw[if_pos A]at e;cases e;exact p Z
        · rw[if_neg A]at e;have S:=congrArg Prod.snd e;have d:=congrArg Prod.fst e;simp only at d S;have N:=UX (x':=(uh (mE w m.iX) ⟨5,m.co,m.aM-1,0,[],[]⟩).1) (r:=⟨5,m.co,m.aM-1,0,[],[]⟩) hat u (Nh V b.2.2.1 (by have:=b.2.2.2.1;omega) V (fun x o=>(by cases o)) (fun x o=>(by cases o))) (fun h=>by simp only at h;omega) (Prod.ext Z S);obtain⟨-,hd,-⟩:=TL N.ok;have v:rD m.co (uh (mE w m.iX) ⟨5,m.co,m.aM-1,0,[],[]⟩).1.cos=none:=by
            rw[N.cos];rcases hd with⟨f,_,_⟩|⟨f,_,_⟩|⟨_,f,_,_,_,_⟩|⟨_,f,_,_,_,_,_⟩|⟨_,_,_,_,_,hn⟩
            · simp at f
            · simp at f
            · simp at f
            · simp at f
            · exact hn
          generalize (uh (mE w m.iX) ⟨5,m.co,m.aM-1,0,[],[]⟩).1=x' at*;subst d;have E:mE (E5 w m.iX x') m.iX=x':=by rw[pAt_set _ g g,if_pos Z]
          refine⟨E5 w m.iX x',?_,Z,by show w.bE.length=min w.bE.length 40;omega⟩;unfold AJ;rw[if_neg (by show¬((n:Int)<0\/(w.bE.length:Int)<=n);omega)];simp only[Int.toNat_natCast];have z:((E5 w m.iX x').bE[n]?).getD Q5=m:=I;simp only[z,if_true];rw[E,if_neg (by rw[N.up];simp),if_pos ht];rw[v]
    |false=>
      rw[ht]at e;simp only[Bool.false_eq_true,if_false]at e⊢
      --the a time it was C
      have a:∀(q:List MF) (Q:WR ⟨w.prog,q,w.bE⟩),x=⟨w.prog,q,BZ w.bE<|TP m⟩->(mE ⟨w.prog,q,w.bE⟩ m.iX).up=true->UC (mE ⟨w.prog,q,w.bE⟩ m.iX) m.co m.aM=true->∃y,AJ x n true=(y,0)/\y.places=x.places/\y.bE.length=min (x.bE.length+1) 40:=by
        intro q Q d B C;subst d;have l:=o.UB;have R:=Zw o b;simp only at R l;have G:∃t,BZ w.bE (TP m)=w.bE++t:=by
          have:=Zw Q b;simp only at this;rw[this];by_cases i:w.bE.length<40
          · rw[if_pos i];exact⟨_,Z⟩
          · rw[if_neg i];exact⟨[],by simp⟩
        obtain⟨t,G⟩:=G;generalize BZ w.bE (TP m)=L at*;refine⟨⟨w.prog,q,BZ L<|TP m⟩,?_,Z,?_⟩
        · unfold AJ;rw[if_neg (by show¬((n:Int)<0\/(L.length:Int)<=n);rw[G,List.length_append];omega)];simp only[Int.toNat_natCast];have z:(L[n]?).getD Q5=m:=by rw[G];exact O t
          simp only[z,if_true];have P:∀L',mE (⟨w.prog,q,L'⟩:BX) m.iX=mE ⟨w.prog,q,w.bE⟩ m.iX:=fun _=>rfl;rw[P,if_neg (by rw[B];simp),if_neg (by rw[ht];simp),if_pos C];rfl
        · show(BZ L<|TP m).length=min (L.length+1) 40;rw[R];by_cases i:L.length<40
          · rw[if_pos i];simp;omega
          · rw[if_neg i];omega
      by_cases A:UC (mE w m.iX) m.co m.aM=true
      · rw[if_pos A]at e;have d:=congrArg Prod.fst e;exact a w.places h d.symm u A
      · rw[if_neg A]at e;by_cases i:(uh (mE w m.iX) ⟨4,m.co,m.aM,0,[],m.image⟩).2=0
        · rw[if_neg V]at e;have s:=h.mimg m j ht;have T:=img_of h.code s;have N:=UX (x':=(uh (mE w m.iX) ⟨4,m.co,m.aM,0,[],m.image⟩).1) (r:=⟨4,m.co,m.aM,0,[],m.image⟩) hat u (Nh V b.2.2.1 (by have:=b.2.2.2.1;omega) V (fun x o=>(by cases o)) (img_b (QX h.code) T).1) (fun _=>s) (Prod.ext Z i);have d:=congrArg Prod.fst e;simp only at d;generalize (uh (mE w m.iX) ⟨4,m.co,m.aM,0,[],m.image⟩).1=x' at*;have E:mE (E5 w m.iX x') m.iX=x':=by rw[pAt_set _ g g,if_pos Z]
          refine a (w.places.set m.iX.toNat x') (h.set N.pl) d.symm ?_ ?_
          · show(mE (E5 w m.iX x') m.iX).up=true;rw[E];exact N.up
          · show UC (mE (E5 w m.iX x') m.iX) m.co m.aM=true;rw[E];unfold UC;rw[N.flog];exact List.any_eq_true.2 ⟨⟨4,m.co,m.aM,0,[],m.image⟩,by simp,by simp⟩
        · rw[if_pos i]at e;exact absurd (congrArg Prod.snd e) i
end Pw
open Go Go.Proofs Go.LX
theorem XE:tF NN=some true:=by
 unfold tF;rw[program_p];kernel_rfl
namespace Pw
open Dk
def toP(x:iD):MF:=⟨x.cos,⟨x.safe,x.wait⟩,x.up⟩
def toW(w:aX):BX:=⟨w.prog,w.places.map toP,w.bE⟩
def toH(x:qw):Hap:=⟨x.kind,x.place,x.co,x.n⟩
def KO(x:MF):iD:=⟨x.cos,x.d.safe,x.d.wait,x.up⟩
def Jq(w:BX):aX:=⟨w.prog,w.places.map KO,w.bE⟩
theorem of_to(w:aX):Jq (toW w)=w:=by
 have:w.places.map (KO∘toP)=w.places:=List.map_id _;unfold Jq toW;simp only[List.map_map,this]
theorem idx_map{α β:Type}(f:α->β)(l:List α)(k:Int):idx (l.map f) k=(idx l k).map f:=by
 unfold idx;split<;>simp
theorem g_at{w:BX}{k:Int}(h:0<=k/\k<w.places.length):idx (Jq w).places k=some (KO (mE w k)):=by
 show idx (w.places.map KO) k=_;rw[idx_map,(pAt_eq h).1];rfl
theorem g_set(w:BX)(k:Int)(x:MF):(⟨w.prog,(Jq w).places.set k.toNat (KO x),w.bE⟩:aX)=Jq (E5 w k x):=by
 unfold Jq E5;simp only[List.map_set]
theorem on_lt{w:BX}(h:WR w){k:Int}(a:On k):0<=k/\k<w.places.length:=by
 have:=h.many;have:=a.1;have:=a.2;omega
theorem XF{d:gN}(h:kC d=0):d.wait.length<=60000:=by
 have:=(Dk.wB h).1;omega
theorem put_wait(d:gN)(r:Rec):(AQ d r).1.wait.length<=60000:=by
 unfold AQ putT;repeat' split
 all_goals first|(show([]:Str).length<=60000;simp)|(simp only[List.length_append,List.length_cons,List.length_nil];omega)
theorem note_g{w:BX}(h:WR w){k:Int}(g:On k){r:Rec}(i:TI r){N:Nat}(hN:60002<=N):
    vN N (Jq w) k r=some ((uh (mE w k) r).2,Jq (E5 w k (uh (mE w k) r).1)):=by
  have a:=on_lt h g;have hp:=h.at g;have l:=XF hp.disk;have j:=put_wait (mE w k).d r;have f:Jq w=Jq (E5 w k<|mE w k):=by rw[setP_self a]
  unfold vN uh;rw[g_at a];simp only[bnd];rw[next_eq N V];simp only[bnd];by_cases c:(nW (mE w k).cos r).2=0
  · rw[dF (show¬(nW (KO (mE w k)).cos r).2≠0 from fun h=>h c),cond_false,if_neg (show¬(nW (mE w k).cos r).2≠0 from fun h=>h c)];show(I8 N (mE w k).d r).bind _=_;rw[put_eq N hN _ r V i];simp only[bnd];unfold Hr;by_cases b:(AQ (mE w k).d r).2=0
    · rw[dF (show¬(AQ (mE w k).d r).2≠0 from fun h=>h b),cond_false,if_neg (show¬(AQ (mE w k).d r).2≠0 from fun h=>h b)];show(I9 N (AQ (mE w k).d r).1).bind _=_;rw[sync_eq N hN _ V];simp only[bnd];by_cases e:(Gn (AQ (mE w k).d r).1).2=0
      · rw[dF (show¬(Gn (AQ (mE w k).d r).1).2≠0 from fun h=>h e),cond_false,if_neg (show¬(Gn (AQ (mE w k).d r).1).2≠0 from fun h=>h e)];rw[<-g_set,List.set_set];rfl
      · rw[dT (show(Gn (AQ (mE w k).d r).1).2≠0 from e),cond_true,if_pos e,<-f]
    · rw[dT (show(AQ (mE w k).d r).2≠0 from b),cond_true,if_pos b,<-f]
  · rw[dT (show(nW (KO (mE w k)).cos r).2≠0 from c),cond_true,if_pos c,<-f];rfl
theorem send_g(w:BX)(m:il):zZ (Jq w) m=some (Jq ⟨w.prog,w.places,BZ w.bE m⟩):=by
  unfold zZ;show(LF w.bE m).bind _=_;rw[wSend];simp only[bnd];unfold BZ;by_cases a:dL w.bE=0
  · rw[if_neg (show¬dL w.bE≠0 from fun h=>h a)];by_cases b:dL [m]=0
    · rw[if_neg (show¬dL [m]≠0 from fun h=>h b),if_neg (show¬(dL w.bE≠0\/dL [m]≠0) by simp[a,b])];rw[dT rfl,cond_true];rfl
    · rw[if_pos (show dL [m]≠0 from b),if_pos (show(dL w.bE≠0\/dL [m]≠0)from .inr b)];rw[dF b,cond_false]
  · rw[if_pos (show dL w.bE≠0 from a),if_pos (show(dL w.bE≠0\/dL [m]≠0)from .inl a)];rw[dF a,cond_false]
theorem Zx{x:MF}(h:kC x.d=0){N:Nat}(hN:60002<=N):qb N (⟨(KO x).safe,(KO x).wait⟩:gN)=some ((recT x.d).1,uk x.d,0):=by
 show qb N x.d=_;have:=XF h;rw[recover_eq N hN _ V];unfold Xy;rw[if_neg (show¬kC x.d≠0 from fun e=>e h)];rfl
theorem any_find{α:Type}{p:α->Bool}{l:List α}:(l.findIdx? p).isSome=l.any p:=by
  induction l with
  |nil=>rfl
  |cons x l ih=>
    rw[List.findIdx?_cons,List.any_cons];cases p x
    · simp[ih]
    · simp
theorem had_g{x:MF}(h:kC x.d=0)(i e:Int){N:Nat}(hN:60002<=N):M6 N (KO x) i e=some (UC x i e):=by
 unfold M6 UC;rw[Zx h hN];simp only[bnd,Int.toNat_natCast];rw[Yk (fun r:Rec=>(decide ((r.kind:Int)=4)&&decide ((r.co:Int)=i))&&decide ((e:Int)<=r.aM)) (fun n=>some (decide ((0:Int)<=n))) (uk x.d) (fun n r b a=>by
  unfold Hu;rw[show idx (uk x.d) (n:Int)=some r by unfold idx;rw[if_pos V,Int.toNat_natCast];exact a];rfl)]
 rw[<-any_find];cases hf:(uk x.d).findIdx? (fun r:Rec=>(decide ((r.kind:Int)=4)&&decide ((r.co:Int)=i))&&decide ((e:Int)<=r.aM))with
 |none=>rfl
 |some n=>simp only[Option.isSome_some];rw[dT V]
end Pw
open Go Go.Proofs Go.LX
namespace Pw
open Dk
theorem nn{x:Int}(h:x=0):¬x≠0:=fun e=>e h
theorem find_g(a:List Co)(i:Int):(tV a i=some (-1)/\rD i a=none)\/∃(n:Int) (c:Co),tV a i=some n/\rD i a=some c/\idx a n=some c/\0<=n:=by
  rw[findEq];unfold rD;cases h:a.findIdx? (fun x=>decide (x.lF=i))with
  |none=>
    refine .inl ⟨Z,?_⟩;rw[List.findIdx?_eq_none_iff]at h;rw[List.find?_eq_none];intro x f;rw[h x f];simp
  |some n=>
    obtain⟨b,g,d⟩:=List.findIdx?_eq_some_iff_getElem.1 h;refine .inr ⟨n,a[n],Z,?_,?_,by omega⟩
    · rw[List.find?_eq_some_iff_getElem];exact⟨g,n,b,Z,fun j e=>by simpa using d j e⟩
    · unfold idx;rw[if_pos V,Int.toNat_natCast];exact List.getElem?_eq_getElem b
theorem img_I64{p:List dn}(hp:chk p=0){l:List Int}(h:(fG p l).2=0):∀x∈l,ko x:=(img_b (QX hp) (img_of hp h)).1
def Is(o:Option (Int×aX))(q:BX×Int):Prop:=∃v,o=some (q.2,Jq v)/\(q.2=0->v=q.1)
theorem Is.mk(v:BX)(e:Int):Is (some (e,Jq v)) (v,e):=⟨v,rfl,fun _=>rfl⟩
theorem Is.err{v u:BX}{e:Int}(h:e≠0):Is (some (e,Jq v)) (u,e):=⟨v,rfl,fun a=>absurd a h⟩
theorem Is.pair{o:Option (Int×aX)}{q:BX×Int}(h:Is o q):Is (o.bind fun y=>some (y.1,y.2)) q:=by
 obtain⟨v,rfl,a⟩:=h;exact⟨v,Z,a⟩
end Pw
open Go Go.Proofs Go.LX
namespace Pw
open Dk
theorem up_g(x:MF):(KO x).up=x.up:=rfl
theorem TQ{w:BX}{N:Nat}(hN:60002<=N){l:List il}{m:il}{e:Int}(h:WR ⟨w.prog,w.places,l⟩)(b:TM m):
  Is (wH N (Jq w) (l,m,e) true) (⟨w.prog,w.places,l⟩,0)/\
  Is (wH N (Jq w) (l,m,e) false) (E5 ⟨w.prog,w.places,l⟩ m.iX (uh (mE ⟨w.prog,w.places,l⟩ m.iX) ⟨5,m.co,m.aM-1,0,[],[]⟩).1,(uh (mE ⟨w.prog,w.places,l⟩ m.iX) ⟨5,m.co,m.aM-1,0,[],[]⟩).2):=by
 obtain⟨m1,m2,c,d,-⟩:=b;refine⟨.mk ⟨w.prog,w.places,l⟩ 0,?_⟩;unfold wH;rw[cond_false,mG (Km (by simp only;omega))];show Is ((vN N (Jq ⟨w.prog,w.places,l⟩) m.iX _).bind _) _;rw[note_g h m2 (Nh V c (by simp only;omega) V (fun x a=>by cases a) (fun x a=>by cases a)) hN];exact .mk _ _
theorem hear_g{w:BX}(h:WR w)(i:Int)(t:Bool){N:Nat}(hN:60002<=N):Is (Ki N (Jq w) i t) (AJ w i t):=by
  unfold Ki AJ;show Is ((I7 w.bE i t).bind _) _;rw[wTake,if_neg (nn ((Jp _).2 ⟨h.UB,h.mok⟩))];by_cases f:i<0\/(w.bE.length:Int)<=i
  · rw[if_pos f,if_pos f];exact .mk _ _
  · rw[if_neg f,if_neg f];simp only[bnd];have p:i.toNat<w.bE.length:=by omega
    have o:w.bE[i.toNat]? =some w.bE[i.toNat]:=List.getElem?_eq_getElem p;have a:w.bE[i.toNat]∈w.bE:=List.getElem_mem p;generalize w.bE[i.toNat]=m at o a;rw[o];simp only[Option.getD_some];have b:=h.mok m a;have j:=on_lt h b.2.1;rw[dF V,cond_false,g_at j];simp only[bnd];rw[up_g];by_cases k:(mE w m.iX).up=false
    · rw[k,if_pos rfl];exact .mk _ _
    · rw[if_neg k];have r:(mE w m.iX).up=true:=by simpa using k
      rw[r];simp only[Bool.not_true,cond_false];have e:WR ⟨w.prog,w.places,if t=true then w.bE else w.bE.take i.toNat++w.bE.drop (i.toNat+1)⟩:=by
        cases t
        · exact h.drop i.toNat
        · exact h
      generalize (if t=true then w.bE else w.bE.take i.toNat++w.bE.drop (i.toNat+1))=l at e⊢;have hp:mE ⟨w.prog,w.places,l⟩ m.iX=mE w m.iX:=rfl;cases ht:m.taken with
      |true=>
        simp only[cond_true,if_true];show Is ((tV (mE w m.iX).cos m.co).bind _) (match rD m.co (mE ⟨w.prog,w.places,l⟩ m.iX).cos with|none=>_|some c=>_);rw[hp];rcases find_g (mE w m.iX).cos m.co with⟨e1,e2⟩|⟨n,c,e1,e2,e3,e4⟩
        · rw[e1,e2];simp only[bnd];rw[dT V,cond_true];exact(TQ hN e b).1
        · rw[e1,e2];simp only[bnd];rw[dF (show¬n<0 by omega),cond_false];show Is ((idx (mE w m.iX).cos n).bind _) _;rw[e3];simp only[bnd];rw[mG (Km (by have:=b.2.2.2.1;omega))];by_cases g:c.aM≠m.aM-1\/c.offered≠m.from_
          · rw[show(decide ((c.aM:Int)≠(m.aM-1))||decide ((c.offered:Int)≠m.from_))=true by simpa using g,if_pos g];exact(TQ hN e b).1
          · rw[show(decide ((c.aM:Int)≠(m.aM-1))||decide ((c.offered:Int)≠m.from_))=false by simpa using g,if_neg g];exact(TQ hN e b).2
      |false=>
        simp only[cond_false,Bool.false_eq_true,if_false];rw[had_g (h.at b.2.1).disk _ _ hN];simp only[bnd];rw[hp];cases hh:UC (mE w m.iX) m.co m.aM with
        |true=>
          simp only[Bool.not_true,cond_false,if_true];unfold zn;show Is ((zZ (Jq ⟨w.prog,w.places,l⟩) _).bind _) _;rw[send_g];exact .mk _ _
        |false=>
          simp only[Bool.not_false,cond_true,Bool.false_eq_true,if_false];show Is ((vN N (Jq ⟨w.prog,w.places,l⟩) m.iX _).bind _) _;rw[note_g e b.2.1 (Nh V b.2.2.1 (by have:=b.2.2.2.1;omega) V (fun x q=>by cases q) (img_I64 h.code (h.mimg m a ht))) hN];simp only[bnd];rw[hp];by_cases d:(uh (mE w m.iX) ⟨4,m.co,m.aM,0,[],m.image⟩).2=0
          · rw[dF (nn d),cond_false,if_neg (nn d)];unfold zn;show Is ((zZ (Jq<|E5 ⟨w.prog,w.places,l⟩ m.iX _) _).bind _) _;rw[send_g];exact .mk _ _
          · rw[dT (show(uh (mE w m.iX) ⟨4,m.co,m.aM,0,[],m.image⟩).2≠0 from d),cond_true,if_pos d];exact .err d
end Pw
open Go Go.Proofs Go.LX
namespace Pw
open Dk
theorem step45_g{w:BX}(h:WR w)(x:qw)(a:x.kind=4\/x.kind=5){N:Nat}(hN:60002<=N):Is (z8 N (Jq w) x) (stepWld w (toH x)):=by
  have c:stepWld w (toH x)=AJ w x.n (decide<|x.kind=5):=by unfold stepWld;rw[if_pos (show((toH x).kind=4\/(toH x).kind=5)from a)];rfl
  have b:z8 N (Jq w) x=wJ N x (Jq w) true:=by
    unfold z8;rcases a with h4|h5
    · rw[dT h4,cond_true]
    · rw[dF (show¬x.kind=4 by omega),dT h5,cond_false,cond_true]
  rw[c,b];unfold wJ;rw[cond_true,dT (show x.kind≠6 by omega),cond_true];exact(hear_g h _ _ hN).pair
theorem Zy{p:List dn}{N:Nat}(hN:60002<=N):∀l:List Co,each (BM N p) FY l ()=some (Yd p l)
  |[]=>rfl
  |x::l=>by
    rw[iM];have a:=Zy (p:=p) hN l;unfold BM at a⊢;rw[Mw _ _ V];simp only[bnd];by_cases h:(fG p x.image).2=0
    · rw[dF (nn h),cond_false,a,Yd,if_neg (nn h)]
    · rw[dT (show(fG p x.image).2≠0 from h),cond_true,Yd,if_pos h]
theorem plc_g(p:List dn)(x:MF)(g:x.d.wait.length<=9223372036854775807){N:Nat}(hN:60002<=N):GZ N p (KO x)=some (zw p x):=by
  unfold GZ zw;show(tQ N x.d).bind _=_;rw[Dk.MB N hN _ g];simp only[bnd];by_cases b:kC x.d=0
  · rw[dF (nn b),cond_false,if_neg (nn b),up_g];cases hu:x.up with
    |false=>
      show(bif decide ((0:Int)<(x.cos.length:Int))then _ else _)=some (if x.cos=[]then 0 else 4);by_cases a:x.cos=[]
      · rw[a,if_pos rfl];rfl
      · rw[if_neg a,dT (by have:=List.length_pos_iff.2 a;omega)];rfl
    |true=>
      simp only[Bool.not_true,cond_false,Bool.true_eq_false,if_false];show(bif decide ((0:Int)<(x.d.wait.length:Int))then _ else _)=_;by_cases a:x.d.wait=[]
      · rw[a,if_neg zq3];rw[dF zq3,cond_false,Zx b hN];simp only[bnd];rw[replay_eq N V,if_neg (show¬120<(uk x.d).length by have:=(dOk b).len;omega)];simp only[bnd];by_cases f:(wU [] (uk x.d)).2=0
        · rw[dF (nn f),cond_false,if_neg (nn f),coSame];simp only[bnd];show(bif !decide ((wU []<|uk x.d).1=x.cos)then _ else _)=_;by_cases c:(wU [] (uk x.d)).1=x.cos
          · rw[dT c,if_neg (fun e=>e c)];exact Zy hN x.cos
          · rw[dF c,if_pos c];rfl
        · rw[dT (show(wU [] (uk x.d)).2≠0 from f),cond_true,if_pos f]
      · rw[if_pos a,dT (by have:=List.length_pos_iff.2 a;omega),cond_true]
  · rw[dT (show kC x.d≠0 from b),cond_true,if_pos b]
theorem XG{w:aX}{N:Nat}(hN:60002<=N):∀l:List il,each (uQ N w) zL l ()=some (Ky w.prog l)
  |[]=>rfl
  |m::l=>by
    rw[iM];have a:=XG (w:=w) hN l;generalize each (uQ N w) zL l=F at a⊢;unfold uQ BN Ky;cases ht:m.taken with
    |true=>exact a
    |false=>
      rw[cond_false,Mw _ _ V,if_neg zq3];simp only[bnd];by_cases h:(fG w.prog m.image).2=0
      · rw[dF (nn h),cond_false,a,if_neg (nn h)]
      · rw[dT (show(fG w.prog m.image).2≠0 from h),cond_true,if_pos h]
theorem Zz{w:aX}{N:Nat}(hN:60002<=N)(k:Unit->Option Int):∀l:List MF,(∀x∈l,x.d.wait.length<=9223372036854775807)->each (sF N w) k (l.map KO) ()=if MG w.prog l≠0 then some (MG w.prog l)else k ()
  |[],_=>by simp[MG,sI]
  |x::l,hw=>by
    rw[List.map_cons,iM];have a:=Zz (w:=w) hN k l fun y b=>hw y<|List.mem_cons_of_mem _ b;generalize each (sF N w) k (l.map KO)=F at a⊢;unfold sF;rw[plc_g _ _ (hw x zq3) hN];simp only[bnd];by_cases h:zw w.prog x=0
    · rw[dF (nn h),cond_false,a,show MG w.prog (x::l)=MG w.prog l by rw[MG,if_neg (nn h)]]
    · rw[dT (show zw w.prog x≠0 from h),cond_true,show MG w.prog (x::l)=zw w.prog x by rw[MG,if_pos h],if_pos h]
def Wts(w:BX):Prop:=∀x∈w.places,x.d.wait.length<=9223372036854775807
theorem WR.wts{w:BX}(h:WR w):Wts w:=fun x a=>by have:=XF (h.pl x a).disk;omega
theorem check_g{w:BX}(d:Wts w){N:Nat}(hN:60002<=N):Ar N (Jq w)=some (Gq w):=by
  unfold Ar Gq;show(qP w.prog).bind _=_;rw[chk_eq];simp only[bnd];by_cases a:chk w.prog=0
  · rw[dF (nn a),cond_false,if_neg (nn a)];have e:((Jq w).places.length:Int)=w.places.length:=by unfold Jq;simp
    rw[e];by_cases f:w.places.length=3
    · rw[dF V,cond_false,if_neg V];show(bif decide ((dL w.bE:Int)≠0)then some (dL w.bE)else _)=_;by_cases b:dL w.bE=0
      · rw[dF (nn b),cond_false,if_neg (nn b)];show each (sF N<|Jq w) _ (w.places.map KO) ()=_;rw[Zz hN _ _ d];unfold El;show(if MG w.prog w.places≠0 then _ else each (uQ N<|Jq w) _ w.bE ())=_;rw[XG hN];by_cases c:MG w.prog w.places=0
        · rw[if_neg (nn c),if_neg (nn c)];rfl
        · rw[if_pos c,if_pos c];rfl
      · rw[dT (show dL w.bE≠0 from b),cond_true,if_pos b]
    · rw[dT V,cond_true,if_pos V]
  · rw[dT (show chk w.prog≠0 from a),cond_true,if_pos a]
end Pw
open Go Go.Proofs Go.LX
namespace Pw
open Dk
theorem ZA(a:Unit->Option (List dn)):∀l:List Ins,(∀c∈l,c.args.length<=3)->each zh (Dn a) l ()=a ()
 |[],_=>rfl
 |c::l,h=>by
  rw[iM];have b:=ZA a l fun x d=>h x<|List.mem_cons_of_mem _ d;generalize each zh (Dn a) l=G at b⊢;unfold zh;have:=h c zq3;rw[sK V V];exact b
theorem code_copy{p:List dn}(h:p.length<=4/\∀x∈p,yL x/\∀c∈x.code,c.args.length<=3):Fb p=some p:=by
 unfold Fb;rw[sK V V];simp only[bnd,Int.toNat_natCast];have b:∀(m i:Nat),i+m=p.length->upto (tO p) (zi p) (i:Int) m ()=some p:=by
  intro m;induction m with
  |zero=>intro i _;rfl
  |succ m ih=>
   intro i g;have d:i<p.length:=by omega
   show tO p (i:Int) () (upto (tO p) (zi p) ((i:Int)+1) m)=_;have a:=ih (i+1) V;rw[show((i+1:Nat):Int)=(i:Int)+1 from rfl]at a;generalize upto (tO p) (zi p) ((i:Int)+1) m=nx at a⊢;unfold tO;have e:=h.2 p[i]<|List.getElem_mem d;have f:=e.1;unfold yL at f;rw[Cu d];simp only[bnd];rw[sK V V];simp only[bnd];rw[ZA _ _ e.2];exact a
 simpa using b p.length 0 V
theorem chk_good{p:List dn}(h:chk p=0):p.length<=4/\∀x∈p,yL x/\∀c∈x.code,c.args.length<=3:=by
 obtain⟨y,a,b⟩:=Zi p;rw[chk_eq]at a;exact b (by rw[<-osi a];exact h)
theorem copy_g{w:BX}(h:WR w):CL (Jq w)=some (Jq w):=by
 have g:=chk_good h.code;unfold CL;show(Fb w.prog).bind _=_;rw[code_copy g];simp only[bnd];have f:=h.many;show(clone 80<|w.places.map KO).bind _=_;rw[sK (by simp;omega) (by simp;omega)];simp only[bnd];show(BO w.bE).bind _=_;rw[wCopy h.UB (fun m f=>(h.mok m f).2.2.2.2.2)];simp only[bnd];unfold Hq;rw[Int.toNat_natCast];have b:∀(m i:Nat),i+m=(w.places.map KO).length->upto tX (zm w.prog w.bE) (i:Int) m (w.places.map KO)=some (Jq w):=by
  intro m;induction m with
  |zero=>intro i _;rfl
  |succ m ih=>
   intro i l;have c:i<(w.places.map KO).length:=by omega
   show tX (i:Int) (w.places.map KO) (upto tX (zm w.prog w.bE) ((i:Int)+1) m)=_;have a:=ih (i+1) V;rw[show((i+1:Nat):Int)=(i:Int)+1 from rfl]at a;generalize upto tX (zm w.prog w.bE) ((i:Int)+1) m=nx at a⊢;unfold tX;rw[Cu c];have k:i<w.places.length:=by simpa using c
   have e:(w.places.map KO)[i]=KO w.places[i]:=by simp
   have hp:=h.pl w.places[i]<|List.getElem_mem k;have n:=(Dk.wB hp.disk).1;simp only[bnd];rw[show(w.places.map KO)[i].cos=w.places[i].cos by rw[e];rfl,show(w.places.map KO)[i].safe=w.places[i].d.safe by rw[e];rfl,show(w.places.map KO)[i].wait=w.places[i].d.wait by rw[e];rfl];rw[coCopy hp.good.1.len (fun x j=>(hp.good.1.ok x j).2.2.2.2.2.2.2),sK V V];simp only[bnd];rw[sK V V];simp only[bnd,Int.toNat_natCast];rw[List.set_set,show(⟨w.places[i].cos,w.places[i].d.safe,w.places[i].d.wait,(w.places.map KO)[i].up⟩:iD)=(w.places.map KO)[i] by rw[e];rfl,List.set_getElem_self];exact a
 simpa using b (w.places.map KO).length 0 V
def zW:aX:=⟨[],[],[]⟩
theorem do_of{w:BX}(c:Wts w)(x:qw){N:Nat}(hN:60002<=N){q:BX×Int}(d:WR w->Is (z8 N (Jq w) x) q):Ms N (Jq w) x=some (if Gq w≠0 then(zW,Gq w)else if q.2≠0 then(zW,q.2)else(Jq q.1,0)):=by
  unfold Ms;rw[check_g c hN];simp only[bnd];by_cases b:Gq w=0
  · rw[dF (nn b),cond_false,if_neg (nn b)];have h:=(w_iff w).1 b;rw[copy_g h];simp only[bnd];obtain⟨v,e,f⟩:=d h;rw[e];simp only[bnd];by_cases a:q.2=0
    · rw[dF (nn a),cond_false,if_neg (nn a),f a]
    · rw[dT (show q.2≠0 from a),cond_true,if_pos a];rfl
  · rw[dT (show Gq w≠0 from b),cond_true,if_pos b];rfl
end Pw
open Go Go.Proofs Go.LX
namespace Pw
open Dk
theorem wts_of{l:List iD}{w:World}{B A:BS}{v:Value}(h:ed fB w B A v l):∀x∈l,x.wait.length<=9223372036854775807:=by
 obtain⟨a,cap,_,_,_,_,c⟩:=h;intro x f;obtain⟨i,g,rfl⟩:=List.getElem_of_mem f;obtain⟨b,o,cells,E,j,_,_,_,e⟩:=c i g;obtain⟨_,_,_,_,_,_,d⟩:=fI e;exact d.bK
theorem wts_to{a:aX}(h:∀x∈a.places,x.wait.length<=9223372036854775807):Wts (toW a):=by
 intro x b;obtain⟨y,c,rfl⟩:=List.mem_map.1 b;exact h y c
theorem Fp{ρ:Type}{body:Int->Unit->(Unit->ρ)->ρ}{k:Unit->ρ}:∀(m:Nat) (i:Nat),(∀(j:Nat) (a:Unit->ρ),i<=j->j<i+m->body (j:Int) () a=a ())->upto body k (i:Int) m ()=k ()
 |0,i,_=>rfl
 |m+1,i,h=>by
  show body (i:Int) () (upto body k ((i:Int)+1) m)=_;rw[h i _ (Nat.le_refl _) V];exact Fp m (i+1) fun j a c b=>h j a V V
theorem gl(w:BX):(Jq w).places.length=w.places.length:=by unfold Jq;simp
theorem idx_g{w:BX}{j:Nat}(h:j<w.places.length):idx (Jq w).places (j:Int)=some (KO w.places[j]):=by
 show idx (w.places.map KO) (j:Int)=_;rw[idx_map,nM,List.getElem?_eq_getElem h];rfl
theorem pSame(x:MF):CF (KO x).cos (KO x).cos=some true:=by rw[coSame];simp
theorem dSame(x:MF):Jl (⟨(KO x).safe,(KO x).wait⟩:gN) (⟨(KO x).safe,(KO x).wait⟩:gN)=some true:=by rw[diskSame];simp
theorem hN:60002<=NN:=by decide
theorem worldTwice(a:aX)(b:Int)(u:∀x∈a.places,x.wait.length<=9223372036854775807):vO NN a b=some true:=by
  have p:a=Jq (toW a):=(of_to a).symm;have c:=wts_to u;generalize toW a=w at p c;subst p;unfold vO;rw[XE];simp only[bnd,Bool.not_true,cond_false];rw[check_g c hN];simp only[bnd];show lv NN b (Jq w) (decide ((Gq w:Int)≠0)||decide (((w.bE.length:Int):Int)=0))=_;unfold lv;by_cases f:Gq w=0
  · by_cases A:w.bE.length=0
    · rw[dT (show((w.bE.length:Int):Int)=0 by omega),Bool.or_true,cond_true,XE];rfl
    · rw[dF (nn f),dF (show¬((w.bE.length:Int):Int)=0 by omega),Bool.or_false,cond_false];have h:=(w_iff w).1 f;obtain⟨k,s,v,z⟩:=at_eq b (n:=(w.bE.length:Int)) V (by have:=h.UB;omega);show(yl b (w.bE.length:Int)).bind _=_;rw[s];simp only[bnd];rw[do_of c _ hN (q:=AJ w k true) (fun h=>step45_g h ⟨5,0,0,k⟩ (.inr rfl) hN),if_neg (nn f)];simp only[bnd];by_cases g:(AJ w k true).2=0
      · rw[if_neg (nn g)];simp only[bnd];rw[dF V,cond_false];obtain⟨n,rfl⟩:=Int.eq_ofNat_of_zero_le v;have hn:n<w.bE.length:=by omega
        have o:AJ w (n:Int) true=((AJ w (n:Int) true).1,0):=Prod.ext Z g;obtain⟨y,r,i,l⟩:=twice h hn o;have e:=(hear_ev h o).1;generalize (AJ w (n:Int) true).1=x at o r i l e;rw[do_of e.wts _ hN (q:=AJ x (n:Int) true) (fun h=>step45_g h ⟨5,0,0,(n:Int)⟩ (.inr rfl) hN),if_neg (nn ((w_iff x).2 e))];rw[r,if_neg zq3];simp only[bnd];rw[dF V,cond_false,gl,Int.toNat_natCast];refine(Fp x.places.length 0 fun j B _ C=>?_).trans ?_
        · unfold ry;have d:j<x.places.length:=by omega
          have m:j<y.places.length:=by rw[i];exact d
          simp only[];rw[idx_g d,idx_g m,show y.places[j]=x.places[j] by simp[i]];simp only[bnd];rw[pSame];simp only[bnd,Bool.not_true,cond_false];rw[dSame];simp only[bnd,Bool.not_true,Bool.false_or,bne_self_eq_false];rfl
        · unfold rz ng;show(idx w.bE (n:Int)).bind _=_;rw[nM,List.getElem?_eq_getElem hn];simp only[bnd];have t:=e.UB;show(bif !w.bE[n].taken then ic (ko ((x.bE.length:Int)+1)) (some<|decide (((y.bE.length:Int):Int)=min ((x.bE.length:Int)+1) 40))else ic (ko ((x.bE.length:Int)+0)) (some<|decide (((y.bE.length:Int):Int)=min ((x.bE.length:Int)+0) 40)))=_;rw[mG (Km V),mG (Km V)];cases ht:w.bE[n].taken with
          |true=>rw[ht,if_pos Z]at l;simp only[Bool.not_true,cond_false];rw[dT V]
          |false=>rw[ht,if_neg zq3]at l;simp only[Bool.not_false,cond_true];rw[dT V]
      · rw[if_pos g];simp only[bnd];rw[dT (show(AJ w k true).2≠0 from g),cond_true]
  · rw[dT (show Gq w≠0 from f),Bool.true_or,cond_true,XE];rfl
end Pw
end Go.Proofs.YtodkbibbgakkdaaGreatDoor