/-
  What the law WorldKeeps needs of our own library and of the walks, no more.
-/
import Derived.Test.YtodkbibbgakkdaaGreatDoorWorldKeepsTg
set_option linter.unusedSimpArgs false
set_option linter.unusedVariables false
set_option maxRecDepth 10000
namespace Go.Proofs.YtodkbibbgakkdaaGreatDoor
open Go Go.Proofs Go.LX
noncomputable section
abbrev preL:List (Int×Str):=[(2,[118]),(4,[46]),(5,[110,101,119]),(6,[102]),(1,[])]
theorem bnd{α β:Type}(a:α)(f:α->Option β):(some a).bind f=f a:=rfl
theorem find_uniq{α σ:Type}{g:α->Option σ}{l:List α}(c:∀p∈l,∀q∈l,g p≠none->g q≠none->p=q){p:α}(hp:p∈l){t:σ}(h:g p=some t):l.findSome? g=some t:=by
 cases e:l.findSome? g with
 |none=>
  rw[List.findSome?_eq_none_iff]at e;rw[e p hp]at h;cases h
 |some u=>
  obtain⟨q,b,a⟩:=List.exists_of_findSome?_eq_some e;have:=c p hp q b (by rw[h];simp) (by rw[a];simp);subst this;rw[h]at a;exact a.symm
theorem aaq{α σ:Type}{step:α->σ->Option σ}{g:α->Option σ}:∀{l:List α},(∀p∈l,∀s,step p s=some ((g p).getD s))->(∀p∈l,g p=none)->∀s,Wp step l s=some s
 |[],_,_,s=>rfl
 |p::l,h,hn,s=>by
  unfold Wp;rw[h p zq3,hn p zq3,Option.getD_none,bnd];exact aaq (fun q a=>h q<|List.mem_cons_of_mem _ a) (fun q a=>hn q<|List.mem_cons_of_mem _ a) s
theorem aar{α σ:Type}{step:α->σ->Option σ}{g:α->Option σ}:∀{l:List α},(∀p∈l,∀s,step p s=some ((g p).getD s))->(∀p∈l,∀q∈l,g p≠none->g q≠none->p=q)->l.Nodup->∀s,Wp step l s=some ((l.findSome? g).getD s)
  |[],_,_,_,s=>rfl
  |p::l,h,hu,hn,s=>by
    unfold Wp;rw[h p zq3,bnd];have d:=List.nodup_cons.1 hn;cases e:g p with
    |none=>
      rw[Option.getD_none,aar (fun q c=>h q (List.mem_cons_of_mem _ c)) (fun a f b i=>hu a (List.mem_cons_of_mem _ f) b (List.mem_cons_of_mem _ i)) d.2 s,List.findSome?_cons,e]
    |some t=>
      rw[Option.getD_some,aaq (fun q c=>h q (List.mem_cons_of_mem _ c)) (fun q c=>?_) t,List.findSome?_cons,e]
      · rfl
      · cases e2:g q with
        |none=>rfl
        |some u=>
          have:=hu p zq3 q (List.mem_cons_of_mem _ c) (by rw[e];simp) (by rw[e2];simp);subst this;exact absurd c d.1
theorem folds_one{α σ:Type}{step:α->σ->Option σ}{g:α->Option σ}{L:List α}(h:∀p∈L,∀s,step p s=some ((g p).getD s))(c:∀p∈L,∀q∈L,g p≠none->g q≠none->p=q)(hn:L.Nodup)(s:σ):Aq step L s ((L.findSome? g).getD s):=by
 intro l a;rw[aar (fun p hp=>h p (a.mem_iff.1 hp)) (fun p hp q b=>c p (a.mem_iff.1 hp) q (a.mem_iff.1 b)) (a.nodup_iff.2 hn) s];congr 2;cases e:L.findSome? g with
 |none=>
  rw[List.findSome?_eq_none_iff]at e⊢;exact fun x f=>e x<|a.mem_iff.1 f
 |some t=>
  obtain⟨p,hp,d⟩:=List.exists_of_findSome?_eq_some e;exact find_uniq (fun p hp q b=>c p (a.mem_iff.1 hp) q<|a.mem_iff.1 b) (a.mem_iff.2 hp) d
def joO(a:Int×Str)(y:Int×Bool)(x:Bool):Option (Int×Int):=bif x then some (a.1,y.1)else none
def stepO(s:Str)(b:Int×Str):Option (Option (Int×Int)):=
 (strings_TrimPrefix s b.2).bind fun d=>(IC d).bind fun a=>bif (!a.2)then(nX (⟨b.1,a.1⟩:Tok)).bind fun c=>some (joO b a (decide ((c:Str)=s)))else some (joO b a false)
theorem j227_eq(c:Int×Str)(y:Int×Bool)(a b:Int)(x:Bool):Ch c y a b x=some ((joO c y x).getD (a,b)):=by
 unfold Ch joO;cases x<;>rfl
theorem b228_eq(s:Str)(c:Int×Str)(st:Int×Int):wF s c st=(stepO s c).bind fun o=>some (o.getD st):=by
 obtain⟨a,b⟩:=st;unfold wF stepO;simp only[j227_eq];cases strings_TrimPrefix s c.2 with
 |none=>rfl
 |some y=>
  simp only[bnd];cases IC y with
  |none=>rfl
  |some z=>
   simp only[bnd];cases z.2 with
   |true=>rfl
   |false=>
    simp only[Bool.not_false,cond_true];cases nX (⟨c.1,z.1⟩:Tok)<;>rfl
def gO(s:Str)(p:Int×Str):Option (Int×Int):=(stepO s p).join
def okW(s:Str):Bool:=preL.all (fun p=>(stepO s p).isSome)&&preL.all (fun p=>preL.all fun q=>(gO s p).isNone||(gO s q).isNone||decide (p=q))
def preC(s:Str):Int×Int:=(preL.findSome? (gO s)).getD (0,0)
theorem fold_ok{s:Str}(h:okW s=true):IK (wF s) preL (0,0)=some (preC s):=by
  unfold okW at h;rw[Bool.and_eq_true,List.all_eq_true,List.all_eq_true]at h;refine foldAny_eq<|folds_one (g:=gO s) (fun p hp st=>?_) (fun p hp q b a c=>?_) zq1 (0,0)
  · have a:=h.1 p hp;rw[b228_eq];unfold gO;cases e:stepO s p with
    |none=>rw[e]at a;cases a
    |some o=>cases o<;>rfl
  · have:=List.all_eq_true.1 (h.2 p hp) q b;rw[Bool.or_eq_true,Bool.or_eq_true]at this;rcases this with(e|e)|e
    · exact absurd (Option.isNone_iff_eq_none.1 e) a
    · exact absurd (Option.isNone_iff_eq_none.1 e) c
    · exact Zz e
def foldC(s:Str):Option (Int×Int):=bif okW s then some (preC s)else IK (wF s) preL (0,0)
theorem foldC_eq(s:Str):foldC s=IK (wF s) preL (0,0):=by
 unfold foldC;cases e:okW s with
 |false=>rfl
 |true=>exact(fold_ok e).symm
def El(N:Nat)(g:List Tok)(a:List iY)(h:Int)(e:(List Tok×Int×Bool×Int)->Option (List Tok×gu))(c:Str)(f:Bool)(d:Int):Option (List Tok×gu):=
 (foldC c).bind fun b=>(Ru N c g a d h e f) b
theorem X9: @El= @Ci:=by
 funext a b c d e f g h;unfold El Ci;rw[foldC_eq]
def JA(N:Nat)(b:List Str)(a:List iY)(s:List Tok×Int×Bool×Int)(d:List Tok×Int×Bool×Int->Option (List Tok×gu)):Option (List Tok×gu):=
 match s with|(sZ,yL,SF,y20)=>bif (decide ((0:Int)<yL)&&SF)then bif decide (((b.length:Int):Int)<=y20)then El N sZ a yL d [] false y20 else iA (kg (y20+1)) (iA (kg ((y20+1)-1)) ((idx b ((y20+1)-1)).bind fun c=>El N sZ a yL d c SF (y20+1)))else some (sZ,(⟨y20,SF⟩:gu))
theorem Ya: @JA= @Cj:=by
 unfold JA Cj;rw[X9]
def Sc(N:Nat)(c:gu)(a:List Str)(b:List iY):Option (List Tok×gu):=
 again (JA N a b) N ([],1,c.ok,c.at_)
theorem aas: @Sc= @Rv:=by
 unfold Sc Rv;rw[Ya]
def Em(N:Nat)(f:gu->List Str->List iY->Int->Option (List df×gu))(e:Int)(c:List Str)(b:List iY)(a:Int)(k:List df)(l:Int)(j:(List df×Int×Bool)->Option (List df×gu))(g:Int)(h:Bool)(i:List Tok):Option (List df×gu):=
 bif decide (((e+1):Int)=2)then(Sc N (⟨g,h⟩:gu) c b).bind fun d=>Ck f e a c b k l i j d.2.at_ d.2.ok d.1 else Ck f e a c b k l i j g h []
theorem Yb: @Em= @Cm:=by
 unfold Em Cm;rw[aas]
def Ai(N:Nat)(f:gu->List Str->List iY->Int->Option (List df×gu))(e:Int)(c:List Str)(b:List iY)(a:Int)(h:List df)(g:(List df×Int×Bool)->Option (List df×gu))(k:Int)(i:Bool)(j:Int):Option (List df×gu):=
 bif decide (((e+1):Int)≠4)then(Sc N (⟨k,i⟩:gu) c b).bind fun d=>Em N f e c b a h j g d.2.at_ d.2.ok d.1 else Em N f e c b a h j g k i []
theorem Yc: @Ai= @zo:=by
 unfold Ai zo;rw[aas,Yb]
def En(N:Nat)(l:gu->List Str->List iY->Int->Option (List df×gu))(k:List df)(c:List Str)(b:List iY)(a:Int)(m:(List df×Int×Bool)->Option (List df×gu))(i:Str)(d:Int)(e:Bool):Option (List df×gu):=
 bif decide ((i:Str)=[125])then some (k,(⟨d,e⟩:gu))else(Rb [115,101,116,32,112,117,116,32,115,97,121,32,112,97,117,115,101,32,103,111,32,105,102,32,119,104,105,108,101,32,114,101,116,117,114,110]).bind fun n=>(slices_Index_string n i).bind fun f=>iA (kg (f+1)) (bif (!(e&&decide ((0:Int)<(f+1))))then some ([],(⟨d,(e&&decide ((0:Int)<(f+1)))⟩:gu))else bif decide (((f+1):Int)<=2)then bif decide (((c.length:Int):Int)<=d)then(IC []).bind fun j=>Ai N l f c b a k m d false j.1 else iA (kg (d+1)) (iA (kg ((d+1)-1)) ((idx c ((d+1)-1)).bind fun h=>(IC h).bind fun g=>Ai N l f c b a k m (d+1) (e&&decide ((0:Int)<(f+1))) g.1))else Ai N l f c b a k m d (e&&decide ((0:Int)<(f+1))) 0)
theorem Yd: @En= @Cn:=by
 unfold En Cn;rw[Yc]
def JB(N:Nat)(d:gu->List Str->List iY->Int->Option (List df×gu))(c:List Str)(b:List iY)(a:Int)(s:List df×Int×Bool)(e:List df×Int×Bool->Option (List df×gu)):Option (List df×gu):=
 match s with|(qU,Mc,F3)=>bif F3 then bif decide (((c.length:Int):Int)<=Mc)then En N d qU c b a e [] Mc false else iA (kg (Mc+1)) (iA (kg ((Mc+1)-1)) ((idx c ((Mc+1)-1)).bind fun f=>En N d qU c b a e f (Mc+1) F3))else some ([],(⟨Mc,F3⟩:gu))
theorem Ye: @JB= @Cq:=by
 unfold JB Cq;rw[Yd]
def Gh(N:Nat)(d:gu->List Str->List iY->Int->Option (List df×gu))(c:List Str)(b:List iY)(a:Int)(e:Int)(f:Bool):Option (List df×gu):=
 again (JB N d c b a) N ([],e,f)
theorem Zh: @Gh= @EI:=by
 unfold Gh EI;rw[Ye]
def Eo(N:Nat)(e:gu->List Str->List iY->Int->Option (List df×gu))(c:List Str)(b:List iY)(a:Int)(g:Bool)(f:Int)(d:Bool):Option (List df×gu):=
 bif g then Gh N e c b a f false else Gh N e c b a f d
theorem Yf: @Eo= @Cr:=by
 unfold Eo Cr;rw[Zh]
def Ja(N:Nat)(f:gu->List Str->List iY->Int->Option (List df×gu))(d:gu)(c:List Str)(b:List iY)(a:Int):Option (List df×gu):=
 bif decide (((c.length:Int):Int)<=d.at_)then Eo N f c b a true d.at_ false else iA (kg (d.at_+1)) (iA (kg ((d.at_+1)-1)) ((idx c ((d.at_+1)-1)).bind fun e=>Eo N f c b a (decide ((e:Str)≠[123])||decide ((6:Int)<a)) (d.at_+1) d.ok))
theorem srdBlock_r_p: @Ja= @GQ:=by
 unfold Ja GQ;rw[Yf]
def KM:Nat->gu->List Str->List iY->Int->Option (List df×gu)
 |0=>fun _ _ _ _=>none
 |N+1=>Ja N (KM N)
theorem Yg:∀N,KM N=EJ N
 |0=>rfl
 |N+1=>by show Ja N (KM N)=GQ N (EJ N);rw[srdBlock_r_p,Yg N]
def mW(N:Nat)(g:List Str)(c:List iY)(a:Int)(f:(List iY×Int×Bool)->Option (List iY×Int))(h:Int)(b:Bool):Option (List iY×Int):=
 (KM N (⟨h,b⟩:gu) g c 1).bind fun d=>(idx c a).bind fun e=>f ((c.set (a).toNat {e with body:=d.1}),d.2.at_,d.2.ok)
theorem Fv: @mW= @lh:=by
 unfold mW lh;rw[show @KM= @EJ from funext Yg]
def mX(N:Nat)(d:List Str)(e:List iY)(a:Int)(g:(List iY×Int×Bool)->Option (List iY×Int))(b:Int)(c:Bool):Option (List iY×Int):=
 bif decide (((d.length:Int):Int)<=b)then mW N d e a g b false else iA (kg (b+1)) (iA (kg ((b+1)-1)) ((idx d ((b+1)-1)).bind fun f=>mW N d e a g (b+1) c))
theorem Fw: @mX= @ll:=by
 unfold mX ll;rw[Fv]
def mY(N:Nat)(d:List Str)(e:List iY)(a:Int)(g:(List iY×Int×Bool)->Option (List iY×Int))(b:Int)(c:Bool):Option (List iY×Int):=
 bif decide (((d.length:Int):Int)<=b)then mX N d e a g b false else iA (kg (b+1)) (iA (kg ((b+1)-1)) ((idx d ((b+1)-1)).bind fun f=>mX N d e a g (b+1) c))
theorem Fx: @mY= @lq:=by
 unfold mY lq;rw[Fw]
def mZ(N:Nat)(d:List Str)(e:List iY)(a:Int)(g:(List iY×Int×Bool)->Option (List iY×Int))(c:Bool)(f:Int)(b:Bool):Option (List iY×Int):=
 bif c then mY N d e a g f false else mY N d e a g f b
theorem Fy: @mZ= @lu:=by
 unfold mZ lu;rw[Fx]
def qK(N:Nat)(c:List Str)(a:Int)(s:List iY×Int×Bool)(d:List iY×Int×Bool->Option (List iY×Int)):Option (List iY×Int):=
 match s with|(Ab,y98,y99)=>bif decide (((c.length:Int):Int)<=y98)then mZ N c Ab a d true y98 false else iA (kg (y98+1)) (iA (kg ((y98+1)-1)) ((idx c ((y98+1)-1)).bind fun b=>mZ N c Ab a d (decide ((b:Str)≠[102,117,110])) (y98+1) y99))
theorem Fz: @qK= @nI:=by
 unfold qK nI;rw[Fy]
def qL(N:Nat)(b:List Str)(a:Str)(c:List iY)(s:Unit):Option (List iY×Int):=
 upto (qK N b) (rG N b a) 0 ((c.length:Int)).toNat (c,0,true)
theorem FB: @qL= @nL:=by
 unfold qL nL;rw[Fz]
def qM(N:Nat)(c:List Str)(a:Str)(b:List iY):Option (List iY×Int):=
 bif (decide (((b.length:Int):Int)=0)||decide ((4:Int)<(b.length:Int)))then some ([],1)else upto (rH b) (qL N c a b) 0 ((b.length:Int)).toNat ()
theorem FC: @qM= @nM:=by
 unfold qM nM;rw[FB]
def vR(N:Nat)(a:Str):Option (List iY×Int):=
 (Pp a [32]).bind fun b=>gU (rJ b) (qM N b a) 0 b []
theorem JC: @vR= @qH:=by
 unfold vR qH;rw[FC]
def zf(N:Nat):Option (List iY):=
 (vR N [102,117,110,32,48,32,49,32,123,32,115,101,116,32,48,32,51,32,119,104,105,108,101,32,118,48,32,123,32,115,97,121,32,102,49,32,118,48,32,118,48,32,103,111,32,118,48,32,112,97,117,115,101,32,115,101,116,32,48,32,45,32,118,48,32,49,32,125,32,125,32,102,117,110,32,50,32,50,32,123,32,114,101,116,117,114,110,32,42,32,118,48,32,118,49,32,125]).bind fun a=>some a.1
theorem Mr: @zf= @qz:=by
 unfold zf qz;rw[JC]
abbrev NN:Nat:=70000
theorem program_p:qz NN=zf NN:=by rw[Mr]
end
open Go Go.Proofs Go.LX
theorem Sd(a b:Int):(decide (a<0)||decide (b<=a))= !bE a b:=by
 unfold bE;rw[Bool.eq_iff_iff];simp;try omega
theorem idx0{α:Type}(x:α)(l:List α):idx (x::l) 0=some x:=by simp[idx]
theorem len_one{l:List Int}:l.length=1↔∃x,l=[x]:=by
 match l with
 |[]=>simp
 |[x]=>simp
 |x::y::r=>simp
def JD(i:Nat)(x:bP):Int:=
 if(0<=x.params/\x.params<=3)/\(1<=x.regs/\x.params<=x.regs/\x.regs<=40)/\¬(i=0/\x.params≠0)then(if 1<=x.code.length/\x.code.length<=2000 then 0 else 2)else 3
theorem b39_eq(i:Nat)(x:bP)(a:Unit->Option Int):nO (i:Int) x () a=if JD i x≠0 then some (JD i x)else a ():=by
  unfold nO JD;by_cases b:(0<=x.params/\x.params<=3)/\(1<=x.regs/\x.params<=x.regs/\x.regs<=40)/\¬(i=0/\x.params≠0)
  · have e:(((((decide ((x.params:Int)<0)||decide ((3:Int)<x.params))||decide ((x.regs:Int)<1))||decide ((x.regs:Int)<x.params))||decide ((40:Int)<x.regs))||(decide ((i:Int)=0)&&decide ((0:Int)<x.params)))=false:=by
      simp only[Bool.or_eq_false_iff,Bool.and_eq_false_iff,decide_eq_false_iff_not];omega
    rw[e,if_pos b];simp only[cond_false];by_cases c:1<=x.code.length/\x.code.length<=2000
    · rw[if_pos c,show(decide (((x.code.length:Int):Int)=0)||decide ((2000:Int)<(x.code.length:Int)))=false by simp only[Bool.or_eq_false_iff,decide_eq_false_iff_not];omega];rfl
    · rw[if_neg c,show(decide (((x.code.length:Int):Int)=0)||decide ((2000:Int)<(x.code.length:Int)))=true by simp only[Bool.or_eq_true,decide_eq_true_eq];omega];rfl
  · have e:(((((decide ((x.params:Int)<0)||decide ((3:Int)<x.params))||decide ((x.regs:Int)<1))||decide ((x.regs:Int)<x.params))||decide ((40:Int)<x.regs))||(decide ((i:Int)=0)&&decide ((0:Int)<x.params)))=true:=by
      simp only[Bool.or_eq_true,Bool.and_eq_true,decide_eq_true_eq];omega
    rw[e,if_neg b];rfl
def heads:Nat->List bP->Int
 |_,[]=>0
 |i,x::p=>if JD i x≠0 then JD i x else heads (i+1) p
theorem Yh(k:Unit->Option Int):∀(p:List bP) (i:Nat),gU nO k (i:Int) p ()=if heads i p≠0 then some (heads i p)else k ()
 |[],i=>by simp[heads,gU]
 |x::p,i=>by
  show nO (i:Int) x () (gU nO k ((i:Int)+1) p)=_;rw[b39_eq,show((i:Int)+1)=((i+1:Nat):Int) by omega,Yh k p (i+1),heads];by_cases h:JD i x=0<;>simp[h]
def sO(x:bP):Prop:=1<=x.code.length/\x.code.length<=2000
theorem iH{α σ ρ:Type}{body:α->σ->(σ->ρ)->ρ}{k:σ->ρ}(x:α)(l:List α)(s:σ):each body k (x::l) s=body x s (each body k l):=rfl
theorem b8_tot(d:Int):∀l:List Int,∃y,each (xy d) Eh l ()=some y
 |[]=>⟨0,rfl⟩
 |x::l=>by
  obtain⟨y,a⟩:=b8_tot d l;rw[iH];unfold xy;cases (!(decide ((0:Int)<=x)&&decide ((x:Int)<d)))with
  |true=>exact⟨3,rfl⟩
  |false=>exact⟨y,a⟩
theorem j5_tot(j:Bool)(a:Ins)(b i:Int)(c:List bP)(e g d k:Int):∃y,ic j a b i c e g d k=some y/\(y=0->(a.args.length:Int)=g):=by
 unfold ic;cases j with
 |false=>exact⟨3,rfl,fun h=>absurd h zq1⟩
 |true=>
  simp only[Bool.not_true,cond_false];generalize f:(((decide ((a.a:Int)≠k)||decide ((a.b:Int)≠i))||decide ((a.c:Int)≠e))||decide (((a.args.length:Int):Int)≠g))=C;cases C with
  |true=>exact⟨4,rfl,fun h=>absurd h zq1⟩
  |false=>
   simp only[Bool.or_eq_false_iff,decide_eq_false_iff_not,Decidable.not_not]at f;simp only[cond_false];cases decide ((a.op:Int)=7)with
   |true=>obtain⟨y,l⟩:=b8_tot d a.args;exact⟨y,l,fun _=>f.2⟩
   |false=>exact⟨0,rfl,fun _=>f.2⟩
theorem j4_tot(a:Ins)(b:Int)(c:List bP)(d:Int)(h:Bool)(f i g e:Int):∃y,dZ a b c d h f i g e=some y/\(y=0->(a.args.length:Int)=f):=by
 unfold dZ;cases decide ((a.op:Int)=12)with
 |true=>exact j5_tot h a b g c e f d 0
 |false=>exact j5_tot h a b g c e f d i
def InsT(a:Ins)(r:Option Int):Prop:=∃y,r=some y/\(y=0->a.args.length<=3)
theorem Zi(a:Ins)(b:Int)(c:List bP)(d:Int)(j:Bool){f:Int}(g i e:Int)(h:f<=3):InsT a (dZ a b c d j f g i e):=by
 obtain⟨y,k,l⟩:=j4_tot a b c d j f g i e;exact⟨y,k,fun m=>by have:=l m;omega⟩
theorem xq{a:Ins}{c:Bool}{x y:Option Int}(b:InsT a x)(d:InsT a y):InsT a (bif c then x else y):=by
  cases c
  · exact d
  · exact b
theorem Yi{a:Ins}{e:Int}(h:e≠0):InsT a (some e):=⟨e,rfl,fun b=>absurd b h⟩
theorem check_ins(a:Ins)(b:Int)(c:List bP)(d e:Int)(hp:∀x∈c,x.params<=3):InsT a (kK a b c d e):=by
  unfold kK;refine xq (Yi zq1)<|xq (Yi zq1)<|xq (Zi _ _ _ _ _ _ _ _ zq1)<|xq (Zi _ _ _ _ _ _ _ _ zq1) ?_;have f:∀x,InsT a (fO a b c d x):=fun x=>by
    unfold fO;exact xq (Zi _ _ _ _ _ _ _ _ zq1)<|xq (Zi _ _ _ _ _ _ _ _ zq1)<|Zi _ _ _ _ _ _ _ _ zq1
  have h:∀x,InsT a (gm a b c d e x):=fun x=>by
    unfold gm;refine xq (Zi _ _ _ _ _ _ _ _ zq1) ?_;cases decide ((a.op:Int)=7)with
    |false=>
      rw[cond_false];exact xq (f _)<|xq (f _)<|f _
    |true=>
      simp only[cond_true];rw[Sd];cases hb:bE a.b (c.length:Int)with
      |false=>exact Yi zq1
      |true=>
        simp only[Bool.not_true,cond_false];unfold bE at hb;simp only[Bool.and_eq_true,decide_eq_true_eq]at hb;obtain⟨n,hn⟩:=Int.eq_ofNat_of_zero_le hb.1;rw[hn,wy V,Option.bind_some];exact Zi _ _ _ _ _ _ _ _<|hp _<|List.getElem_mem _
  have g:∀x,InsT a (gp a b c d e x):=fun x=>by
    unfold gp;refine xq (Zi _ _ _ _ _ _ _ _ zq1) ?_;cases decide ((a.op:Int)=3)with
    |false=>
      rw[cond_false];exact xq (h _)<|h _
    |true=>
      simp only[cond_true];by_cases j:a.args.length=1
      · rw[dT (show((a.args.length:Int):Int)=1 by omega)];obtain⟨y,i⟩:=len_one.1 j;simp only[cond_true];rw[show idx a.args 0=some y by rw[i,idx0],Option.bind_some];exact Zi _ _ _ _ _ _ _ _ zq1
      · rw[dF (show¬((a.args.length:Int):Int)=1 by omega)];exact Zi _ _ _ _ _ _ _ _ zq1
  exact xq (g _)<|g _
def Good(a:List bP):Prop:=a.length<=4/\∀x∈a,sO x/\∀c∈x.code,c.args.length<=3
theorem headOk_zero{i:Nat}{x:bP}(h:JD i x=0):x.params<=3/\sO x:=by
  unfold JD at h;split at h
  · split at h
    · exact⟨by omega,by unfold sO;omega⟩
    · cases h
  · cases h
theorem Yj:∀(p:List bP) (i:Nat),heads i p=0->∀x∈p,x.params<=3/\sO x
  |[],_,_,x,hx=>by cases hx
  |y::p,i,h,x,hx=>by
    unfold heads at h;split at h
    · rename_i a;exact absurd h a
    · rename_i a;rcases List.mem_cons.1 hx with rfl|hx
      · exact headOk_zero<|Decidable.not_not.1 a
      · exact Yj p (i+1) h x hx
theorem b35_tot(a:List bP)(x:bP)(k:Unit->Option Int)(hp:∀x∈a,x.params<=3)(Q:Prop)(j:∃y,k ()=some y/\(y=0->Q)):∀(l:List Ins) (i:Int),∃y,gU (ky a x) k i l ()=some y/\(y=0->Q/\∀c∈l,c.args.length<=3)
  |[],i=>by
    obtain⟨y,g,b⟩:=j;exact⟨y,g,fun h=>⟨b h,by intro c m;cases m⟩⟩
  |c::l,i=>by
    obtain⟨y,g,b⟩:=b35_tot a x k hp Q j l<|i+1;have n:gU (ky a x) k i (c::l) ()=ky a x i c () (gU (ky a x) k (i+1) l):=rfl;rw[n];unfold ky;obtain⟨z,g1,g2⟩:=check_ins c i a x.regs (x.code.length:Int) hp;rw[g1,Option.bind_some];by_cases e:z=0
    · rw[dF V,cond_false];refine⟨y,g,fun h=>⟨(b h).1,fun d f=>?_⟩⟩;rcases List.mem_cons.1 f with rfl|f
      · exact g2 e
      · exact(b h).2 d f
    · rw[dT e,cond_true];exact⟨z,Z,fun h=>absurd h e⟩
theorem b37_tot(a:List bP)(hp:∀x∈a,x.params<=3/\sO x):∀l:List bP,(∀x∈l,x.params<=3/\sO x)->∃y,each (rO a) yN l ()=some y/\(y=0->∀x∈l,∀c∈x.code,c.args.length<=3)
  |[],_=>⟨0,rfl,fun _ x b=>by cases b⟩
  |x::l,hl=>by
    obtain⟨y,f,g⟩:=b37_tot a hp l fun z i=>hl z<|List.mem_cons_of_mem _ i;rw[iH];unfold rO;have b:=hl x zq3;obtain⟨z,g1,g2⟩:=b35_tot a x (yM x (each (rO a) yN l)) (fun x b=>(hp x b).1) (∀x∈l,∀c∈x.code,c.args.length<=3) (by
      unfold yM;have e:=b.2;unfold sO at e;rw[gI,show((x.code.length:Int)-1)=((x.code.length-1:Nat):Int) by omega,wy V,Option.bind_some];cases (decide ((x.code[x.code.length-1].op:Int)≠8)&&decide ((x.code[x.code.length-1].op:Int)≠12))with
      |true=>exact⟨4,rfl,fun h=>absurd h zq1⟩
      |false=>exact⟨y,f,g⟩) x.code 0
    refine⟨z,g1,fun h=>?_⟩;intro w d;rcases List.mem_cons.1 d with rfl|d
    · exact(g2 h).2
    · exact(g2 h).1 w d
theorem aat(a:List bP):∃y,rP a=some y/\(y=0->Good a):=by
  unfold rP;generalize d:(decide (((a.length:Int):Int)=0)||decide ((4:Int)<(a.length:Int)))=C;cases C with
  |true=>exact⟨2,rfl,fun h=>absurd h zq1⟩
  |false=>
    simp only[Bool.or_eq_false_iff,decide_eq_false_iff_not]at d;have e:gU nO (vI a) 0 a ()=_:=Yh (vI a) a 0;rw[cond_false,e];by_cases b:heads 0 a=0
    · rw[if_neg V];have hp:=Yj a 0 b;obtain⟨y,g1,g2⟩:=b37_tot a hp a hp;exact⟨y,g1,fun h=>⟨by omega,fun x c=>⟨(hp x c).2,g2 h x c⟩⟩⟩
    · rw[if_pos b];exact⟨_,Z,fun h=>absurd h b⟩
def Oy(a:List bP):Int:=(rP a).getD 0
theorem Yk(a:List bP):rP a=some (Oy a):=by
 obtain⟨y,h,_⟩:=aat a;unfold Oy;rw[h];rfl
def Im(R x:Int):Prop:=0<=x/\x<R
def Ms(a:List bP)(R L:Int)(c:Ins):Prop:=
 (c.op=1/\Im R c.a/\(-1000000000<=c.b/\c.b<=1000000000))\/
 (c.op=2/\Im R c.a/\Im R c.b)\/
 (c.op=3/\Im R c.a/\Im R c.b/\Im R c.c/\∃n,c.args=[n]/\1<=n/\n<=5)\/
 ((c.op=4\/c.op=6)/\Im R c.a/\Im R c.b/\(0<=c.c/\c.c<4))\/
 (c.op=5/\Im R c.a/\(1<=c.b/\c.b<=4))\/
 (c.op=7/\Im R c.a/\(∃p,idx a c.b=some p/\(c.args.length:Int)=p.params)/\∀x∈c.args,Im R x)\/
 ((c.op=8\/c.op=9\/c.op=11)/\Im R c.a)\/
 c.op=10\/
 (c.op=12/\(0<=c.b/\c.b<L))\/
 (c.op=13/\Im R c.a/\(0<=c.b/\c.b<L))
theorem each_b8(R:Int):∀l:List Int,each (xy R) Eh l ()=some 0->∀x∈l,Im R x
  |[],_,x,hx=>by cases hx
  |y::l,h,x,hx=>by
    rw[iH]at h;unfold xy at h;cases e:(!(decide ((0:Int)<=y)&&decide ((y:Int)<R)))with
    |true=>rw[e,cond_true]at h;cases h
    |false=>
      rw[e,cond_false]at h;rcases List.mem_cons.1 hx with rfl|hx
      · simp at e;exact e
      · exact each_b8 R l h x hx
theorem insG_of{c:Ins}{i:Int}{a:List bP}{R L:Int}(h:kK c i a R L=some 0):Ms a R L c:=by
  obtain⟨op,w,u,v,args⟩:=c;by_cases n:op=1
  · subst n;simp[kK,fw,gD,je,jG,iT,dZ,ic,gp,gm,fO,Bool.cond_eq_ite]at h;simp[Ms,Im]
    (repeat (split at h;·simp at h))
    omega
  by_cases q:op=2
  · subst q;simp[kK,fw,gD,je,jG,iT,dZ,ic,gp,gm,fO,Bool.cond_eq_ite]at h;simp[Ms,Im]
    (repeat (split at h;·simp at h))
    omega
  by_cases g:op=3
  · subst g;simp[kK,fw,gD,je,jG,iT,dZ,ic,gp,gm,fO,Bool.cond_eq_ite]at h;simp[Ms,Im];by_cases t:args.length=1
    · obtain⟨y,rfl⟩:=len_one.1 t;simp[idx0]at h;split at h
      · simp at h
      split at h
      · simp at h
      refine⟨by omega,by omega,by omega,y,Z,by omega,by omega⟩
    · exfalso;rw[if_neg (show¬((args.length:Int)=1) by omega)]at h;split at h<;>simp at h
  by_cases o:op=4
  · subst o;simp[kK,fw,gD,je,jG,iT,dZ,ic,gp,gm,fO,Bool.cond_eq_ite]at h;simp[Ms,Im]
    (repeat (split at h;·simp at h))
    omega
  by_cases r:op=5
  · subst r;simp[kK,fw,gD,je,jG,iT,dZ,ic,gp,gm,fO,Bool.cond_eq_ite]at h;simp[Ms,Im]
    (repeat (split at h;·simp at h))
    omega
  by_cases j:op=6
  · subst j;simp[kK,fw,gD,je,jG,iT,dZ,ic,gp,gm,fO,Bool.cond_eq_ite]at h;simp[Ms,Im]
    (repeat (split at h;·simp at h))
    omega
  by_cases k:op=7
  · subst k;simp[kK,fw,gD,je,jG,iT,dZ,ic,gp,gm,fO,Bool.cond_eq_ite]at h;simp[Ms,Im];split at h
    · simp at h
    split at h
    · simp at h
    obtain⟨p,hp,h⟩:=az h
    (repeat (split at h;·simp at h))
    refine⟨by omega,⟨p,hp,by omega⟩,fun x s=>each_b8 R args h x s⟩
  by_cases l:op=8
  · subst l;simp[kK,fw,gD,je,jG,iT,dZ,ic,gp,gm,fO,Bool.cond_eq_ite]at h;simp[Ms,Im]
    (repeat (split at h;·simp at h))
    omega
  by_cases m:op=9
  · subst m;simp[kK,fw,gD,je,jG,iT,dZ,ic,gp,gm,fO,Bool.cond_eq_ite]at h;simp[Ms,Im]
    (repeat (split at h;·simp at h))
    omega
  by_cases b:op=10
  · subst b;simp[Ms,Im]
  by_cases d:op=11
  · subst d;simp[kK,fw,gD,je,jG,iT,dZ,ic,gp,gm,fO,Bool.cond_eq_ite]at h;simp[Ms,Im]
    (repeat (split at h;·simp at h))
    omega
  by_cases f:op=12
  · subst f;simp[kK,fw,gD,je,jG,iT,dZ,ic,gp,gm,fO,Bool.cond_eq_ite]at h;simp[Ms,Im]
    (repeat (split at h;·simp at h))
    omega
  by_cases e:op=13
  · subst e;simp[kK,fw,gD,je,jG,iT,dZ,ic,gp,gm,fO,Bool.cond_eq_ite]at h;simp[Ms,Im]
    (repeat (split at h;·simp at h))
    omega
  · exfalso;simp[kK,fw,gD,je,jG,iT,dZ,ic,gp,gm,fO,Bool.cond_eq_ite, *]at h
structure pR(a:List bP):Prop where
 many:1<=a.length/\a.length<=4
 head:∀(i:Nat) x,a[i]? =some x->(0<=x.params/\x.params<=3)/\(1<=x.regs/\x.params<=x.regs/\x.regs<=40)/\¬(i=0/\x.params≠0)/\sO x
 last:∀x∈a,∃c,idx x.code ((x.code.length:Int)-1)=some c/\(c.op=8\/c.op=12)
 ins:∀x∈a,∀c∈x.code,Ms a x.regs x.code.length c
theorem aau:∀(p:List bP) (j:Nat),heads j p=0->∀(i:Nat) x,p[i]? =some x->JD (j+i) x=0
  |[],j,_,i,x,hx=>by simp at hx
  |y::p,j,h,i,x,hx=>by
    unfold heads at h;split at h
    · rename_i a;exact absurd h a
    · rename_i a;cases i with
      |zero=>simp at hx;subst hx;exact Decidable.not_not.1 a
      |succ i=>rw[show j+(i+1)=(j+1)+i by omega];exact aau p (j+1) h i x (by simpa using hx)
theorem b35_ins(a:List bP)(x:bP)(k:Unit->Option Int):∀(l:List Ins) (i:Int),gU (ky a x) k i l ()=some 0->k ()=some 0/\∀c∈l,Ms a x.regs x.code.length c
  |[],i,h=>⟨h,fun c b=>by cases b⟩
  |y::l,i,h=>by
    have g:gU (ky a x) k i (y::l) ()=ky a x i y () (gU (ky a x) k (i+1) l):=rfl;rw[g]at h;unfold ky at h;obtain⟨z,e,h⟩:=az h;by_cases d:z=0
    · subst d;rw[dF zq3,cond_false]at h;obtain⟨f,j⟩:=b35_ins a x k l (i+1) h;refine⟨f,fun c b=>?_⟩;rcases List.mem_cons.1 b with rfl|b
      · exact insG_of e
      · exact j c b
    · rw[dT d,cond_true]at h;exact absurd (osi h) d
theorem b37_ins(a:List bP):∀l:List bP,each (rO a) yN l ()=some 0->∀x∈l,(∃c,idx x.code ((x.code.length:Int)-1)=some c/\(c.op=8\/c.op=12))/\∀c∈x.code,Ms a x.regs x.code.length c
  |[],_,x,hx=>by cases hx
  |y::l,h,x,hx=>by
    rw[iH]at h;unfold rO at h;obtain⟨b,f⟩:=b35_ins a y _ y.code 0 h;unfold yM at b;obtain⟨_,b⟩:=bC b;obtain⟨c,d,b⟩:=az b;cases e:(decide ((c.op:Int)≠8)&&decide ((c.op:Int)≠12))with
    |true=>rw[e,cond_true]at b;cases b
    |false=>
      rw[e,cond_false]at b;rcases List.mem_cons.1 hx with rfl|hx
      · exact⟨⟨c,d,by simp only[Bool.and_eq_false_iff,decide_eq_false_iff_not,Decidable.not_not]at e;exact e⟩,f⟩
      · exact b37_ins a l b x hx
theorem pU{a:List bP}(h:Oy a=0):pR a:=by
  have b:=Yk a;rw[h]at b;unfold rP at b;generalize f:(decide (((a.length:Int):Int)=0)||decide ((4:Int)<(a.length:Int)))=C at b;cases C with
  |true=>cases b
  |false=>
    simp only[Bool.or_eq_false_iff,decide_eq_false_iff_not]at f;have j:gU nO (vI a) 0 a ()=_:=Yh (vI a) a 0;rw[cond_false,j]at b;by_cases d:heads 0 a=0
    · rw[if_neg V]at b;have e:=b37_ins a a b;refine⟨by omega,fun i x c=>?_,fun x c=>(e x c).1,fun x c=>(e x c).2⟩;have:=aau a 0 d i x c;rw[Nat.zero_add]at this;unfold JD at this;split at this
      · rename_i g;split at this
        · rename_i g2;exact⟨g.1,g.2.1,g.2.2,g2⟩
        · cases this
      · cases this
    · rw[if_pos d]at b;exact absurd (osi b) d
theorem yf{α σ ρ:Type}{body:Int->α->σ->(σ->ρ)->ρ}{k:σ->ρ}(i:Int)(x:α)(l:List α)(s:σ):gU body k i (x::l) s=body i x s (gU body k (i+1) l):=rfl
theorem U5{σ ρ:Type}{body:Int->σ->(σ->ρ)->ρ}{k:σ->ρ}(i:Int)(m:Nat)(s:σ):upto body k i (m+1) s=body i s (upto body k (i+1) m):=rfl
theorem Gi{σ β:Type}{body:σ->(σ->Option β)->Option β}{m:Nat}{s:σ}:again body (m+1) s=body s (again body m):=rfl
def jV(n:Nat)(v:Val):Prop:=(v.kind=0/\v.n=0)\/(v.kind=1/\ -1000000000<=v.n/\v.n<=1000000000)\/(v.kind=2/\0<=v.n/\v.n<n)
instance (n:Nat) (v:Val):Decidable (jV n v):=inferInstanceAs (Decidable (_\/_))
theorem vS(n:Nat)(v:Val):iW v (n:Int)=0↔jV n v:=by
  obtain⟨k,m⟩:=v;simp only[iW,jV,Bool.cond_eq_ite,Bool.or_eq_true,decide_eq_true_eq];constructor
  · intro h
    (repeat' split at h)<;>first|omega|(exfalso;omega)
  · intro h;rcases h with⟨h1,h2⟩|⟨h1,h2⟩|⟨h1,h2⟩
    · rw[if_pos h1,if_neg V]
    · rw[if_neg V,if_pos h1,if_neg V]
    · rw[if_neg V,if_neg V,if_pos h1,if_neg V]
theorem value_eq(v:Val)(n:Int):gF v n=iW v n:=by
 obtain⟨k,m⟩:=v;simp only[iW,gF,tN,bu,jM,bE,Bool.cond_eq_ite,Bool.or_eq_true,Bool.and_eq_true,Bool.not_eq_true',decide_eq_true_eq,decide_eq_false_iff_not,Bool.and_eq_false_iff]
 (repeat' split)<;>first|rfl|(exfalso;omega)
def uV(l:List (List Val)):Prop:=l.length<=24/\∀c∈l,(1<=c.length/\c.length<=4)/\∀v∈c,jV l.length v
theorem cells_eq(a:List (List Val)):qJ a=mf a:=by
 unfold qJ mf;have k1:∀(l:List Val) (f:Unit->Int),each (nT a) (nU f) l ()=each (lY a) (kP f) l ():=by
  intro l f;induction l with
  |nil=>rfl
  |cons x l ih=>
   show(bif decide ((gF x (a.length:Int):Int)≠0)then gF x (a.length:Int)else each (nT a) (nU f) l ())=(bif decide ((iW x (a.length:Int):Int)≠0)then iW x (a.length:Int)else each (lY a) (kP f) l ());rw[value_eq,ih]
 have k2:∀l:List (List Val),each (nV a) nW l ()=each (nP a) lZ l ():=by
  intro l;induction l with
  |nil=>rfl
  |cons x l ih=>
   show(bif (!(bu (x.length:Int) 1 4))then 2 else each (nT a) (nU<|each (nV a) nW l) x ())=(bif (decide (((x.length:Int):Int)=0)||decide ((4:Int)<(x.length:Int)))then 2 else each (lY a) (kP<|each (nP a) lZ l) x ());have e:(!(bu (x.length:Int) 1 4))=(decide (((x.length:Int):Int)=0)||decide ((4:Int)<(x.length:Int))):=by
    unfold bu;rw[Bool.eq_iff_iff];simp only[Bool.or_eq_true,Bool.not_eq_true',Bool.and_eq_false_iff,decide_eq_true_eq,decide_eq_false_iff_not];omega
   rw[e,k1];have:each (nV a) nW l=each (nP a) lZ l:=by funext u;exact ih
   rw[this]
 rw[k2]
theorem all_ok(a:List (List Val)):mf a=0↔uV a:=by
  have k1:∀(l:List Val) (f:Unit->Int),each (lY a) (kP f) l ()=0↔(∀v∈l,jV a.length v)/\f ()=0:=by
    intro l f;induction l with
    |nil=>simp[qW,kP]
    |cons x l ih=>
      show(bif decide ((iW x (a.length:Int):Int)≠0)then iW x (a.length:Int)else each (lY a) (kP f) l ())=0↔_;by_cases h:iW x (a.length:Int)=0
      · rw[dF V,cond_false,ih];have:=(vS _ _).1 h;simp[this]
      · rw[dT h,cond_true];have b:¬jV a.length x:=fun e=>h ((vS _ _).2 e);simp[h,b]
  have k2:∀l:List (List Val),each (nP a) lZ l ()=0↔∀c∈l,(1<=c.length/\c.length<=4)/\∀v∈c,jV a.length v:=by
    intro l;induction l with
    |nil=>simp[qW,lZ]
    |cons x l ih=>
      show(bif (decide (((x.length:Int):Int)=0)||decide ((4:Int)<(x.length:Int)))then 2 else each (lY a) (kP<|each (nP a) lZ l) x ())=0↔_;by_cases h:1<=x.length/\x.length<=4
      · rw[show(decide (((x.length:Int):Int)=0)||decide ((4:Int)<(x.length:Int)))=false by simp only[Bool.or_eq_false_iff,decide_eq_false_iff_not];omega,cond_false,k1,ih];simp[h]
      · rw[show(decide (((x.length:Int):Int)=0)||decide ((4:Int)<(x.length:Int)))=true by simp only[Bool.or_eq_true,decide_eq_true_eq];omega,cond_true];simp[h]
  unfold mf uV;by_cases h:a.length<=24
  · rw[dF V,cond_false,k2];simp[h]
  · rw[dT V,cond_true];simp[h]
structure JE(a:List bP)(n:Nat)(f:LX.Frame)(x:bP):Prop where
 proc:idx a f.proc=some x
 at_:0<=f.at_/\f.at_<x.code.length
 regs:(f.regs.length:Int)=x.regs
 vals:∀v∈f.regs,jV n v
def mR(a:List bP)(n:Nat):Int->List LX.Frame->Prop
 |_,[]=>True
 |ahead,f::l=>(∃x,JE a n f x)/\(0<=f.iX/\f.iX<ahead)/\mR a n f.regs.length l
structure xX(a:List bP)(s:LX.State):Prop where
 status:0<=s.status/\s.status<=3
 bO: -1000000000<=s.bO/\s.bO<=1000000000
 stay:s.status≠3->s.bO=0
 ended:s.status=1↔s.frames=[]
 many:s.frames.length<=10
 cells:uV s.cells
 frames:mR a s.cells.length 1 s.frames
def ahead(pre:List LX.Frame):Int:=match pre.getLast? with|none=>1|some f=>f.regs.length
theorem aav:ahead []=1:=rfl
theorem QM(pre:List LX.Frame)(f:LX.Frame):ahead (pre++[f])=f.regs.length:=by simp[ahead]
theorem U6(b:LX.State)(f:LX.Frame)(c:Unit->Option Int)(a:Int->Option Int)(hn:c ()=a f.regs.length):∀l:List Val,each (wJ b) (wK c) l ()=each (sD b) (sF a f) l ()
 |[]=>hn
 |x::l=>by
  show(bif decide ((iW x (b.cells.length:Int):Int)≠0)then some (iW x (b.cells.length:Int))else each (wJ b) (wK c) l ())=(bif decide ((gF x (b.cells.length:Int):Int)≠0)then some (gF x (b.cells.length:Int))else each (sD b) (sF a f) l ());rw[value_eq,U6 b f c a hn l]
theorem vals_tot(b:LX.State)(a:Unit->Option Int)(Q:Prop)(hn:∃y,a ()=some y/\(y=0↔Q)):∀l:List Val,∃y,each (wJ b) (wK a) l ()=some y/\(y=0↔(∀v∈l,jV b.cells.length v)/\Q)
  |[]=>by obtain⟨y,c,d⟩:=hn;exact⟨y,c,by simp[d]⟩
  |x::l=>by
    obtain⟨y,c,d⟩:=vals_tot b a Q hn l;have e:each (wJ b) (wK a) (x::l) ()=(bif decide ((iW x (b.cells.length:Int):Int)≠0)then some (iW x (b.cells.length:Int))else each (wJ b) (wK a) l ()):=rfl;rw[e];by_cases h:iW x (b.cells.length:Int)=0
    · rw[dF V,cond_false];have:=(vS _ _).1 h;exact⟨y,c,by rw[d];simp[this]⟩
    · rw[dT h,cond_true];refine⟨_,Z,?_⟩;have f:¬jV b.cells.length x:=fun e=>h ((vS _ _).2 e);simp[h,f]
theorem VB(a:List bP)(b:LX.State)(m:b.frames.length<=10):∀(l pre:List LX.Frame),b.frames=pre++l->
    gU (Cy a b) F7 (pre.length:Int) l ()=each (iQ a b) lF l (ahead pre)
  |[],pre,h=>rfl
  |f::l,pre,h=>by
    have e:=VB a b m l (pre++[f]) (by simpa using h);rw[QM]at e;have k:(((pre++[f]).length:Nat):Int)=(pre.length:Int)+1:=by simp
    rw[k]at e;rw[yf,iH];generalize gU (Cy a b) F7 ((pre.length:Int)+1) l=K1 at e⊢;generalize each (iQ a b) lF l=K2 at e⊢;unfold Cy iQ;have o:pre.length<=10:=by have:=congrArg List.length h;simp at this;omega
    have n:(decide ((f.proc:Int)<0)||decide (((a.length:Int):Int)<=f.proc))= !bE f.proc (a.length:Int):=Sd _ _;rw[n];cases hp:bE f.proc (a.length:Int)with
    |false=>rfl
    |true=>
      simp only[Bool.not_true,cond_false];cases hx:idx a f.proc with
      |none=>rfl
      |some x=>
        simp only[bnd];cases ha:bE f.at_ (x.code.length:Int)with
        |false=>
          rw[show(((decide ((f.at_:Int)<0)||decide (((x.code.length:Int):Int)<=f.at_))||decide ((f.iX:Int)<0))||(decide ((pre.length:Int)=0)&&decide ((f.iX:Int)≠0)))=true by
            have:=Sd f.at_ (x.code.length:Int);rw[ha]at this;rw[this];rfl]
          rfl
        |true=>
          have j:=Sd f.at_ (x.code.length:Int);rw[ha]at j;rw[j];simp only[Bool.not_true,Bool.false_or,cond_false];have i:∀t,zx f x b K1 t=jR a f b K2 t:=by
            intro t;unfold zx jR;rw[hx,bnd,U6 b f _ _ e]
          simp only[i];rcases List.eq_nil_or_concat pre with rfl|⟨q,g,rfl⟩
          · rw[aav];by_cases c:f.iX=0
            · rw[show(decide ((f.iX:Int)<0)||(decide ((([]:List LX.Frame).length:Int)=0)&&decide ((f.iX:Int)≠0)))=false by simp[c],cond_false,dF zq3,cond_false,show(!bE f.iX 1)=false by simp[c,bE]]
            · rw[show(decide ((f.iX:Int)<0)||(decide ((([]:List LX.Frame).length:Int)=0)&&decide ((f.iX:Int)≠0)))=true by simp[c],cond_true,show(!bE f.iX 1)=true by simp[bE];omega]
          · rw[List.concat_eq_append]at*;rw[QM];have d:((q++[g]).length:Int)=(q.length:Int)+1:=by simp
            rw[d,show(decide ((q.length:Int)+1=0))=false from dF V,Bool.false_and,Bool.or_false];by_cases c:f.iX<0
            · rw[dT c,cond_true,show(!bE f.iX (g.regs.length:Int))=true by simp[bE];omega]
            · rw[dF c,cond_false,dT V,cond_true,gI V (by simp at o;omega),show(q.length:Int)+1-1=((q.length:Nat):Int) by omega,kC,h];simp only[List.append_assoc,List.getElem?_append_right (Nat.le_refl _),Nat.sub_self,List.cons_append,List.nil_append,List.getElem?_cons_zero,bnd];congr 1;rw[Bool.eq_iff_iff];simp[bE];omega
theorem Yl(a:List bP)(b:LX.State):G7 a b=wN a b:=by
  unfold G7 wN;have f:(((decide ((b.status:Int)<0)||decide ((3:Int)<b.status))||decide ((b.bO:Int)< -1000000000))||decide ((1000000000:Int)<b.bO))=((!(bu b.status 0 3))||(!(jM b.bO))):=by
    unfold jM bu;rw[Bool.eq_iff_iff];simp only[Bool.or_eq_true,Bool.not_eq_true',Bool.and_eq_false_iff,decide_eq_true_eq,decide_eq_false_iff_not];omega
  have i:((decide ((b.status:Int)≠3)&&decide ((b.bO:Int)≠0))||(decide ((b.status:Int)=1) !=decide (((b.frames.length:Int):Int)=0)))=(((decide ((b.bO:Int)≠0)&&decide ((b.status:Int)≠3))||(decide ((b.status:Int)=1)&&decide ((0:Int)<(b.frames.length:Int))))||(decide ((b.status:Int)≠1)&&decide (((b.frames.length:Int):Int)=0))):=by
    by_cases d:b.status=1<;>by_cases g:b.frames.length=0<;>by_cases c:b.status=3<;>by_cases e:b.bO=0<;>simp[d,g,c,e]<;>omega
  rw[f,i,cells_eq];by_cases h:b.frames.length<=10
  · have:=VB a b h b.frames [] Z;rw[aav]at this;rw[<-this];rfl
  · rw[show(decide ((10:Int)<(b.frames.length:Int)))=true from dT V];rfl
theorem Ym(a:List bP)(b:LX.State):∀(l:List LX.Frame) (t:Int),∃y,each (iQ a b) lF l t=some y/\(y=0↔mR a b.cells.length t l)
  |[],t=>⟨0,rfl,by simp[mR]⟩
  |f::l,t=>by
    obtain⟨y,i,m⟩:=Ym a b l f.regs.length;rw[iH];generalize each (iQ a b) lF l=K2 at i⊢;unfold iQ;cases hp:bE f.proc (a.length:Int)with
    |false=>
      refine⟨5,Z,?_⟩;have:¬mR a b.cells.length t (f::l):=by
        rintro⟨⟨x,g⟩,-,-⟩;have:=aF g.proc;have e:=(List.getElem?_eq_some_iff.1 this.2).1;unfold bE at hp;simp only[Bool.and_eq_false_iff,decide_eq_false_iff_not]at hp;omega
      simp[this]
    |true=>
      unfold bE at hp;simp only[Bool.and_eq_true,decide_eq_true_eq]at hp;simp only[Bool.not_true,cond_false];obtain⟨n,hn⟩:=Int.eq_ofNat_of_zero_le hp.1;have d:idx a f.proc=some (a[n]'V):=by rw[hn,wy V]
      generalize a[n]'V=x at d;rw[d,bnd];have kB:∃y,jR a f b K2 true=some y/\y≠0:=⟨3,Z,by decide⟩;have c:∀z,JE a b.cells.length f z->z=x:=fun z g=>by have:=g.proc;rw[d]at this;exact(osi this).symm
      cases ha:bE f.at_ (x.code.length:Int)with
      |false=>
        obtain⟨y,g1,g2⟩:=kB;refine⟨y,g1,?_⟩;have:¬mR a b.cells.length t (f::l):=by
          rintro⟨⟨z,g⟩,-,-⟩;have:=c z g;subst this;have:=g.at_;unfold bE at ha;simp only[Bool.and_eq_false_iff,decide_eq_false_iff_not]at ha;omega
        simp[this,g2]
      |true=>
        simp only[Bool.not_true,cond_false];cases ht:bE f.iX t with
        |false=>
          obtain⟨y,g1,g2⟩:=kB;refine⟨y,g1,?_⟩;have:¬mR a b.cells.length t (f::l):=by
            rintro⟨⟨z,g⟩,e,-⟩;unfold bE at ht;simp only[Bool.and_eq_false_iff,decide_eq_false_iff_not]at ht;omega
          simp[this,g2]
        |true=>
          simp only[Bool.not_true];unfold jR;rw[d,cond_false,bnd];unfold bE at ha ht;simp only[Bool.and_eq_true,decide_eq_true_eq]at ha ht;by_cases j:(f.regs.length:Int)=x.regs
          · rw[dF V,cond_false,<-U6 b f (fun _=>K2 f.regs.length) _ rfl];obtain⟨z,g1,g2⟩:=vals_tot b (fun _=>K2 f.regs.length) _ ⟨y,i,m⟩ f.regs;refine⟨z,g1,g2.trans ⟨fun h=>⟨⟨x,d,ha,j,h.1⟩,ht,h.2⟩,?_⟩⟩;rintro⟨⟨z,g⟩,e,k⟩;exact⟨g.vals,k⟩
          · rw[dT V,cond_true];refine⟨4,Z,?_⟩;have:¬mR a b.cells.length t (f::l):=by
              rintro⟨⟨z,g⟩,-,-⟩;have:=c z g;subst this;exact j g.regs
            simp[this]
theorem Yn(a:List bP)(b:LX.State):∃y,G7 a b=some y/\(y=0↔xX a b):=by
  rw[Yl];unfold wN;cases c1:((!(bu b.status 0 3))||(!(jM b.bO)))with
  |true=>
    refine⟨3,Z,⟨fun h=>absurd h zq1,fun h=>?_⟩⟩;unfold jM bu at c1;simp only[Bool.or_eq_true,Bool.not_eq_true',Bool.and_eq_false_iff,decide_eq_false_iff_not]at c1;have:=h.status;have:=h.bO;omega
  |false=>
    unfold jM bu at c1;simp only[Bool.or_eq_false_iff,Bool.not_eq_false',Bool.and_eq_true,decide_eq_true_eq]at c1;rw[cond_false];cases c2:(((decide ((b.bO:Int)≠0)&&decide ((b.status:Int)≠3))||(decide ((b.status:Int)=1)&&decide ((0:Int)<(b.frames.length:Int))))||(decide ((b.status:Int)≠1)&&decide (((b.frames.length:Int):Int)=0)))with
    |true=>
      refine⟨4,Z,⟨fun h=>absurd h zq1,fun h=>?_⟩⟩;simp only[Bool.or_eq_true,Bool.and_eq_true,decide_eq_true_eq]at c2;rcases c2 with(c2|c2)|c2
      · exact absurd (h.stay c2.2) c2.1
      · have:=h.ended.1 c2.1;rw[this]at c2;simp at c2
      · exact absurd (h.ended.2<|List.eq_nil_of_length_eq_zero V) c2.1
    |false=>
      simp only[Bool.or_eq_false_iff,Bool.and_eq_false_iff,decide_eq_false_iff_not]at c2;rw[cond_false];by_cases e:b.frames.length<=10
      · rw[dF V,cond_false,cells_eq];by_cases c:mf b.cells=0
        · rw[dF V,cond_false];obtain⟨y,f,g⟩:=Ym a b b.frames 1;refine⟨y,f,g.trans ⟨fun h=>⟨by omega,by omega,fun d=>by omega,⟨fun d=>?_,fun d=>?_⟩,e,(all_ok _).1 c,h⟩,fun h=>h.frames⟩⟩
          · exact List.eq_nil_of_length_eq_zero V
          · rw[d]at c2;simp at c2;omega
        · rw[dT c,cond_true];exact⟨_,Z,⟨fun h=>absurd h c,fun h=>absurd ((all_ok _).2 h.cells) c⟩⟩
      · rw[dT V,cond_true];exact⟨2,Z,⟨fun h=>absurd h zq1,fun h=>absurd h.many e⟩⟩
def ckS(a:List bP)(s:LX.State):Int:=(G7 a s).getD 0
theorem ckS_eq(a:List bP)(s:LX.State):G7 a s=some (ckS a s):=by obtain⟨y,h,-⟩:=Yn a s;unfold ckS;rw[h];rfl
theorem Io{a:List bP}{s:LX.State}:ckS a s=0↔xX a s:=by obtain⟨y,h,b⟩:=Yn a s;unfold ckS;rw[h];exact b
theorem Jb(a:List bP)(s:LX.State):EP a s=some (if Oy a≠0 then Oy a else ckS a s):=by
  unfold EP;rw[Yk,bnd];by_cases h:Oy a=0
  · rw[dF V,cond_false,ckS_eq,bnd,if_neg V]
  · rw[dT h,cond_true,if_pos h]
theorem eqVals(a b:List Val):oO a b=some (decide (a=b)):=by
  unfold oO;by_cases h:a.length=b.length
  · rw[dF V];simp only[cond_false,Int.toNat_natCast];rw[SY (fun x y=>decide (x=y)) a b h rfl (fun i x y j c d=>by
      unfold xN;rw[kC,kC,c,d];obtain⟨k,n⟩:=x;obtain⟨k2,f⟩:=y;by_cases e:k=k2<;>by_cases g:n=f<;>simp[e,g]),IB (fun _ _=>rfl)]
  · rw[dT V];have:a≠b:=fun e=>h (by rw[e]);rw[dF this];rfl
theorem eqCells(a b:List (List Val)):Oh a b=some (decide (a=b)):=by
  unfold Oh;by_cases h:a.length=b.length
  · rw[dF V,cond_false,K3 (fun x y=>decide (x=y)) a b h rfl (fun i x y d c=>by
      unfold LD;rw[kC,c,bnd,eqVals,bnd];by_cases e:x=y<;>simp[e]),IB (fun _ _=>rfl)]
  · rw[dT V];have:a≠b:=fun e=>h (by rw[e]);rw[dF this];rfl
theorem fr_eq(x y:LX.Frame)(b:Unit->Option Bool):(bif ((decide ((x.proc:Int)=y.proc)&&decide ((x.at_:Int)=y.at_))&&decide ((x.iX:Int)=y.iX))then(oO x.regs y.regs).bind fun a=>Bp b (!a)else Bp b true)=bif decide (x=y)then b ()else some false:=by
 obtain⟨p,t,r,o⟩:=x;obtain⟨d,c,g,o2⟩:=y;simp only[eqVals,bnd,Bp];by_cases e:p=d<;>by_cases h:t=c<;>by_cases i:r=g<;>by_cases f:o=o2<;>simp[e,h,i,f]
theorem st_eq(a b:LX.State):decide (a=b)=((decide (a.status=b.status)&&decide (a.bO=b.bO))&&(decide (a.cells=b.cells)&&decide (a.frames=b.frames))):=by
 obtain⟨f,c,s,w⟩:=a;obtain⟨e,c2,g,d⟩:=b;rw[Bool.eq_iff_iff];simp;constructor<;>(intro h;simp[h])
theorem eqState(a b:LX.State):RH a b=some (decide (a=b)):=by
  rw[st_eq];unfold RH;cases (decide ((a.status:Int)=b.status)&&decide ((a.bO:Int)=b.bO))with
  |false=>rfl
  |true=>
    rw[cond_true,eqCells,bnd];cases decide (a.cells=b.cells)with
    |false=>rfl
    |true=>
      rw[cond_true];by_cases h:a.frames.length=b.frames.length
      · rw[dF V,cond_false,K3 (fun x y=>decide (x=y)) a.frames b.frames h rfl (fun i x y c d=>by
          unfold Nb;rw[kC,d,bnd];exact fr_eq x y c),IB (fun _ _=>rfl)];rfl
      · rw[dT V];have:a.frames≠b.frames:=fun e=>h (by rw[e]);rw[dF this];rfl
structure Small(s:LX.State):Prop where
 frames:s.frames.length<=10
 regs:∀f∈s.frames,f.regs.length<=40
 cells:s.cells.length<=24
 fields:∀c∈s.cells,c.length<=4
theorem zG{a:List bP}{n:Nat}:∀{l:List LX.Frame} {t:Int},mR a n t l->∀f∈l,∃x,JE a n f x
  |[],_,_,f,hf=>by cases hf
  |g::l,t,h,f,hf=>by
    rcases List.mem_cons.1 hf with rfl|hf
    · exact h.1
    · exact zG h.2.2 f hf
theorem pR.mem{a:List bP}(h:pR a){k:Int}{x:bP}(c:idx a k=some x):x∈a/\(0<=x.params/\x.params<=3)/\(1<=x.regs/\x.params<=x.regs/\x.regs<=40)/\sO x:=by
 have b:=(aF c).2;have:=h.head _ x b;exact⟨List.mem_of_getElem? b,this.1,this.2.1,this.2.2.2⟩
theorem xX.small{a:List bP}{s:LX.State}(h:xX a s)(ha:pR a):Small s where
 frames:=h.many
 regs f hf:=by
  obtain⟨x,g⟩:=zG h.frames f hf;have:=(ha.mem g.proc).2.2.1;have:=g.regs;omega
 cells:=h.cells.1
 fields c hc:=(h.cells.2 c hc).1.2
theorem Sg{α:Type}{b:Nat}{a:List α}(h:a.length<=400)(c:b<=48):clone b a=some a:=by
 have:a.length*b<=400*48:=Nat.mul_le_mul h c;unfold clone;exact kM ⟨by simp;omega,by simp;omega⟩
theorem Gx{ρ:Type}{body:Int->Unit->(Unit->ρ)->ρ}{k:Unit->ρ}:∀(m:Nat) (i:Nat),(∀j:Nat,i<=j->j<i+m->∀a,body (j:Int) () a=a ())->upto body k (i:Int) m ()=k ()
 |0,i,_=>rfl
 |m+1,i,h=>by
  rw[U5,h i (Nat.le_refl _) V,show((i:Int)+1)=((i+1:Nat):Int) by omega];exact Gx m (i+1) fun j b c=>h j V V
theorem cellCopy_eq{l:List (List Val)}(h:l.length<=24)(a:∀c∈l,c.length<=4):Od l=some l:=by
 unfold Od;rw[Sg V zq1,bnd,Int.toNat_natCast];exact Gx (k:=Lv l) l.length 0 (fun j d e b=>by
  unfold Lu;rw[wy V,bnd,Sg (by have:=a _ (List.getElem_mem (by omega:j<l.length));omega) zq1,bnd])
theorem copy_eq{s:LX.State}(h:Small s):Lx s=some s:=by
 unfold Lx;rw[Sg (by have:=h.frames;omega) zq1,bnd,cellCopy_eq h.cells h.fields,bnd];unfold PU;rw[Int.toNat_natCast];exact Gx (k:=PT s s.cells) s.frames.length 0 (fun j b c a=>by
  unfold PS;rw[wy V,bnd,Sg (by have:=h.regs _ (List.getElem_mem (by omega:j<s.frames.length));omega) zq1,bnd])
theorem room_le{α:Type}{a:Nat}{l m:List α}(h:l.length+m.length<=100000)(b:a<=48):Room a l m:=by
 have:(l.length+m.length)*a<=100000*48:=Nat.mul_le_mul h b;exact⟨by omega,by omega⟩
def Si(l:List Int)(v:Val):List Int:=if v.kind=2/\v.n∉l then l++[v.n]else l
def Sj(l:List Int)(vs:List Val):List Int:=vs.foldl Si l
def cellAt(cells:List (List Val))(k:Int):List Val:=(idx cells k).getD []
def Zj(cells:List (List Val)):Nat->Nat->List Int->List Int
 |0,_,l=>l
 |m+1,k,l=>if h:k<l.length then Zj cells m (k+1) (Sj l (cellAt cells l[k]))else l
def NI(cells:List (List Val))(vs:List Val):List Int:=Zj cells 25 0 (Sj [] vs)
theorem Oz(l:List Int)(v:Val)(vs:List Val):Sj l (v::vs)=Sj (Si l v) vs:=rfl
theorem metV_pre(l:List Int)(v:Val):l<+:Si l v:=by
  unfold Si;split
  · exact List.prefix_append _ _
  · exact List.prefix_refl _
theorem NJ:∀(vs:List Val) (l:List Int),l<+:Sj l vs
 |[],l=>List.prefix_refl _
 |v::vs,l=>(metV_pre l v).trans (NJ vs _)
theorem bfs_pre(cells:List (List Val)):∀(m k:Nat) (l:List Int),l<+:Zj cells m k l
  |0,_,l=>List.prefix_refl _
  |m+1,k,l=>by
    unfold Zj;split
    · exact(NJ _ _).trans<|bfs_pre cells m _ _
    · exact List.prefix_refl _
theorem aaw:∀(n:Nat) (l:List Int),l.Nodup->(∀x∈l,0<=x/\x<n)->l.length<=n
  |0,l,_,h=>by
    cases l with
    |nil=>simp
    |cons x l=>have:=h x zq3;omega
  |n+1,l,hn,h=>by
    have d:=aaw n (l.erase (n:Int)) (hn.erase _) (fun x b=>by
      have a:=(hn.mem_erase_iff).1 b;have:=h x a.2;have c:=a.1;constructor
      · omega
      · push_cast at this;omega)
    have e:l.length<=(l.erase (n:Int)).length+1:=by rw[List.length_erase];split<;>omega
    omega
def xW(n:Nat)(l:List Int):Prop:=l.Nodup/\∀x∈l,0<=x/\x<n
theorem xW.len{n:Nat}{l:List Int}(h:xW n l):l.length<=n:=aaw n l h.1 h.2
theorem xW.nil{n:Nat}:xW n []:=⟨List.nodup_nil,fun x a=>by cases a⟩
theorem jV.ref{n:Nat}{v:Val}(h:jV n v)(a:v.kind=2):0<=v.n/\v.n<n:=by unfold jV at h;omega
theorem xW.v{n:Nat}{l:List Int}(h:xW n l){v:Val}(g:jV n v):xW n (Si l v):=by
  unfold Si;split
  · rename_i d;refine⟨List.nodup_append.2 ⟨h.1,by simp,fun a i b f=>?_⟩,fun x c=>?_⟩
    · simp at f;subst f;intro e;subst e;exact d.2 i
    · rcases List.mem_append.1 c with c|c
      · exact h.2 x c
      · simp at c;subst c;exact g.ref d.1
  · exact h
theorem xW.l{n:Nat}:∀{vs:List Val} {l:List Int},xW n l->(∀v∈vs,jV n v)->xW n (Sj l vs)
 |[],l,h,_=>h
 |v::vs,l,h,hv=>xW.l (vs:=vs) (l:=Si l v) (h.v (hv v zq3)) (fun w a=>hv w (List.mem_cons_of_mem _ a))
theorem LY{cells:List (List Val)}{k:Int}(h:0<=k/\k<cells.length):idx cells k=some (cellAt cells k)/\cellAt cells k∈cells:=by
 obtain⟨n,rfl⟩:=Int.eq_ofNat_of_zero_le h.1;unfold cellAt;rw[wy V];exact⟨Z,List.getElem_mem _⟩
theorem uV.at{cells:List (List Val)}(h:uV cells){k:Int}(a:0<=k/\k<cells.length):(1<=(cellAt cells k).length/\(cellAt cells k).length<=4)/\∀v∈cellAt cells k,jV cells.length v:=h.2 _ (LY a).2
theorem xW.Zj{cells:List (List Val)}(a:uV cells):∀{m k:Nat} {l:List Int},xW cells.length l->xW cells.length (Zj cells m k l)
  |0,_,l,h=>h
  |m+1,k,l,h=>by
    unfold Proofs.YtodkbibbgakkdaaGreatDoor.Zj;split
    · rename_i b;exact xW.Zj a<|h.l (a.at<|h.2 _<|List.getElem_mem b).2
    · exact h
def tQ(vs:List Val)(l:List Int):Prop:=∀v∈vs,v.kind=2->v.n∈l
theorem tQ.pre{vs:List Val}{l m:List Int}(h:tQ vs l)(hp:l<+:m):tQ vs m:=fun v b a=>hp.subset (h v b a)
theorem metV_in(l:List Int)(v:Val)(b:v.kind=2):v.n∈Si l v:=by
  unfold Si;split
  · simp
  · rename_i a;exact Decidable.not_not.1 fun h=>a ⟨b,h⟩
theorem metL_in:∀(vs:List Val) (l:List Int),tQ vs (Sj l vs)
  |[],l,v,hv,_=>by cases hv
  |w::vs,l,v,hv,hk=>by
    rw[Oz];rcases List.mem_cons.1 hv with rfl|hv
    · exact(NJ vs _).subset<|metV_in l v hk
    · exact metL_in vs _ v hv hk
theorem bfs_in{cells:List (List Val)}(d:uV cells):∀{m k:Nat} {l:List Int},xW cells.length l->cells.length<k+m->(∀j (a:j<l.length),j<k->tQ (cellAt cells l[j]) l)->∀x∈Zj cells m k l,tQ (cellAt cells x) (Zj cells m k l)
  |0,k,l,h,hm,a,x,hx=>by
    have:=h.len;obtain⟨j,b,rfl⟩:=List.getElem_of_mem hx;exact a j b (by have i:j<l.length:=b;omega)
  |m+1,k,l,h,hm,a,x,hx=>by
    unfold Proofs.YtodkbibbgakkdaaGreatDoor.Zj at hx⊢;split at hx
    · rename_i c;rw[dif_pos c];have f:=(d.at<|h.2 _<|List.getElem_mem c).2;have hp:=NJ (cellAt cells l[k]) l;refine bfs_in d (h.l f) V (fun j b o=>?_) x hx;by_cases e:j<l.length
      · have g:(Sj l<|cellAt cells l[k])[j]=l[j]:=(hp.getElem e).symm;rw[g];by_cases n:j<k
        · exact(a j e n).pre hp
        · have:j=k:=by omega
          subst this;exact metL_in _ _
      · omega
    · rename_i c;rw[dif_neg c];obtain⟨j,b,rfl⟩:=List.getElem_of_mem hx;exact a j b V
theorem reach_ok{cells:List (List Val)}(a:uV cells){vs:List Val}(d:∀v∈vs,jV cells.length v):xW cells.length (NI cells vs)/\tQ vs (NI cells vs)/\∀x∈NI cells vs,tQ (cellAt cells x) (NI cells vs):=by
 have b:xW cells.length (Sj [] vs):=xW.nil.l d;refine⟨xW.Zj a b,(metL_in vs []).pre (bfs_pre _ _ _ _),bfs_in a b (by have:=a.1;omega) (fun j e c=>absurd c (Nat.not_lt_zero _))⟩
theorem lk_lput{α:Type}(k a:Int)(v:α):∀l:List (Int×α),lk k (K9 a v l)=if k=a then some v else lk k l
  |[]=>by unfold K9 lk;by_cases h:k=a<;>simp[h,lk]
  |p::l=>by
    unfold K9;by_cases h:a=p.1
    · rw[if_pos h];show(if k=p.1 then some v else lk k l)=if k=a then some v else(if k=p.1 then some p.2 else lk k l)
      by_cases e:k=p.1
      · rw[if_pos e,if_pos V]
      · rw[if_neg e,if_neg V,if_neg e]
    · rw[if_neg h];show(if k=p.1 then some p.2 else lk k (K9 a v l))=if k=a then some v else(if k=p.1 then some p.2 else lk k l)
      by_cases e:k=p.1
      · rw[if_pos e,if_pos e,if_neg V]
      · rw[if_neg e,if_neg e,lk_lput k a v l]
def Seen(l:List Int)(m:List (Int×Bool)):Prop:=∀k,(lk k m).getD false=decide (k∈l)
theorem Seen.nil:Seen [] []:=fun k=>rfl
theorem Seen.put{l:List Int}{m:List (Int×Bool)}(h:Seen l m)(n:Int):Seen (l++[n]) (K9 n true m):=by
  intro k;rw[lk_lput];by_cases e:k=n
  · simp[e]
  · rw[if_neg e,h k,Bool.eq_iff_iff];simp[e]
theorem Sk{ρ:Type}{body:Val->List Int×List (Int×Bool)->(List Int×List (Int×Bool)->Option ρ)->Option ρ}{K:List Int×List (Int×Bool)->Option ρ}
    (c:∀x l m b,l.length<=1000->body x (l,m) b=bif (decide (x.kind=2)&&(!((lk x.n m).getD false)))then b (l++[x.n],K9 x.n true m)else b (l,m)):
    ∀(vs:List Val) (l:List Int) (m:List (Int×Bool)),Seen l m->l.length+vs.length<=1000->∃d,Seen (Sj l vs) d/\each body K vs (l,m)=K (Sj l vs,d)
  |[],l,m,h,_=>⟨m,h,rfl⟩
  |v::vs,l,m,h,hl=>by
    simp only[List.length_cons]at hl;rw[iH,c v l m _ V,h v.n,Oz];unfold Si;by_cases a:v.kind=2/\v.n∉l
    · rw[if_pos a,dT a.1,dF a.2,Bool.true_and,Bool.not_false,cond_true];exact Sk c vs _ _ (h.put v.n) (by simp;omega)
    · rw[if_neg a,show(decide (v.kind=2)&& !decide (v.n∈l))=false by rw[Bool.and_eq_false_iff];simp;simp only[not_and,Decidable.not_not]at a;by_cases e:v.kind=2<;>simp[e,a],cond_false];exact Sk c vs _ _ h V
theorem bfs_loop{cells:List (List Val)}(c:uV cells):∀(m N k:Nat) (l:List Int) (s:List (Int×Bool)),xW cells.length l->Seen l s->cells.length<k+m->m<N->k<=l.length->again (rW cells) N ((k:Int),l,s)=some (Zj cells m k l,0)
  |m,0,k,l,s,h,hs,hm,hN,hk=>by omega
  |0,N+1,k,l,s,h,hs,hm,hN,hk=>by have:=h.len;omega
  |m+1,N+1,k,l,s,h,hs,hm,hN,hk=>by
    rw[Gi];unfold rW Proofs.YtodkbibbgakkdaaGreatDoor.Zj;simp only;have r:=h.len;have hn:=c.1;by_cases a:k<l.length
    · rw[dT V,cond_true,wy a,bnd,dif_pos a];have i:=h.2 _<|List.getElem_mem a;have g:=c.at i;rw[(LY i).1,bnd];have j:(fun(s:Int×List Int×List (Int×Bool))(b:Int×List Int×List (Int×Bool)->Option (List Int×Int))=>match s with|(e,N9,Gp)=>bif decide ((e:Int)<(N9.length:Int))then(idx N9 e).bind fun d=>(idx cells d).bind fun f=>each yQ (yR e b) f (N9,Gp)else some (N9,0))=rW cells:=rfl;rw[j];obtain⟨o,p,q⟩:=Sk (body:=yQ) (K:=yR (k:Int) (again (rW cells) N)) (fun x l m t r=>by
        unfold yQ;simp only[CB];cases (decide (x.kind=2)&&(!((lk x.n m).getD false)))with
        |false=>rfl
        |true=>rw[cond_true,cond_true,kM (room_le (by simp;omega) zq1)]) (cellAt cells l[k]) l s hs (by have:=g.1.2;omega)
      rw[q];unfold yR;simp only;rw[gI V V];have hp:=(NJ (cellAt cells l[k]) l).length_le;exact bfs_loop c m N (k+1) _ o (h.l g.2) p V V V
    · rw[dF V,cond_false,dif_neg a]
theorem reach_eq{N:Nat}(hN:100<=N){cells:List (List Val)}(b:uV cells){vs:List Val}(a:∀v∈vs,jV cells.length v)(f:vs.length<=400):Lt N cells vs=some (NI cells vs,0):=by
 unfold Lt;rw[(all_ok cells).2 b,dF zq3,cond_false,dF V,cond_false];have k1:∀l:List Val,(∀v∈l,jV cells.length v)->each (CF cells) (yS N cells vs) l ()=yS N cells vs ():=by
  intro l;induction l with
  |nil=>intro _;rfl
  |cons x l ih=>
   intro h;rw[iH];unfold CF;rw[(vS _ _).2 (h x zq3),dF zq3,cond_false];exact ih fun v a=>h v<|List.mem_cons_of_mem _ a
 rw[k1 vs a];unfold yS;obtain⟨c,d,e⟩:=Sk (body:=CE) (K:=G8 N cells) (fun x l m g f=>by
  unfold CE;simp only[Cz];cases (decide (x.kind=2)&&(!((lk x.n m).getD false)))with
  |false=>rfl
  |true=>rw[cond_true,cond_true,kM (room_le (by simp;omega) zq1)]) vs [] [] Seen.nil (by simp;omega)
 rw[e];exact bfs_loop b 25 N 0 _ c (xW.nil.l a) d (by have:=b.1;omega) V V
def ren(l:List Int)(v:Val):Val:=if v.kind=2 then⟨v.kind,(l.idxOf v.n:Nat)⟩else v
def OQ(l:List Int)(f:LX.Frame):LX.Frame:={f with regs:=f.regs.map (ren l)}
def roots(a:List LX.Frame):List Val:=a.flatMap (·.regs)
def mi(s:LX.State):List Int:=NI s.cells (roots s.frames)
def jl(s:LX.State):LX.State:=⟨s.frames.map (OQ (mi s)),(mi s).map (fun k=>(cellAt s.cells k).map (ren (mi s))),s.status,s.bO⟩
structure U7(s:LX.State):Prop where
 small:Small s
 cells:uV s.cells
 vals:∀f∈s.frames,∀v∈f.regs,jV s.cells.length v
theorem xX.sw{a:List bP}{s:LX.State}(h:xX a s)(ha:pR a):U7 s where
 small:=h.small ha
 cells:=h.cells
 vals f hf:=by obtain⟨x,g⟩:=zG h.frames f hf;exact g.vals
theorem U7.roots{s:LX.State}(h:U7 s):∀v∈roots s.frames,jV s.cells.length v:=by
 intro v a;unfold YtodkbibbgakkdaaGreatDoor.roots at a;obtain⟨f,b,a⟩:=List.mem_flatMap.1 a;exact h.vals f b v a
theorem roots_len(a:List LX.Frame)(h:∀f∈a,f.regs.length<=40):(roots a).length<=40*a.length:=by
 induction a with
 |nil=>simp[roots]
 |cons f l ih=>
  have:=h f zq3;have:=ih fun g b=>h g<|List.mem_cons_of_mem _ b;unfold roots at*;rw[List.flatMap_cons,List.length_append,List.length_cons];omega
theorem U7.rlen{s:LX.State}(h:U7 s):(YtodkbibbgakkdaaGreatDoor.roots s.frames).length<=400:=by
 have:=roots_len s.frames h.small.regs;have:=h.small.frames;omega
theorem U7.reach{s:LX.State}(h:U7 s):xW s.cells.length (mi s)/\tQ (YtodkbibbgakkdaaGreatDoor.roots s.frames) (mi s)/\∀x∈mi s,tQ (cellAt s.cells x) (mi s):=reach_ok h.cells h.roots
theorem map_loop{α ρ:Type}{body:Int->List α->(List α->Option ρ)->Option ρ}{K:List α->Option ρ}{g:α->α}{P:α->Prop}
  (e:∀(i:Nat) (x:List α) a nx,x[i]? =some a->P a->body (i:Int) x nx=nx (x.set i (g a))):
  ∀(d c:List α),(∀a∈d,P a)->upto body K (c.length:Int) d.length (c++d)=K (c++d.map g)
 |[],c,_=>by simp[upto]
 |a::d,c,h=>by
  rw[List.length_cons,U5,e c.length (c++a::d) a _ zq3 (h a zq3)];have:=map_loop (K:=K) e d (c++[g a]) fun b e=>h b<|List.mem_cons_of_mem _ e;rw[show(c++a::d).set c.length (g a)=(c++[g a])++d by simp,show((c.length:Int)+1)=((c++[g a]).length:Nat) by simp,this];simp
theorem U8{α ρ:Type}{body:Int->List α->(List α->Option ρ)->Option ρ}{K:List α->Option ρ}{g:α->α}{P:α->Prop}
  (b:∀(i:Nat) (x:List α) a nx,x[i]? =some a->P a->body (i:Int) x nx=nx (x.set i (g a))) (l:List α) (hp:∀a∈l,P a):upto body K 0 l.length l=K (l.map g):=by
 have:=map_loop (K:=K) b l [] hp;simpa using this
def Yo(l:List Int)(m:List (Int×Int)):Prop:=∀k,lk k m=if k∈l then some ((l.idxOf k:Nat):Int)else none
theorem turn_eq{l:List Int}{m:List (Int×Int)}(h:Yo l m)(vs:List Val)(f:tQ vs l):Xi vs m=some (vs.map (ren l)):=by
  unfold Xi;rw[Int.toNat_natCast];refine U8 (P:=fun v=>v.kind=2->v.n∈l) (fun i x a g c hp=>?_) vs fun v d=>f v d;unfold TI Og;rw[kC,c,bnd];by_cases b:a.kind=2
  · rw[dT b,cond_true,h a.n,if_pos (hp b)];simp[ren,b]
  · rw[dF b,cond_false];have:x.set i a=x:=by
      obtain⟨e,rfl⟩:=List.getElem?_eq_some_iff.1 c;exact List.set_getElem_self e
    simp[ren,b,this]
theorem Yp{s:LX.State}(j:uV s.cells){K:List (List Val)×List Int×List (Int×Int)->Option LX.State}:∀(b a:List Int) (m:List (Int×Int)),xW s.cells.length (a++b)->Yo a m->
    ∃g,Yo (a++b) g/\gU (zy s) K (a.length:Int) b (a.map (cellAt s.cells),a,m)=K ((a++b).map (cellAt s.cells),a++b,g)
  |[],a,m,_,h=>⟨m,by simpa using h,by simp[gU]⟩
  |k::b,a,m,hm,h=>by
    have i:a++k::b=(a++[k])++b:=by simp
    have f:k∉a:=by
      intro f;exact(List.nodup_append.1 hm.1).2.2 k f k zq3 Z
    have n:=hm.len;have hn:=j.1;simp only[List.length_append,List.length_cons]at n;have p:=hm.2 k zq3;rw[yf];obtain⟨g,o,l⟩:=Yp j (K:=K) b (a++[k]) (K9 k (a.length:Int) m) (by rw[<-i];exact hm) (fun q=>by
      rw[lk_lput];by_cases e:q=k
      · subst e;rw[if_pos rfl,if_pos zq3,List.idxOf_append,if_neg f];simp
      · rw[if_neg e,h q];by_cases d:q∈a
        · rw[if_pos d,if_pos (by simp[d]),List.idxOf_append,if_pos d]
        · rw[if_neg d,if_neg (by simp[d,e])])
    refine⟨g,by rw[i];exact o,?_⟩;have c:(((a++[k]).length:Nat):Int)=(a.length:Int)+1:=by simp
    rw[c]at l;rw[i,<-l];generalize gU (zy s) K ((a.length:Int)+1) b=K1;unfold zy;simp only;rw[(LY p).1,bnd,kM f,kM (room_le (by simp;omega) zq1),List.map_append];rfl
theorem frames_sweep{l:List Int}{m:List (Int×Int)}(h:Yo l m)(K:List LX.Frame->Option LX.State)(b:List LX.Frame)(d:∀f∈b,tQ f.regs l):upto (F8 m) K 0 b.length b=K (b.map (OQ l)):=
 U8 (P:=fun f=>tQ f.regs l) (fun i x a e c hp=>by
  unfold F8;rw[kC,c,bnd,turn_eq h a.regs hp,bnd];simp[OQ]) b d
theorem cells_sweep{l:List Int}{m:List (Int×Int)}(h:Yo l m)(K:List (List Val)->Option LX.State)(cs:List (List Val))(b:∀c∈cs,tQ c l):upto (I1 m) K 0 cs.length cs=K (cs.map (fun c=>c.map (ren l))):=
 U8 (P:=fun c=>tQ c l) (fun i x a e d hp=>by
  unfold I1;rw[kC,d,bnd,turn_eq h a hp,bnd];simp) cs b
theorem aax{K:List Val->Option LX.State}:∀(b:List LX.Frame) (a:List Val),a.length+(roots b).length<=1000->each CJ K b a=K (a++roots b)
 |[],a,_=>by simp[qW,roots]
 |f::b,a,h=>by
  have e:roots (f::b)=f.regs++roots b:=rfl;rw[e,List.length_append]at h;rw[iH];have c:=aax (K:=K) b (a++f.regs) (by simp;omega);generalize each CJ K b=K1 at c⊢;unfold CJ;rw[kM (room_le V zq1),c,e,List.append_assoc]
theorem Yq{a:List LX.Frame}{l:List Int}(h:tQ (roots a) l):∀f∈a,tQ f.regs l:=fun f c v d b=>h v (List.mem_flatMap.2 ⟨f,c,d⟩) b
theorem Yr{N:Nat}(hN:100<=N){s:LX.State}(h:U7 s):G9 N s=some (jl s):=by
 have d:=h.reach;unfold G9;rw[aax s.frames [] (by have:=h.rlen;simp;omega),List.nil_append];unfold LC;rw[reach_eq hN h.cells h.roots h.rlen,bnd,dF zq3,cond_false,copy_eq h.small,bnd];have e:NI s.cells (roots s.frames)=mi s:=rfl;simp only[e];obtain⟨j,b,g⟩:=Yp h.cells (K:=CG s) (mi s) [] [] (by simpa using d.1) (fun k=>by simp[lk]);have a:gU (zy s) (CG s) 0 (mi s) ([],([]:List Int),([]:List (Int×Int)))=_:=g;rw[a];simp only[List.nil_append]at b⊢;unfold CG;simp only[Int.toNat_natCast];rw[frames_sweep b _ _ (Yq d.2.1)];unfold LB;rw[Int.toNat_natCast,cells_sweep b _ _ (fun c f=>by
  obtain⟨k,i,rfl⟩:=List.mem_map.1 f;exact d.2.2 k i)]
 unfold LA jl;rw[List.map_map];rfl
def tC(r:List Val)(i:Int):Val:=(idx r i).getD ⟨0,0⟩
def opP(k:Int)(b c:Val):Option Val:=
 if k=5 then some ⟨1,if b=c then 1 else 0⟩else if b.kind≠1\/c.kind≠1 then none else if k=4 then some ⟨1,if b.n<c.n then 1 else 0⟩else
 let n:=if k=1 then b.n+c.n else if k=2 then b.n-c.n else b.n*c.n
 if-1000000000<=n/\n<=1000000000 then some ⟨1,n⟩else none
def Zk(f:LX.Frame)(x:bP):LX.Frame:={f with at_:=min (f.at_+1) ((x.code.length:Int)-1)}
def newP(s:LX.State)(c:Ins):Option LX.State:=
 if s.cells.length=24 then none else some ⟨s.frames.dropLast++(s.frames.getLast?.map fun h=>{h with regs:=h.regs.set c.a.toNat ⟨2,s.cells.length⟩}).toList,s.cells++[List.replicate c.b.toNat ⟨0,0⟩],s.status,s.bO⟩
def uP(a:List bP)(pre:List LX.Frame)(f:LX.Frame)(cells:List (List Val))(st wh:Int)(x:bP)(c:Ins):Option (LX.State×Option Int×Bool):=
  let g:=Zk f x;let r:=tC f.regs;let put:=fun(v:Val)=>(⟨pre++[{g with regs:=f.regs.set c.a.toNat v}],cells,st,wh⟩:LX.State);let d:=(⟨pre++[g],cells,st,wh⟩:LX.State);let jump:=(⟨pre++[{g with at_:=c.b}],cells,st,wh⟩:LX.State);let e:=fun(v:Val)=>v.kind≠2\/((cellAt cells v.n).length:Int)<=c.c
  if c.op=1 then some (put ⟨1,c.b⟩,none,false)else
  if c.op=2 then some (put (r c.b),none,false)else
  if c.op=3 then(opP (c.args.headD 0) (r c.b) (r c.c)).map fun v=>(put v,none,false)else
  if c.op=4 then(if e (r c.b)then none else some (put (tC (cellAt cells (r c.b).n) c.c),none,false))else
  if c.op=6 then(if e (r c.a)then none else some (⟨pre++[g],cells.set (r c.a).n.toNat ((cellAt cells (r c.a).n).set c.c.toNat (r c.b)),st,wh⟩,none,false))else
  if c.op=5 then(newP (if cells.length=24 then jl d else d) c).map fun t=>(t,none,false)else
  if c.op=7 then(if pre.length+1=10 then none else some (⟨pre++[g]++[⟨c.b,0,c.args.map r++List.replicate (((idx a c.b).map (·.regs)).getD 0-c.args.length).toNat ⟨0,0⟩,c.a⟩],cells,st,wh⟩,none,false))else
  if c.op=8 then some (match pre.getLast? with
    |none=>⟨[],cells,1,wh⟩
    |some h=>⟨pre.dropLast++[{h with regs:=h.regs.set f.iX.toNat (r c.a)}],cells,st,wh⟩,none,false)else
  if c.op=9 then(if(r c.a).kind=1 then some (d,some (r c.a).n,false)else none)else
  if c.op=11 then(if(r c.a).kind=1 then some (⟨pre++[g],cells,3,(r c.a).n⟩,none,true)else none)else
  if c.op=12 then some (jump,none,false)else
  if c.op=13 then some (if(r c.a).kind≠2/\(r c.a).n=0 then jump else d,none,false)else
  some (d,none,true)
def R1(r:Option (Ps×Bool×LX.State))(q:Option (LX.State×Option Int×Bool)):Prop:=∃o a b,r=some (o,a,b)/\match q with|none=>a=false|some (t,said,p)=>a=true/\b=t/\o=⟨said.isSome,said.getD 0,p⟩
theorem NK{R:Int}{r:List Val}(b:(r.length:Int)=R){i:Int}(h:Im R i):idx r i=some (tC r i)/\tC r i∈r:=by
 obtain⟨a,c⟩:=h;obtain⟨n,rfl⟩:=Int.eq_ofNat_of_zero_le a;unfold tC;rw[wy V];exact⟨Z,List.getElem_mem _⟩
theorem Sl(pre:List LX.Frame)(f:LX.Frame):idx (pre++[f]) (pre.length:Int)=some f:=by rw[kC];simp
theorem zH(pre:List LX.Frame)(f g:LX.Frame):(pre++[f]).set pre.length g=pre++[g]:=by simp
theorem wO(pre:List LX.Frame)(f:LX.Frame):(((pre++[f]).length:Int)-1)=(pre.length:Int):=by simp
theorem mul_bd{x y:Int}(c: -1000000000<=x/\x<=1000000000)(a: -1000000000<=y/\y<=1000000000): -1000000000000000000<=x*y/\x*y<=1000000000000000000:=by
 have b:(x*y).natAbs<=1000000000*1000000000:=by
  rw[Int.natAbs_mul];exact Nat.mul_le_mul V V
 omega
theorem jV.int{n:Nat}{v:Val}(h:jV n v)(a:v.kind=1): -1000000000<=v.n/\v.n<=1000000000:=by unfold jV at h;omega
theorem op_eq{n:Nat}{k:Int}{b c:Val}(q:1<=k/\k<=5)(o:jV n b)(i:jV n c):∃v,vm_op k b c=some (v,(opP k b c).isSome)/\∀w,opP k b c=some w->v=w:=by
  unfold vm_op opP Ky;by_cases f:k=5
  · rw[dT f,cond_true,if_pos f];by_cases e:b=c
    · subst e;simp
    · rw[if_neg e];have:(decide (b.kind=c.kind)&&decide (b.n=c.n))=false:=by
        obtain⟨k1,p⟩:=b;obtain⟨k2,r⟩:=c;rw[Bool.and_eq_false_iff];simp at e⊢;by_cases h:k1=k2
        · right;exact e h
        · left;exact h
      rw[this];simp
  rw[dF f,cond_false,if_neg f];by_cases d:b.kind=1/\c.kind=1
  · rw[show(decide ((b.kind:Int)≠1)||decide ((c.kind:Int)≠1))=false by simp[d.1,d.2],cond_false,if_neg (by simp[d.1,d.2])];have j:=o.int d.1;have c1:=i.int d.2;have m1:=mul_bd j c1;have a:∀z:Int,∃v,some ((⟨1,z⟩:Val),(decide ((-1000000000:Int)<=z)&&decide ((z:Int)<=1000000000)))=some (v,(if-1000000000<=z/\z<=1000000000 then some (⟨1,z⟩:Val)else none).isSome)/\∀w,(if-1000000000<=z/\z<=1000000000 then some (⟨1,z⟩:Val)else none)=some w->v=w:=by
      intro z;by_cases h: -1000000000<=z/\z<=1000000000
      · rw[if_pos h,dT h.1,dT h.2];exact⟨_,Z,fun w e=>by cases e;rfl⟩
      · rw[if_neg h];refine⟨⟨1,z⟩,?_,fun w e=>by cases e⟩
        · congr 2;rw[Option.isSome_none,Bool.and_eq_false_iff];simp only[decide_eq_false_iff_not];omega
    by_cases g:k=4
    · subst g;rw[if_pos rfl];simp only[Int.reduceEq,decide_false,decide_true,cond_false,cond_true];by_cases e:b.n<c.n<;>simp[e]
    rw[if_neg g];by_cases l:k=1
    · subst l;simp only[Int.reduceEq,decide_true,cond_true,if_true];rw[gI V V];exact a _
    by_cases m:k=2
    · subst m;simp only[Int.reduceEq,decide_true,decide_false,cond_true,cond_false,if_true,if_false];rw[gI V V];exact a _
    · obtain rfl:k=3:=by omega
      simp only[Int.reduceEq,decide_true,decide_false,cond_true,cond_false,if_true,if_false];rw[gI V V];exact a _
  · rw[show(decide ((b.kind:Int)≠1)||decide ((c.kind:Int)≠1))=true by simp;omega,cond_true,if_pos V];exact⟨_,Z,fun w e=>by cases e⟩
theorem qQ{a:List bP}{n:Nat}{f:LX.Frame}:∀{l:List LX.Frame} {t:Int},mR a n t (l++[f])↔mR a n t l/\(∃x,JE a n f x)/\(0<=f.iX/\f.iX<(match l.getLast? with|none=>t|some g=>g.regs.length))
 |[],t=>by simp[mR]
 |g::l,t=>by
  show((∃x,JE a n g x)/\(0<=g.iX/\g.iX<t)/\mR a n g.regs.length (l++[f]))↔_;rw[qQ (l:=l)];have e:(match (g::l).getLast? with|none=>t|some g=>((g.regs.length:Int)))=(match l.getLast? with|none=>((g.regs.length:Int))|some g=>(g.regs.length:Int)):=by
   rw[List.getLast?_cons];cases l.getLast?<;>rfl
  rw[e];simp only[mR,and_assoc]
structure zg(a:List bP)(pre:List LX.Frame)(f:LX.Frame)(cells:List (List Val))(x:bP)(c:Ins):Prop where
 fr:JE a cells.length f x
 ins:idx x.code f.at_=some c
 good:Ms a x.regs x.code.length c
 chain:mR a cells.length 1 pre
 iX:0<=f.iX/\f.iX<ahead pre
 many:pre.length+1<=10
 cok:uV cells
 proc:(1<=x.regs/\x.regs<=40)/\sO x
theorem top_ok{a:List bP}(e:pR a){pre:List LX.Frame}{f:LX.Frame}{cells:List (List Val)}{st wh:Int}(h:xX a ⟨pre++[f],cells,st,wh⟩):∃x c,zg a pre f cells x c:=by
 obtain⟨j,⟨x,g⟩,i⟩:=qQ.1 h.frames;have d:=e.mem g.proc;have hat:=g.at_;obtain⟨n,hn⟩:=Int.eq_ofNat_of_zero_le hat.1;have b:n<x.code.length:=by omega
 refine⟨x,x.code[n],g,by rw[hn,wy b],e.ins x d.1 _<|List.getElem_mem _,j,i,?_,h.cells,⟨by omega,d.2.2.2⟩⟩;have:=h.many;simpa using this
theorem zg.Zk{a:List bP}{pre:List LX.Frame}{f:LX.Frame}{cells:List (List Val)}{x:bP}{c:Ins}(h:zg a pre f cells x c):JE a cells.length (Zk f x) x where
 proc:=h.fr.proc
 at_:=by
  have:=h.fr.at_;have:=h.proc.2;unfold sO at this;simp only[YtodkbibbgakkdaaGreatDoor.Zk];omega
 regs:=h.fr.regs
 vals:=h.fr.vals
theorem zg.reg{a:List bP}{pre:List LX.Frame}{f:LX.Frame}{cells:List (List Val)}{x:bP}{c:Ins}(h:zg a pre f cells x c){i:Int}(b:Im x.regs i):idx f.regs i=some (tC f.regs i)/\jV cells.length (tC f.regs i):=by
 have:=NK h.fr.regs b;exact⟨this.1,h.fr.vals _ this.2⟩
theorem zg.sw{a:List bP}{pre:List LX.Frame}{f:LX.Frame}{cells:List (List Val)}{x:bP}{c:Ins}(ha:pR a)(h:zg a pre f cells x c){st wh:Int}{g:LX.Frame}(hg:JE a cells.length g x):U7 ⟨pre++[g],cells,st,wh⟩ where
  small:=⟨by have:=h.many;simp;omega,fun k hk=>by
    rcases List.mem_append.1 hk with hk|hk
    · obtain⟨y,hy⟩:=zG h.chain k hk;have:=hy.regs;have:=(ha.mem hy.proc).2.2.1;omega
    · simp at hk;subst hk;have:=hg.regs;have:=h.proc.1;omega,h.cok.1,fun c hc=>(h.cok.2 c hc).1.2⟩
  cells:=h.cok
  vals k hk:=by
    rcases List.mem_append.1 hk with hk|hk
    · obtain⟨y,hy⟩:=zG h.chain k hk;exact hy.vals
    · simp at hk;subst hk;exact hg.vals
section
variable{a:List bP}{pre:List LX.Frame}{f:LX.Frame}{cells:List (List Val)}{st wh:Int}{x:bP}{c:Ins}{N:Nat}
theorem CY(h:zg a pre f cells x c):wL N ⟨pre++[f],cells,st,wh⟩ a=(bif decide ((c.op:Int)=1)then(idx f.regs c.a).bind fun k=>ql false (pre++[{Zk f x with regs:=(f.regs.set (c.a).toNat (⟨1,c.b⟩:Val))}]) cells st wh else bif decide ((c.op:Int)=2)then(idx f.regs c.b).bind fun g=>(idx f.regs c.a).bind fun n=>ql false (pre++[{Zk f x with regs:=(f.regs.set (c.a).toNat g)}]) cells st wh else bif decide ((c.op:Int)=3)then(idx c.args 0).bind fun j=>(idx f.regs c.b).bind fun e=>(idx f.regs c.c).bind fun i=>(vm_op j e i).bind fun d=>(idx f.regs c.a).bind fun l=>LV ⟨pre++[f],cells,st,wh⟩ d.2 (pre++[{Zk f x with regs:=(f.regs.set (c.a).toNat d.1)}])else bif decide ((c.op:Int)=4)then mE N ⟨pre++[f],cells,st,wh⟩ f x c a (decide ((c.op:Int)=4))else mE N ⟨pre++[f],cells,st,wh⟩ f x c a (decide ((c.op:Int)=6))):=by
 have o:=h.many;have hat:=h.fr.at_;have m:=h.proc.2;unfold sO at m;unfold wL;simp only[wO];rw[gI V V,Sl,bnd,h.fr.proc,bnd,h.ins,bnd,gI V V,gI V V];simp only[Int.toNat_natCast,zH];rfl
theorem step1(h:zg a pre f cells x c)(b:c.op=1)(d:Im x.regs c.a):R1 (wL N ⟨pre++[f],cells,st,wh⟩ a) (uP a pre f cells st wh x c):=by
 rw[CY h,b];simp only[Int.reduceEq,decide_true,decide_false,cond_true,cond_false];rw[(h.reg d).1,bnd];unfold uP;simp only[b,if_true];exact⟨_,_,_,Z,Z,Z,Z⟩
theorem step2(h:zg a pre f cells x c)(d:c.op=2)(g:Im x.regs c.a)(e:Im x.regs c.b):R1 (wL N ⟨pre++[f],cells,st,wh⟩ a) (uP a pre f cells st wh x c):=by
 rw[CY h,d];simp only[Int.reduceEq,decide_true,decide_false,cond_true,cond_false];rw[(h.reg e).1,bnd,(h.reg g).1,bnd];unfold uP;simp only[d,Int.reduceEq,if_true,if_false];exact⟨_,_,_,Z,Z,Z,Z⟩
theorem step3(h:zg a pre f cells x c)(d:c.op=3)(m:Im x.regs c.a)(j:Im x.regs c.b)(i:Im x.regs c.c){n:Int}(hn:c.args=[n])(g:1<=n/\n<=5):R1 (wL N ⟨pre++[f],cells,st,wh⟩ a) (uP a pre f cells st wh x c):=by
 rw[CY h,d,hn];simp only[Int.reduceEq,decide_true,decide_false,cond_true,cond_false];obtain⟨v,k,l⟩:=op_eq g (h.reg j).2 (h.reg i).2;rw[idx0,bnd,(h.reg j).1,bnd,(h.reg i).1,bnd,k,bnd,(h.reg m).1,bnd];unfold uP LV;simp only[d,hn,Int.reduceEq,if_true,if_false,List.headD_cons];cases e:opP n (tC f.regs c.b) (tC f.regs c.c)with
 |none=>exact⟨_,_,_,rfl,rfl⟩
 |some w=>rw[l w e];exact⟨_,_,_,Z,Z,Z,Z⟩
theorem idx_cell{v:Val}(b:uV cells)(h:jV cells.length v)(c:v.kind=2):idx cells v.n=some (cellAt cells v.n)/\(1<=(cellAt cells v.n).length/\(cellAt cells v.n).length<=4):=by
 have a:=h.ref c;exact⟨(LY a).1,(b.at a).1⟩
theorem idx_fld{v:Val}{i:Int}(a:0<=i)(h:i<((cellAt cells v.n).length:Int)):idx (cellAt cells v.n) i=some (tC (cellAt cells v.n) i):=(NK Z ⟨a,h⟩).1
theorem field_get(h:zg a pre f cells x c)(e:c.op=4)(m:Im x.regs c.a)(l:Im x.regs c.b)(k:0<=c.c/\c.c<4):R1 (wL N ⟨pre++[f],cells,st,wh⟩ a) (uP a pre f cells st wh x c):=by
  rw[CY h,e];simp only[Int.reduceEq,decide_true,decide_false,cond_true,cond_false];unfold mE RY E8 E5;simp only[wO,Int.toNat_natCast,zH,e,Int.reduceEq,decide_true,decide_false,cond_true,cond_false];have i:=h.reg l;rw[i.1];simp only[bnd];unfold uP;simp only[e,Int.reduceEq,if_true,if_false];by_cases g:(tC f.regs c.b).kind=2
  · have d:=idx_cell h.cok i.2 g;rw[dF V,cond_false,d.1];simp only[bnd];by_cases j:((cellAt cells (tC f.regs c.b).n).length:Int)<=c.c
    · rw[dT j,cond_true,if_pos V];exact⟨_,_,_,Z,Z⟩
    · rw[dF j,cond_false,if_neg V,idx_fld k.1 V,bnd,(h.reg m).1,bnd];exact⟨_,_,_,Z,Z,Z,Z⟩
  · rw[dT g,cond_true,if_pos (.inl g)];exact⟨_,_,_,Z,Z⟩
theorem field_put(h:zg a pre f cells x c)(e:c.op=6)(m:Im x.regs c.a)(l:Im x.regs c.b)(k:0<=c.c/\c.c<4):R1 (wL N ⟨pre++[f],cells,st,wh⟩ a) (uP a pre f cells st wh x c):=by
  rw[CY h,e];simp only[Int.reduceEq,decide_true,decide_false,cond_true,cond_false];unfold mE RY E8 E5;simp only[wO,Int.toNat_natCast,zH,e,Int.reduceEq,decide_true,decide_false,cond_true,cond_false];have i:=h.reg m;rw[i.1];simp only[bnd];unfold uP;simp only[e,Int.reduceEq,if_true,if_false];by_cases g:(tC f.regs c.a).kind=2
  · have d:=idx_cell h.cok i.2 g;rw[dF V,cond_false,d.1];simp only[bnd];by_cases j:((cellAt cells (tC f.regs c.a).n).length:Int)<=c.c
    · rw[dT j,cond_true,if_pos V];exact⟨_,_,_,Z,Z⟩
    · rw[dF j,cond_false,if_neg V,(h.reg l).1,bnd,idx_fld k.1 V,bnd];exact⟨_,_,_,Z,Z,Z,Z⟩
  · rw[dT g,cond_true,if_pos (.inl g)];exact⟨_,_,_,Z,Z⟩
theorem aay(g:LX.Frame):jl ⟨pre++[g],cells,st,wh⟩=⟨pre.map (OQ (mi ⟨pre++[g],cells,st,wh⟩))++[OQ (mi ⟨pre++[g],cells,st,wh⟩) g],(jl ⟨pre++[g],cells,st,wh⟩).cells,st,wh⟩:=by
 unfold jl;simp
theorem sweep_len{s:LX.State}(h:U7 s):(jl s).cells.length<=s.cells.length/\(jl s).cells.length<=24:=by
 have a:=h.reach.1.len;have:=h.cells.1;unfold jl;simp;omega
theorem fresh_j1(d:List LX.Frame)(g:LX.Frame)(cs:List (List Val))(k:d.length<=20)(f:cs.length<=24)(i:Im g.regs.length c.a)(j:1<=c.b/\c.b<=4):∃e t,yZ c (d++[g]) cs st wh=some (e,t)/\match newP ⟨d++[g],cs,st,wh⟩ c with|none=>e=false|some u=>e=true/\t=u:=by
  unfold yZ newP;simp only[wO];by_cases h:cs.length=24
  · rw[dT V,cond_true,if_pos h];exact⟨_,_,Z,Z⟩
  · rw[dF V,cond_false,if_neg h,gI V V,Sl,bnd,(NK rfl i).1,bnd,kM V,kM (room_le (by simp;omega) zq1),Int.toNat_natCast,zH];refine⟨_,_,Z,Z,?_⟩;simp
theorem step5(q:pR a)(hN:100<=N)(h:zg a pre f cells x c)(g:c.op=5)(s:Im x.regs c.a)(o:1<=c.b/\c.b<=4):R1 (wL N ⟨pre++[f],cells,st,wh⟩ a) (uP a pre f cells st wh x c):=by
  rw[CY h,g];simp only[Int.reduceEq,decide_true,decide_false,cond_true,cond_false];unfold mE XH;simp only[wO,Int.toNat_natCast,zH,g,Int.reduceEq,decide_true,decide_false,cond_true,cond_false];unfold uP;simp only[g,Int.reduceEq,if_true,if_false];have v:=h.many;have m:=zg.sw q h (st:=st) (wh:=wh) h.Zk;have i:Im (Zk f x).regs.length c.a:=by have:=h.Zk.regs;rw[this];exact s
  have k:∀d:LX.State,(∃n t,yZ c d.frames d.cells d.status d.bO=some (n,t)/\match newP d c with|none=>n=false|some u=>n=true/\t=u)->
      R1 ((yZ c d.frames d.cells d.status d.bO).bind fun y=>some ((⟨false,0,false⟩:Ps),y.1,y.2)) ((newP d c).map fun t=>(t,none,false)):=by
    rintro d⟨n,t,p,l⟩;rw[p,bnd];cases e:newP d c with
    |none=>rw[e]at l;exact⟨_,_,_,Z,l⟩
    |some u=>rw[e]at l;exact⟨_,_,_,Z,l.1,l.2,Z⟩
  by_cases j:cells.length=24
  · rw[dT V,cond_true,if_pos j];have r:({f with at_:=min (f.at_+1) ((x.code.length:Int)-1)}:LX.Frame)=Zk f x:=rfl;rw[r,Yr hN m,bnd];refine k _ ?_;rw[aay];exact fresh_j1 _ _ _ (by simp;omega) (sweep_len m).2 (by simpa[OQ]using i) o
  · rw[dF V,cond_false,if_neg j];exact k ⟨pre++[Zk f x],cells,st,wh⟩<|fresh_j1 _ _ _ V h.cok.1 i o
theorem aaz{ρ:Type}{body:Int->Int->List Val->(List Val->Option ρ)->Option ρ}{K:List Val->Option ρ}{r:Int->Val}{P:Int->Prop}
  (b:∀(i:Nat) k y nx,i<y.length->P k->body (i:Int) k y nx=nx (y.set i (r k))):∀(l:List Int) (a rest:List Val),(∀k∈l,P k)->l.length<=rest.length->gU body K (a.length:Int) l (a++rest)=K (a++l.map r++rest.drop l.length)
 |[],a,rest,_,_=>by simp[gU]
 |k::l,a,z::rest,h,hl=>by
  rw[yf,b a.length k (a++z::rest) _ zq3 (h k zq3),show(a++z::rest).set a.length (r k)=(a++[r k])++rest by simp,show((a.length:Int)+1)=((a++[r k]).length:Nat) by simp,aaz b l (a++[r k]) rest (fun q c=>h q (List.mem_cons_of_mem _ c)) (by simpa using hl)];simp
 |k::l,a,[],h,hl=>by simp at hl
theorem step7(s:pR a)(h:zg a pre f cells x c)(j:c.op=7)(z:Im x.regs c.a){p:bP}(hp:idx a c.b=some p)(A:(c.args.length:Int)=p.params)(e:∀k∈c.args,Im x.regs k):R1 (wL N ⟨pre++[f],cells,st,wh⟩ a) (uP a pre f cells st wh x c):=by
  rw[CY h,j];simp only[Int.reduceEq,decide_true,decide_false,cond_true,cond_false];unfold mE vm_call;simp only[wO,Int.toNat_natCast,zH,j,Int.reduceEq,decide_true,decide_false,cond_true,cond_false];unfold uP;simp only[j,Int.reduceEq,if_true,if_false];have w:=h.many;have t:=s.mem hp;by_cases l:pre.length+1=10
  · rw[dT (by simp;omega),cond_true,if_pos l];exact⟨_,_,_,Z,Z⟩
  · rw[dF (by simp;omega),cond_false,if_neg l,hp,bnd,kM V];have g:=aaz (K:=Hz ⟨pre++[Zk f x],cells,st,wh⟩ c a) (body:=Hy ⟨pre++[Zk f x],cells,st,wh⟩) (r:=tC f.regs) (P:=fun k=>Im x.regs k) (fun i k y q n u=>by
      unfold Hy;simp only[wO];rw[gI V V,Sl,bnd];show((idx f.regs k).bind fun o=>(idx y (i:Int)).bind fun m=>q<|y.set ((i:Int)).toNat o)=_;rw[(h.reg u).1,bnd,wy n,bnd,Int.toNat_natCast]) c.args [] (List.replicate p.regs.toNat ⟨0,0⟩) e (by simp;omega)
    have d:gU (Hy ⟨pre++[Zk f x],cells,st,wh⟩) (Hz ⟨pre++[Zk f x],cells,st,wh⟩ c a) 0 c.args (List.replicate p.regs.toNat ⟨0,0⟩)=_:=g;have v:({f with at_:=min (f.at_+1) ((x.code.length:Int)-1)}:LX.Frame)=Zk f x:=rfl;rw[v,d];unfold Hz;simp only;rw[kM (room_le (by simp;omega) zq1),bnd];refine⟨_,_,_,Z,Z,?_,Z⟩;simp only[List.nil_append,List.drop_replicate,hp,Option.map_some,Option.getD_some];rw[show p.regs.toNat-c.args.length=(p.regs-(c.args.length:Int)).toNat by omega]
theorem step8(j:pR a)(h:zg a pre f cells x c)(b:c.op=8)(e:Im x.regs c.a):R1 (wL N ⟨pre++[f],cells,st,wh⟩ a) (uP a pre f cells st wh x c):=by
  rw[CY h,b];simp only[Int.reduceEq,decide_true,decide_false,cond_true,cond_false];unfold mE vm_back;simp only[wO,Int.toNat_natCast,zH,b,Int.reduceEq,decide_true,decide_false,cond_true,cond_false];unfold uP;simp only[b,Int.reduceEq,if_true,if_false];have i:=h.many;rw[(h.reg e).1,bnd,gI V V];rw[show sub? (pre++[({f with at_:=min (f.at_+1) ((x.code.length:Int)-1)}:LX.Frame)]) 0 (pre.length:Int)=some pre by unfold sub?;rw[if_pos (by simp;omega)];simp[cut],bnd];rw[show(pre++[({f with at_:=min (f.at_+1) ((x.code.length:Int)-1)}:LX.Frame)]).take pre.length=pre by simp];rcases List.eq_nil_or_concat pre with hp|⟨q,g,hp⟩
  · subst hp;exact⟨_,_,_,Z,Z,Z,Z⟩
  · rw[List.concat_eq_append]at hp;subst hp;have d:=h.iX;rw[QM]at d;simp only[List.length_append,List.length_cons,List.length_nil]at i;rw[dF (by simp;omega),cond_false,wO,gI V V,Sl,bnd,(NK Z d).1,bnd,Int.toNat_natCast,zH,bnd];simp only[List.getLast?_append,List.getLast?_singleton,Option.some_or,List.dropLast_concat];exact⟨_,_,_,Z,Z,Z,Z⟩
theorem KN(h:zg a pre f cells x c)(b:(c.op=9\/c.op=11\/c.op=13)/\Im x.regs c.a\/c.op=10\/c.op=12):R1 (wL N ⟨pre++[f],cells,st,wh⟩ a) (uP a pre f cells st wh x c):=by
  rw[CY h];rcases b with⟨b|b|b,hr⟩|b|b
  · rw[b];simp only[Int.reduceEq,decide_true,decide_false,cond_true,cond_false];unfold mE;simp only[wO,Int.toNat_natCast,zH,b,Int.reduceEq,decide_true,decide_false,cond_true,cond_false];unfold uP;simp only[b,Int.reduceEq,if_true,if_false];rw[(h.reg hr).1,bnd];by_cases d:(tC f.regs c.a).kind=1
    · rw[dT d,if_pos d];exact⟨_,_,_,Z,Z,Z,Z⟩
    · rw[dF d,if_neg d];exact⟨_,_,_,Z,Z⟩
  · rw[b];simp only[Int.reduceEq,decide_true,decide_false,cond_true,cond_false];unfold mE;simp only[wO,Int.toNat_natCast,zH,b,Int.reduceEq,decide_true,decide_false,cond_true,cond_false];unfold uP;simp only[b,Int.reduceEq,if_true,if_false];rw[(h.reg hr).1,bnd];by_cases d:(tC f.regs c.a).kind=1
    · rw[dF V,cond_false,if_pos d];exact⟨_,_,_,Z,Z,Z,Z⟩
    · rw[dT d,cond_true,if_neg d];exact⟨_,_,_,Z,Z⟩
  · rw[b];simp only[Int.reduceEq,decide_true,decide_false,cond_true,cond_false];unfold mE;simp only[wO,Int.toNat_natCast,zH,b,Int.reduceEq,decide_true,decide_false,cond_true,cond_false];unfold uP;simp only[b,Int.reduceEq,if_true,if_false];have g:=h.reg hr;rw[g.1,bnd];have e:=g.2;unfold jV at e;by_cases d:(tC f.regs c.a).kind≠2/\(tC f.regs c.a).n=0
    · rw[if_pos d,show(decide ((tC f.regs c.a).kind=0)||(decide ((tC f.regs c.a).kind=1)&&decide ((tC f.regs c.a).n=0)))=true by simp;omega,cond_true];exact⟨_,_,_,Z,Z,Z,Z⟩
    · rw[if_neg d,show(decide ((tC f.regs c.a).kind=0)||(decide ((tC f.regs c.a).kind=1)&&decide ((tC f.regs c.a).n=0)))=false by rw[Bool.or_eq_false_iff,Bool.and_eq_false_iff];simp only[decide_eq_false_iff_not];omega,cond_false];exact⟨_,_,_,Z,Z,Z,Z⟩
  · rw[b];simp only[Int.reduceEq,decide_true,decide_false,cond_true,cond_false];unfold mE;simp only[wO,Int.toNat_natCast,zH,b,Int.reduceEq,decide_true,decide_false,cond_true,cond_false];unfold uP;simp only[b,Int.reduceEq,if_true,if_false];exact⟨_,_,_,Z,Z,Z,Z⟩
  · rw[b];simp only[Int.reduceEq,decide_true,decide_false,cond_true,cond_false];unfold mE;simp only[wO,Int.toNat_natCast,zH,b,Int.reduceEq,decide_true,decide_false,cond_true,cond_false];unfold uP;simp only[b,Int.reduceEq,if_true,if_false];exact⟨_,_,_,Z,Z,Z,Z⟩
theorem vm_step_ok(e:pR a)(hN:100<=N)(h:zg a pre f cells x c):R1 (wL N ⟨pre++[f],cells,st,wh⟩ a) (uP a pre f cells st wh x c):=by
  rcases h.good with g|g|g|g|g|g|g|g|g|g
  · exact step1 h g.1 g.2.1
  · exact step2 h g.1 g.2.1 g.2.2
  · obtain⟨g1,g2,b,d,n,i,j,k⟩:=g;exact step3 h g1 g2 b d i ⟨j,k⟩
  · obtain⟨g1|g1,g2,b,d⟩:=g
    · exact field_get h g1 g2 b d
    · exact field_put h g1 g2 b d
  · exact step5 e hN h g.1 g.2.1 g.2.2
  · obtain⟨g1,g2,⟨p,b,d⟩,i⟩:=g;exact step7 e h g1 g2 b d i
  · obtain⟨g1|g1|g1,g2⟩:=g
    · exact step8 e h g1 g2
    · exact KN h<|.inl ⟨.inl g1,g2⟩
    · exact KN h<|.inl ⟨.inr<|.inl g1,g2⟩
  · exact KN h<|.inr<|.inl g
  · exact KN h<|.inr<|.inr g.1
  · exact KN h<|.inl ⟨.inr<|.inr g.1,g.2.1⟩
end
open Go Go.Proofs Go.LX
theorem jV.up{n m:Nat}{v:Val}(h:jV n v)(a:n<=m):jV m v:=by unfold jV at*;omega
theorem JE.up{a:List bP}{n m:Nat}{f:LX.Frame}{x:bP}(h:JE a n f x)(b:n<=m):JE a m f x:=⟨h.proc,h.at_,h.regs,fun v c=>(h.vals v c).up b⟩
theorem NL{a:List bP}{n m:Nat}(b:n<=m):∀{l:List LX.Frame} {t:Int},mR a n t l->mR a m t l
 |[],_,_=>trivial
 |f::l,t,h=>by obtain⟨⟨x,g⟩,d,c⟩:=h;exact⟨⟨x,g.up b⟩,d,NL b c⟩
theorem ren_ok{n:Nat}{l:List Int}{v:Val}(h:jV n v)(b:v.kind=2->v.n∈l):jV l.length (ren l v):=by
  unfold ren;by_cases a:v.kind=2
  · rw[if_pos a];have:=List.idxOf_lt_length_of_mem<|b a;unfold jV;simp only;omega
  · rw[if_neg a];unfold jV at*;omega
theorem JE.ren{a:List bP}{n:Nat}{l:List Int}{f:LX.Frame}{x:bP}(h:JE a n f x)(hr:tQ f.regs l):JE a l.length (OQ l f) x where
 proc:=h.proc
 at_:=h.at_
 regs:=by unfold OQ;simpa using h.regs
 vals v hv:=by
  unfold OQ at hv;simp only[List.mem_map]at hv;obtain⟨w,hw,rfl⟩:=hv;exact ren_ok (h.vals w hw)<|hr w hw
theorem Sm{a:List bP}{n:Nat}{r:List Int}:∀{l:List LX.Frame} {t:Int},mR a n t l->(∀f∈l,tQ f.regs r)->mR a r.length t (l.map (OQ r))
 |[],_,_,_=>trivial
 |f::l,t,h,hr=>by
  obtain⟨⟨x,g⟩,c,b⟩:=h;refine⟨⟨x,g.ren<|hr f zq3⟩,c,?_⟩;have:=Sm b fun k d=>hr k<|List.mem_cons_of_mem _ d;simpa[OQ]using this
theorem sweep_cells{s:LX.State}(h:U7 s):uV (jl s).cells:=by
 have d:=h.reach;have i:=d.1.len;have hn:=h.cells.1;refine⟨by simp[jl];omega,fun c b=>?_⟩;unfold jl at b⊢;simp only[List.mem_map,List.length_map]at b⊢;obtain⟨k,e,rfl⟩:=b;have a:=h.cells.at<|d.1.2 k e;refine⟨by simpa using a.1,fun v g=>?_⟩;obtain⟨w,f,rfl⟩:=List.mem_map.1 g;exact ren_ok (a.2 w f)<|d.2.2 k e w f
theorem Sn{a:List bP}(ha:pR a){s:LX.State}(h:xX a s):xX a (jl s) where
 status:=h.status
 bO:=h.bO
 stay:=h.stay
 ended:=by rw[show(jl s).status=s.status from rfl,h.ended];simp[jl]
 many:=by simpa[jl]using h.many
 cells:=sweep_cells (h.sw ha)
 frames:=by
  have hr:=(h.sw ha).reach;have:=Sm h.frames<|Yq hr.2.1;simpa[jl]using this
theorem set_vals{n:Nat}{r:List Val}{i:Nat}{v:Val}(h:∀w∈r,jV n w)(b:jV n v):∀w∈r.set i v,jV n w:=fun w a=>by
  rcases List.mem_or_eq_of_mem_set a with a|rfl
  · exact h w a
  · exact b
section
variable{a:List bP}{pre:List LX.Frame}{f:LX.Frame}{cells:List (List Val)}{wh:Int}{x:bP}{c:Ins}{N:Nat}
theorem zg.st(h:zg a pre f cells x c){g:LX.Frame}{y:bP}{cs:List (List Val)}{s w:Int}(hg:JE a cs.length g y)(hto:g.iX=f.iX)(hc:uV cs)(hl:cells.length<=cs.length)(hs:(s=0/\w=0)\/(s=3/\ -1000000000<=w/\w<=1000000000)):xX a ⟨pre++[g],cs,s,w⟩ where
 status:=by simp only;omega
 bO:=by simp only;omega
 stay:=by simp only;omega
 ended:=by simp;omega
 many:=by have:=h.many;simp;omega
 cells:=hc
 frames:=qQ.2 ⟨NL hl h.chain,⟨y,hg⟩,by rw[hto];exact h.iX⟩
theorem opP_ok{n:Nat}{k:Int}{b c v:Val}(d:1<=k/\k<=5)(h:opP k b c=some v):jV n v:=by
  unfold opP at h;split at h
  · cases h;split<;>(unfold jV;simp)
  split at h
  · cases h
  split at h
  · cases h;split<;>(unfold jV;simp)
  simp only at h;generalize (if k=1 then b.n+c.n else if k=2 then b.n-c.n else b.n*c.n)=z at h;split at h
  · rename_i a;cases h;exact .inr (.inl ⟨Z,a.1,a.2⟩)
  · cases h
theorem JE.put{n:Nat}{f:LX.Frame}{x:bP}(h:JE a n f x){i:Nat}{v:Val}(b:jV n v):JE a n {f with regs:=f.regs.set i v} x:=⟨h.proc,h.at_,by simpa using h.regs,set_vals h.vals b⟩
theorem JE.jump{n:Nat}{f:LX.Frame}{x:bP}(h:JE a n f x){b:Int}(c:0<=b/\b<x.code.length):JE a n {f with at_:=b} x:=⟨h.proc,c,h.regs,h.vals⟩
theorem newP_ok{s t:LX.State}{g:LX.Frame}(h:newP ⟨pre++[g],cells,0,wh⟩ c=some t)(i:xX a ⟨pre++[g],cells,0,wh⟩)(p:1<=c.b/\c.b<=4):xX a t/\t.status=0:=by
  unfold newP at h;split at h
  · cases h
  rename_i k;simp only[List.dropLast_concat,List.getLast?_append,List.getLast?_singleton,Option.some_or,Option.map_some,Option.toList_some]at h k;cases h;obtain⟨n,⟨x,o⟩,m⟩:=qQ.1 i.frames;have j:=i.cells;simp only at n o m j;have e:cells.length<=(cells++[List.replicate c.b.toNat (⟨0,0⟩:Val)]).length:=by simp
  refine⟨⟨i.status,i.bO,i.stay,by simp,by simpa using i.many,⟨?_,?_⟩,qQ.2 ⟨NL e n,⟨x,(o.up e).put ?_⟩,m⟩⟩,Z⟩
  · have:=j.1;simp;omega
  · intro d f;rcases List.mem_append.1 f with f|f
    · have:=j.2 d f;exact⟨this.1,fun v l=>(this.2 v l).up e⟩
    · simp at f;subst f;refine⟨by simp;omega,fun v l=>?_⟩;have:=List.eq_of_mem_replicate l;subst this;unfold jV;simp
  · unfold jV;simp;try omega
theorem step_keeps(O:pR a)(h:zg a pre f cells x c)(R:wh=0){t:LX.State}{B:Option Int}{p:Bool}(i:uP a pre f cells 0 wh x c=some (t,B,p)):
    xX a t/\(t.status=0\/t.status=1/\p=false\/t.status=3/\p=true)/\(B.isSome->t.status=0/\c.op=9):=by
  subst R;have j:=h.Zk;have o:∀{v:Val},jV cells.length v->xX a ⟨pre++[{Zk f x with regs:=f.regs.set c.a.toNat v}],cells,0,0⟩:=fun w=>h.st (j.put w) Z h.cok (Nat.le_refl _)<|.inl ⟨Z,Z⟩;have r:xX a ⟨pre++[Zk f x],cells,0,0⟩:=h.st j Z h.cok (Nat.le_refl _)<|.inl ⟨Z,Z⟩;have z:(0<=c.b/\c.b<x.code.length)->xX a ⟨pre++[{Zk f x with at_:=c.b}],cells,0,0⟩:=fun m=>h.st (j.jump m) Z h.cok (Nat.le_refl _)<|.inl ⟨Z,Z⟩;unfold uP at i;rcases h.good with g|g|g|g|g|g|g|g|g|g
  · obtain⟨e,A,m⟩:=g;simp only[e,Int.reduceEq,if_true,if_false]at i;cases i;exact⟨o<|.inr<|.inl ⟨Z,m.1,m.2⟩,.inl Z,by simp⟩
  · obtain⟨e,A,m⟩:=g;simp only[e,Int.reduceEq,if_true,if_false]at i;cases i;exact⟨o (h.reg m).2,.inl Z,by simp⟩
  · obtain⟨e,A,m,P,n,hn,L⟩:=g;simp only[e,hn,Int.reduceEq,if_true,if_false,List.headD_cons]at i;obtain⟨v,w,i⟩:=Option.map_eq_some_iff.1 i;cases i;exact⟨o<|opP_ok L w,.inl Z,by simp⟩
  · obtain⟨e,A,m,P⟩:=g;rcases e with e|e
    · simp only[e,Int.reduceEq,if_true,if_false]at i;split at i
      · cases i
      · rename_i I;cases i;have E:(tC f.regs c.b).kind=2:=by omega
        have w:=(h.reg m).2;have l:=h.cok.at<|w.ref E;exact⟨o<|l.2 _ (NK Z ⟨P.1,by omega⟩).2,.inl Z,by simp⟩
    · simp only[e,Int.reduceEq,if_true,if_false]at i;split at i
      · cases i
      · rename_i I;cases i;have E:(tC f.regs c.a).kind=2:=by omega
        have w:=(h.reg A).2;have l:=h.cok.at<|w.ref E;refine⟨h.st (by simpa using j) Z ⟨by simpa using h.cok.1,fun d K=>?_⟩ zq3<|.inl ⟨Z,Z⟩,.inl Z,by simp⟩;rw[List.length_set];rcases List.mem_or_eq_of_mem_set K with K|rfl
        · exact h.cok.2 d K
        · exact⟨by simpa using l.1,set_vals l.2 (h.reg m).2⟩
  · obtain⟨e,A,m⟩:=g;simp only[e,Int.reduceEq,if_true,if_false]at i;obtain⟨u,J,i⟩:=Option.map_eq_some_iff.1 i;cases i;split at J
    · have G:=Sn O r;rw[aay]at J G;have:=newP_ok (s:=t) J G m;exact⟨this.1,.inl this.2,by simp⟩
    · have:=newP_ok (s:=t) J r m;exact⟨this.1,.inl this.2,by simp⟩
  · obtain⟨e,A,⟨Q,hp,hl⟩,C⟩:=g;simp only[e,Int.reduceEq,if_true,if_false]at i;split at i
    · cases i
    · rename_i X;cases i;have M:=O.mem hp;have N:=h.many;refine⟨⟨by simp,by simp,by simp,by simp,by simp;omega,h.cok,qQ.2 ⟨r.frames,⟨Q,⟨hp,?_,?_,?_⟩⟩,?_⟩⟩,.inl Z,by simp⟩
      · have:=M.2.2.2;unfold sO at this;simp only;omega
      · simp only[hp,Option.map_some,Option.getD_some,List.length_append,List.length_map,List.length_replicate];omega
      · intro v w;rcases List.mem_append.1 w with w|w
        · obtain⟨k,E,rfl⟩:=List.mem_map.1 w;exact(h.reg<|C k E).2
        · have:=List.eq_of_mem_replicate w;subst this;unfold jV;simp
      · simp only[List.getLast?_append,List.getLast?_singleton,Option.some_or];have T:=j.regs;rw[T];exact A
  · obtain⟨e,A⟩:=g;rcases e with e|e|e
    · simp only[e,Int.reduceEq,if_true,if_false]at i;rcases List.eq_nil_or_concat pre with hp|⟨q,g,hp⟩
      · subst hp;simp only[List.getLast?_nil]at i;cases i;exact⟨⟨by simp,by simp,by simp,by simp,by simp,h.cok,U⟩,.inr<|.inl ⟨Z,Z⟩,by simp⟩
      · rw[List.concat_eq_append]at hp;subst hp;simp only[List.getLast?_append,List.getLast?_singleton,Option.some_or,List.dropLast_concat]at i;cases i;obtain⟨c1,⟨y,c2⟩,S⟩:=qQ.1 h.chain;have N:=h.many;simp only[List.length_append,List.length_cons,List.length_nil]at N;exact⟨⟨by simp,by simp,by simp,by simp,by simp;omega,h.cok,qQ.2 ⟨c1,⟨y,c2.put (h.reg A).2⟩,S⟩⟩,.inl Z,by simp⟩
    · simp only[e,Int.reduceEq,if_true,if_false]at i;split at i
      · cases i;exact⟨r,.inl Z,fun _=>⟨Z,e⟩⟩
      · cases i
    · simp only[e,Int.reduceEq,if_true,if_false]at i;split at i
      · rename_i E;cases i;exact⟨h.st j Z h.cok (Nat.le_refl _)<|.inr ⟨Z,(h.reg A).2.int E⟩,.inr<|.inr ⟨Z,Z⟩,by simp⟩
      · cases i
  · simp only[g,Int.reduceEq,if_true,if_false]at i;cases i;exact⟨r,.inl Z,by simp⟩
  · obtain⟨e,m⟩:=g;simp only[e,Int.reduceEq,if_true,if_false]at i;cases i;exact⟨z m,.inl Z,by simp⟩
  · obtain⟨e,A,m⟩:=g;simp only[e,Int.reduceEq,if_true,if_false]at i;cases i;split
    · exact⟨z m,.inl Z,by simp⟩
    · exact⟨r,.inl Z,by simp⟩
end
open Go Go.Proofs Go.LX
def insOf(a:List bP)(f:LX.Frame):Option (bP×Ins):=(idx a f.proc).bind fun x=>(idx x.code f.at_).map fun c=>(x,c)
def Mg(a:List bP)(s:LX.State):Option (LX.State×Option Int×Bool):=
 s.frames.getLast?.bind fun f=>(insOf a f).bind fun q=>uP a s.frames.dropLast f s.cells s.status s.bO q.1 q.2
def Ph(a:List bP)(s:LX.State):Int:=((s.frames.getLast?.bind fun f=>insOf a f).map fun q=>q.2.op).getD 0
def zI(a:List bP):Nat->List Int->Nat->LX.State->LX.State×List Int×Nat
 |0,said,n,s=>(s,said,n)
 |m+1,said,n,s=>
  if s.status≠0 then(s,said,n)else
  if said.length=40/\Ph a s=9 then(s,said,n)else
  match Mg a s with
  |none=>({s with status:=2},said,n+1)
  |some (t,o,p)=>if p then(t,said++o.toList,n+1)else zI a m (said++o.toList) (n+1) t
theorem OA{a:List bP}(e:pR a){s:LX.State}(h:xX a s)(b:s.status=0):∃pre f x c,s=⟨pre++[f],s.cells,0,0⟩/\zg a pre f s.cells x c/\Mg a s=uP a pre f s.cells 0 0 x c/\Ph a s=c.op:=by
  obtain⟨i,cells,st,wh⟩:=s;simp only at b;subst b;have d:wh=0:=h.stay zq3;subst d;rcases List.eq_nil_or_concat i with hp|⟨pre,f,hp⟩
  · have:=h.ended.2 hp;simp at this
  · rw[List.concat_eq_append]at hp;subst hp;obtain⟨x,c,g⟩:=top_ok e h;refine⟨pre,f,x,c,Z,g,?_,?_⟩
    · unfold Mg insOf;simp only[List.getLast?_append,List.getLast?_singleton,Option.some_or,List.dropLast_concat,bnd,g.fr.proc,g.ins,Option.map_some]
    · unfold Ph insOf;simp only[List.getLast?_append,List.getLast?_singleton,Option.some_or,bnd,g.fr.proc,g.ins,Option.map_some,Option.getD_some]
theorem vm_step_P{a:List bP}(b:pR a){s:LX.State}(h:xX a s)(i:s.status=0){N:Nat}(hN:100<=N):R1 (wL N s a) (Mg a s):=by
 obtain⟨pre,f,x,c,e,g,d,-⟩:=OA b h i;rw[d];generalize s.cells=cells at*;subst e;exact vm_step_ok b hN g
theorem Jc{a:List bP}(d:pR a){s:LX.State}(h:xX a s)(j:s.status=0){t:LX.State}{o:Option Int}{p:Bool}(b:Mg a s=some (t,o,p)):
  xX a t/\(t.status=0\/t.status=1/\p=false\/t.status=3/\p=true)/\(o.isSome->t.status=0/\Ph a s=9):=by
 obtain⟨pre,f,x,c,k,i,e,g⟩:=OA d h j;rw[e]at b;rw[g];exact step_keeps d i Z b
theorem top_reads{a:List bP}(g:pR a){s:LX.State}(h:xX a s)(i:s.status=0):(s.frames.length<=10/\1<=s.frames.length)/\∃f x c,idx s.frames ((s.frames.length:Int)-1)=some f/\idx a f.proc=some x/\idx x.code f.at_=some c/\c.op=Ph a s:=by
 obtain⟨pre,f,x,c,b,d,j,e⟩:=OA g h i;refine⟨⟨h.many,by rw[b];simp⟩,f,x,c,?_,d.fr.proc,d.ins,e.symm⟩;have:s.frames=pre++[f]:=by rw[b]
 rw[this,wO,Sl]
theorem fail_ok{a:List bP}{s:LX.State}(h:xX a s)(c:s.status=0):xX a {s with status:=2}:=by
  have b:s.bO=0:=h.stay V;refine⟨by simp,h.bO,fun _=>b,?_,h.many,h.cells,h.frames⟩;constructor
  · intro e;simp at e
  · intro e;have:=h.ended.2 e;omega
theorem run_loop{a:List bP}(w:pR a){N:Nat}(hN:100<=N)(c:Int):∀(m M:Nat) (b:List Int) (n:Nat) (s:LX.State),xX a s->b.length<=40->c=(n:Int)+m->c<=2000->m<M->
    again (AZ N c a) M (b,(n:Int),s.frames,s.cells,s.status,s.bO)=some ((zI a m b n s).1,(zI a m b n s).2.1,((zI a m b n s).2.2:Int),0)
  |m,0,b,n,s,h,hl,hc,hb,hM=>by omega
  |0,M+1,b,n,s,h,hl,hc,hb,hM=>by
    rw[Gi];unfold AZ BC zI;simp only;rw[show(decide ((n:Int)<c)&&decide ((s.status:Int)=0))=false by rw[dF V];rfl,cond_false]
  |m+1,M+1,b,n,s,h,hl,hc,hb,hM=>by
    rw[Gi];have B:=run_loop w hN c m M;generalize again (AZ N c a) M=K at B⊢;unfold AZ zI;simp only;by_cases k:s.status=0
    · rw[dT V,dT k,Bool.true_and,cond_true,if_neg V];obtain⟨G,f,x,i,E,L,O,J⟩:=top_reads w h k;rw[gI V V,E,bnd];have go:H8 N b n s.frames s.cells s.status s.bO a K false=some (match Mg a s with
          |none=>({s with status:=2},b,((n+1:Nat):Int),0)
          |some (t,o,p)=>if p then(t,b++o.toList,((n+1:Nat):Int),0)else((zI a m (b++o.toList) (n+1) t).1,(zI a m (b++o.toList) (n+1) t).2.1,((zI a m (b++o.toList) (n+1) t).2.2:Int),0))\/(b.length=40/\Ph a s=9):=by
        by_cases g:b.length=40/\Ph a s=9
        · exact .inr g
        left;unfold H8;rw[cond_false,show(⟨s.frames,s.cells,s.status,s.bO⟩:LX.State)=s from rfl,copy_eq (h.small w),bnd];obtain⟨o,P,r,I,v⟩:=vm_step_P w h k hN;rw[I,bnd,gI V V];cases eq:Mg a s with
        |none=>
          rw[eq]at v;simp only at v;subst v;simp only[Bool.not_false,cond_true];unfold BC
          push_cast;rfl
        |some q=>
          obtain⟨t,o2,p⟩:=q;rw[eq]at v;obtain⟨rfl,rfl,rfl⟩:=v;have C:=Jc w h k eq;simp only[Bool.not_true,cond_false];have u:∀l,l=b++o2.toList->l.length<=40->H7 (⟨o2.isSome,o2.getD 0,p⟩,true,r) n K l=some (if p then(r,b++o2.toList,((n+1:Nat):Int),0)else((zI a m (b++o2.toList) (n+1) r).1,(zI a m (b++o2.toList) (n+1) r).2.1,((zI a m (b++o2.toList) (n+1) r).2.2:Int),0)):=by
            intro l A y;subst A;unfold H7 BC;simp only;cases p with
            |true=>rw[cond_true,if_pos Z];push_cast;rfl
            |false=>
              rw[cond_false,if_neg zq3];have:=B (b++o2.toList) (n+1) r C.1 y (by push_cast;omega) hb V;rw[<-this];push_cast;rfl
          cases o2 with
          |none=>
            simp only[Option.isSome_none,cond_false];exact u b zq3 hl
          |some z=>
            have j:=(C.2.2 Z).2;simp only[Option.isSome_some,cond_true];rw[kM (room_le (by simp;omega) zq1)];exact u (b++[z]) zq3 (by simp;omega)
      by_cases d:b.length=40
      · rw[dT V,cond_true,L,bnd,O,bnd,J];by_cases j:Ph a s=9
        · rw[if_pos ⟨d,j⟩,dT j];rfl
        · rw[if_neg (fun e=>j e.2),dF j];rcases go with go|go
          · rw[go];cases Mg a s with
            |none=>rfl
            |some q=>obtain⟨t,o,p⟩:=q;cases p<;>rfl
          · exact absurd go.2 j
      · rw[dF V,cond_false,if_neg (fun e=>d e.1)];rcases go with go|go
        · rw[go];cases Mg a s with
          |none=>rfl
          |some q=>obtain⟨t,o,p⟩:=q;cases p<;>rfl
        · exact absurd go.1 d
    · rw[dF k,Bool.and_false,cond_false,if_pos k];rfl
theorem U9{a:List bP}(i:pR a):∀(m:Nat) (b:List Int) (n:Nat) (s:LX.State),xX a s->b.length<=40->
    xX a (zI a m b n s).1/\(zI a m b n s).2.1.length<=40/\n<=(zI a m b n s).2.2/\(zI a m b n s).2.2<=n+m/\b<+:(zI a m b n s).2.1/\(zI a m b n s).2.1.length<=b.length+((zI a m b n s).2.2-n)/\((zI a m b n s).2.2=n->(zI a m b n s).1=s)
  |0,b,n,s,h,hl=>⟨h,hl,Nat.le_refl _,Nat.le_refl _,List.prefix_refl _,by simp[zI],fun _=>rfl⟩
  |m+1,b,n,s,h,hl=>by
    unfold zI;by_cases g:s.status=0
    · rw[if_neg V];by_cases d:b.length=40/\Ph a s=9
      · rw[if_pos d];exact⟨h,hl,Nat.le_refl _,by simp,List.prefix_refl _,by simp,fun _=>rfl⟩
      · rw[if_neg d];cases eq:Mg a s with
        |none=>exact⟨fail_ok h g,hl,by simp,by simp,List.prefix_refl _,by simp,fun e=>by simp at e⟩
        |some q=>
          obtain⟨t,o,p⟩:=q;have f:=Jc i h g eq;have c:(b++o.toList).length<=40:=by
            cases o with
            |none=>simpa using hl
            |some z=>have v:=(f.2.2 Z).2;simp;omega
          have ho:o.toList.length<=1:=by cases o<;>simp
          simp only;split
          · exact⟨f.1,c,by simp,by simp,List.prefix_append _ _,by show(b++o.toList).length<=b.length+(n+1-n);rw[List.length_append];omega,fun e=>by simp at e⟩
          · obtain⟨l,j,x,w,r,k,u⟩:=U9 i m (b++o.toList) (n+1) t f.1 c;refine⟨l,j,by omega,by omega,(List.prefix_append _ _).trans r,?_,fun e=>by omega⟩;rw[List.length_append]at k;omega
    · rw[if_pos g];exact⟨h,hl,Nat.le_refl _,by simp,List.prefix_refl _,by simp,fun _=>rfl⟩
theorem aaB(a:List bP)(s:LX.State)(c:Int){N:Nat}(hN:3000<=N):UK N a s c=some (if Oy a≠0 then(⟨[],[],0,0⟩,[],0,Oy a)else if ckS a s≠0 then(⟨[],[],0,0⟩,[],0,ckS a s)else if c<0\/2000<c then(⟨[],[],0,0⟩,[],0,3)else if s.status≠0 then(⟨[],[],0,0⟩,[],0,7)else((zI a c.toNat [] 0 s).1,(zI a c.toNat [] 0 s).2.1,((zI a c.toNat [] 0 s).2.2:Int),0)):=by
  unfold UK;rw[Jb,bnd];by_cases b:Oy a=0
  · rw[if_neg V,if_neg V];by_cases e:ckS a s=0
    · rw[dF V,cond_false,if_neg V];by_cases d:c<0\/2000<c
      · rw[show(decide ((c:Int)<0)||decide ((2000:Int)<c))=true by rw[Bool.or_eq_true];simp only[decide_eq_true_eq];exact d,cond_true,if_pos d]
      · rw[show(decide ((c:Int)<0)||decide ((2000:Int)<c))=false by rw[Bool.or_eq_false_iff];simp only[decide_eq_false_iff_not];omega,cond_false,if_neg d];by_cases f:s.status=0
        · rw[dF V,cond_false,if_neg V];have g:=pU b;have h:=Io.1 e;rw[copy_eq (h.small g),bnd];have:=run_loop g (N:=N) V c c.toNat N [] 0 s h zq3 V V V;exact this
        · rw[dT f,cond_true,if_pos f]
    · rw[dT e,cond_true,if_pos e]
  · rw[if_pos b,if_pos b,dT b,cond_true]
theorem vm_Wake_eq(a:List bP)(s:LX.State):RX a s=some (if Oy a≠0 then(⟨[],[],0,0⟩,Oy a)else if ckS a s≠0 then(⟨[],[],0,0⟩,ckS a s)else if s.status≠3 then(⟨[],[],0,0⟩,7)else(⟨s.frames,s.cells,0,0⟩,0)):=by
  unfold RX;rw[Jb,bnd];by_cases b:Oy a=0
  · rw[if_neg V,if_neg V];by_cases c:ckS a s=0
    · rw[dF V,cond_false,if_neg V];by_cases d:s.status=3
      · rw[dF V,cond_false,if_neg V,copy_eq ((Io.1 c).small (pU b)),bnd]
      · rw[dT d,cond_true,if_pos d]
    · rw[dT c,cond_true,if_pos c]
  · rw[if_pos b,if_pos b,dT b,cond_true]
def A7(a:List bP):LX.State:=⟨[⟨0,0,List.replicate (((idx a 0).map (fun x:bP=>x.regs)).getD 0).toNat ⟨0,0⟩,0⟩],[],0,0⟩
theorem Yt{a:List bP}(b:pR a):∃x,idx a 0=some x:=by
 have:=b.many;cases a with
 |nil=>simp at this
 |cons x l=>exact⟨x,idx0 x l⟩
theorem vm_New_eq(a:List bP):XD a=some (if Oy a≠0 then(⟨[],[],0,0⟩,Oy a)else(A7 a,0)):=by
  unfold XD;rw[Yk,bnd];by_cases b:Oy a=0
  · rw[dF V,cond_false,if_neg V];obtain⟨x,c⟩:=Yt<|pU b;have:=((pU b).mem c).2.2.1;rw[c,bnd,kM V];unfold A7;rw[c];rfl
  · rw[dT b,cond_true,if_pos b]
theorem begin_ok{a:List bP}(d:pR a):xX a (A7 a):=by
  obtain⟨x,b⟩:=Yt d;have g:=d.mem b;have f:=g.2.2.2;unfold sO at f;refine⟨by simp[A7],by simp[A7],by simp[A7],by simp[A7],by simp[A7],⟨by simp[A7],fun c e=>by simp[A7]at e⟩,⟨x,b,by simp only;omega,?_,fun v h=>?_⟩,by simp,trivial⟩
  · simp only[b,Option.map_some,Option.getD_some,List.length_replicate];omega
  · have:=List.eq_of_mem_replicate h;subst this;unfold jV;simp
def Yu(ρ:Int->Int)(v:Val):Val:=if v.kind=2 then⟨v.kind,ρ v.n⟩else v
def renFr(ρ:Int->Int)(f:LX.Frame):LX.Frame:={f with regs:=f.regs.map (Yu ρ)}
structure Iso(ρ:Int->Int)(R:List Int)(s t:LX.State):Prop where
 frames:t.frames=s.frames.map (renFr ρ)
 status:t.status=s.status
 bO:t.bO=s.bO
 roots:tQ (YtodkbibbgakkdaaGreatDoor.roots s.frames) R
 range:∀x∈R,0<=x/\x<s.cells.length
 range':∀x∈R,0<=ρ x/\ρ x<t.cells.length
 inj:∀x∈R,∀y∈R,ρ x=ρ y->x=y
 cells:∀x∈R,cellAt t.cells (ρ x)=(cellAt s.cells x).map (Yu ρ)/\tQ (cellAt s.cells x) R
theorem renV_kind(ρ:Int->Int)(v:Val):(Yu ρ v).kind=v.kind:=by unfold Yu;split<;>rfl
theorem renV_ref(ρ:Int->Int){v:Val}(h:v.kind=2):Yu ρ v=⟨v.kind,ρ v.n⟩:=if_pos h
theorem renV_no(ρ:Int->Int){v:Val}(h:v.kind≠2):Yu ρ v=v:=if_neg h
section
variable{ρ:Int->Int}{R:List Int}{s t:LX.State}
theorem mem_map_inj(b:∀x∈R,∀y∈R,ρ x=ρ y->x=y){l:List Int}(c:∀x∈l,x∈R){x:Int}(d:x∈R):ρ x∈l.map ρ↔x∈l:=by
  constructor
  · intro h;obtain⟨y,a,e⟩:=List.mem_map.1 h;rw[<-b y (c y a) x d e];exact a
  · exact fun h=>List.mem_map_of_mem h
theorem Pj(a:∀x∈R,∀y∈R,ρ x=ρ y->x=y):∀{l:List Int},(∀x∈l,x∈R)->∀{x:Int},x∈R->(l.map ρ).idxOf (ρ x)=l.idxOf x
  |[],_,x,_=>rfl
  |y::l,hl,x,hx=>by
    rw[List.map_cons,List.idxOf_cons,List.idxOf_cons,Pj a (fun z b=>hl z (List.mem_cons_of_mem _ b)) hx];by_cases e:y=x
    · subst e;simp
    · have c:ρ y≠ρ x:=fun h=>e<|a y (hl y zq3) x hx h;rw[show(ρ y==ρ x)=false by simpa using c,show(y==x)=false by simpa using e]
theorem metV_map(g:∀x∈R,∀y∈R,ρ x=ρ y->x=y){l:List Int}(e:∀x∈l,x∈R){v:Val}(f:v.kind=2->v.n∈R):Si (l.map ρ) (Yu ρ v)=(Si l v).map ρ/\∀x∈Si l v,x∈R:=by
  unfold Si;by_cases a:v.kind=2
  · rw[renV_ref ρ a];simp only[a,true_and];have c:=mem_map_inj g e<|f a;by_cases d:v.n∈l
    · rw[if_neg (fun h=>h (c.2 d)),if_neg (fun h=>h d)];exact⟨Z,e⟩
    · rw[if_pos (fun h=>d (c.1 h)),if_pos d];refine⟨by simp,fun x b=>?_⟩;rcases List.mem_append.1 b with b|b
      · exact e x b
      · simp at b;subst b;exact f a
  · rw[renV_no ρ a,if_neg (fun h=>a h.1),if_neg (fun h=>a h.1)];exact⟨Z,e⟩
theorem Yv(a:∀x∈R,∀y∈R,ρ x=ρ y->x=y):∀{vs:List Val} {l:List Int},(∀x∈l,x∈R)->tQ vs R->Sj (l.map ρ) (vs.map (Yu ρ))=(Sj l vs).map ρ/\∀x∈Sj l vs,x∈R
 |[],l,hl,_=>⟨rfl,hl⟩
 |v::vs,l,hl,hv=>by
  obtain⟨c,d⟩:=metV_map a hl<|hv v zq3;rw[List.map_cons,Oz,Oz,c];exact Yv a d fun w b=>hv w<|List.mem_cons_of_mem _ b
theorem Iso.Zj(h:Iso ρ R s t):∀(m k:Nat) (l:List Int),(∀x∈l,x∈R)->Zj t.cells m k (l.map ρ)=(Zj s.cells m k l).map ρ/\∀x∈Zj s.cells m k l,x∈R
  |0,k,l,hl=>⟨rfl,hl⟩
  |m+1,k,l,hl=>by
    unfold YtodkbibbgakkdaaGreatDoor.Zj;by_cases a:k<l.length
    · rw[dif_pos a,dif_pos (by simpa using a)];have e:=hl _<|List.getElem_mem a;have b:=h.cells _ e;rw[List.getElem_map,b.1];obtain⟨c,d⟩:=Yv h.inj hl b.2;rw[c];exact Iso.Zj h m (k+1) _ d
    · rw[dif_neg a,dif_neg (by simpa using a)];exact⟨Z,hl⟩
theorem aaC(ρ:Int->Int):∀a:List LX.Frame,YtodkbibbgakkdaaGreatDoor.roots (a.map (renFr ρ))=(YtodkbibbgakkdaaGreatDoor.roots a).map (Yu ρ)
 |[]=>rfl
 |f::a=>by
  have:=aaC ρ a;unfold YtodkbibbgakkdaaGreatDoor.roots at*;rw[List.map_cons,List.flatMap_cons,List.flatMap_cons,List.map_append,this];rfl
theorem Iso.reach(h:Iso ρ R s t):mi t=(mi s).map ρ/\∀x∈mi s,x∈R:=by
 unfold mi NI;rw[h.frames,aaC];obtain⟨a,b⟩:=Yv h.inj (l:=[]) (fun x c=>by cases c) h.roots;rw[List.map_nil]at a;rw[a];exact h.Zj 25 0 _ b
theorem ren_map(h:Iso ρ R s t){v:Val}(b:v.kind=2->v.n∈R):ren (mi t) (Yu ρ v)=ren (mi s) v:=by
  unfold ren;rw[renV_kind];by_cases a:v.kind=2
  · rw[if_pos a,if_pos a,renV_ref ρ a,h.reach.1,Pj h.inj h.reach.2 (b a)]
  · rw[if_neg a,if_neg a,renV_no ρ a]
theorem LZ{α β:Type}{f g:α->β}:∀{l:List α},(∀x∈l,f x=g x)->l.map f=l.map g:=fun h=>List.map_congr_left h
theorem Iso.sweep(h:Iso ρ R s t):jl t=jl s:=by
 have a:t.frames.map (OQ<|mi t)=s.frames.map (OQ<|mi s):=by
  rw[h.frames,List.map_map];refine LZ fun f g=>?_;have:(f.regs.map<|Yu ρ).map (ren<|mi t)=f.regs.map (ren<|mi s):=by
   rw[List.map_map];exact LZ fun v c=>ren_map h<|Yq h.roots f g v c
  show OQ (mi t) (renFr ρ f)=OQ (mi s) f;unfold OQ renFr;simp only[this]
 have b:(mi t).map (fun k=>(cellAt t.cells k).map<|ren<|mi t)=(mi s).map (fun k=>(cellAt s.cells k).map<|ren<|mi s):=by
  conv=>lhs;rw[h.reach.1]
  rw[List.map_map];refine LZ fun k e=>?_;have d:=h.cells k<|h.reach.2 k e;show(cellAt t.cells<|ρ k).map (ren _)=_;rw[d.1,List.map_map,<-h.reach.1];exact LZ fun v c=>ren_map h<|d.2 v c
 unfold jl;rw[a,b,h.status,h.bO]
end
theorem cellAt_nat{cells:List (List Val)}{i:Nat}(h:i<cells.length):cellAt cells (i:Int)=cells[i]:=by unfold cellAt;rw[wy h];rfl
theorem iso_sweep{s:LX.State}(h:U7 s):Iso (fun x=>((mi s).idxOf x:Nat)) (mi s) s (jl s) where
 frames:=rfl
 status:=rfl
 bO:=rfl
 roots:=h.reach.2.1
 range:=h.reach.1.2
 range' x hx:=by
  have:=List.idxOf_lt_length_of_mem hx;simp only[jl,List.length_map];omega
 inj x hx y hy e:=by
  have e':(mi s).idxOf x=(mi s).idxOf y:=by omega
  have h1:=List.getElem_idxOf<|List.idxOf_lt_length_of_mem hx;have h2:=List.getElem_idxOf<|List.idxOf_lt_length_of_mem hy;rw[<-h1,<-h2];simp only[e']
 cells x hx:=by
  have hlt:=List.idxOf_lt_length_of_mem hx;refine⟨?_,h.reach.2.2 x hx⟩;rw[cellAt_nat (by simpa[jl]using hlt)];simp only[jl,List.getElem_map];rw[List.getElem_idxOf hlt];rfl
theorem Yw{s:LX.State}(h:U7 s):jl (jl s)=jl s:=(iso_sweep h).sweep
open Go Go.Proofs Go.LX
def Yx(l:List Val):List Int:=l.flatMap fun v=>[v.kind,v.n]
def rowP(l:List Val):List Int:=(l.length:Int)::Yx l
def frP(f:LX.Frame):List Int:=f.proc::f.at_::f.iX::rowP f.regs
def zS(s:LX.State):List Int:=s.status::s.bO::(s.frames.length:Int)::(s.frames.flatMap frP++(s.cells.length:Int)::s.cells.flatMap rowP)
def Rdr(α:Type):=List Int->Option (α×List Int)
def xu{α:Type}(x:α):Rdr α:=fun l=>some (x,l)
def iE{α β:Type}(R:Rdr α)(f:α->Rdr β):Rdr β:=fun l=>(R l).bind fun q=>f q.1 q.2
def Gj:Rdr Int:=fun l=>match l with
 |[]=>none
 |x::r=>some (x,r)
def sG(m:Int):Rdr Nat:=fun l=>match l with
 |[]=>none
 |x::r=>if 0<=x/\x<=m then some (x.toNat,r)else none
def jY{α:Type}(R:Rdr α):Nat->Rdr (List α)
 |0=>xu []
 |n+1=>iE R fun x=>iE (jY R n) fun l=>xu (x::l)
def VZ:Rdr Val:=iE Gj fun k=>iE Gj fun n=>xu ⟨k,n⟩
def CZ(m:Int):Rdr (List Val):=iE (sG m) fun n=>jY VZ n
def QN:Rdr LX.Frame:=iE Gj fun p=>iE Gj fun a=>iE Gj fun t=>iE (CZ 40) fun r=>xu ⟨p,a,r,t⟩
def QO:Rdr LX.State:=iE Gj fun s=>iE Gj fun w=>iE (sG 10) fun n=>iE (jY QN n) fun f=>iE (sG 24) fun k=>iE (jY (CZ 4) k) fun c=>xu ⟨f,c,s,w⟩
theorem L6{α:Type}{R:Rdr α}{g:α->List Int}:∀(l:List α) (t:List Int),(∀x∈l,∀t,R (g x++t)=some (x,t))->jY R l.length (l.flatMap g++t)=some (l,t)
 |[],t,_=>rfl
 |x::l,t,h=>by
  show(R<|g x++l.flatMap g++t).bind _=_;rw[List.append_assoc,h x zq3,Option.bind_some];show(jY R l.length<|l.flatMap g++t).bind _=_;rw[L6 l t (fun y a=>h y (List.mem_cons_of_mem _ a)),Option.bind_some];rfl
theorem rRow_row{m:Nat}(l:List Val)(h:l.length<=m)(t:List Int):CZ m (rowP l++t)=some (l,t):=by
 unfold CZ iE rowP sG;simp only[List.cons_append];rw[if_pos V,Option.bind_some,Int.toNat_natCast];exact L6 l t fun v _ t=>rfl
theorem rFr_fr(f:LX.Frame)(h:f.regs.length<=40)(t:List Int):QN (frP f++t)=some (f,t):=by
 show((CZ (40:Nat)<|rowP f.regs++t).bind fun q=>xu (⟨f.proc,f.at_,q.1,f.iX⟩:LX.Frame) q.2)=_;rw[rRow_row f.regs h];rfl
theorem rSt_pack{s:LX.State}(h:Small s)(t:List Int):QO (zS s++t)=some (s,t):=by
 have j:=h.frames;have k:=h.cells;show((sG 10 ((s.frames.length:Int)::((s.frames.flatMap frP++(s.cells.length:Int)::s.cells.flatMap rowP)++t))).bind fun q=>(jY QN q.1 q.2).bind fun a=>(sG 24 a.2).bind fun b=>(jY (CZ 4) b.1 b.2).bind fun d=>xu (⟨a.1,d.1,s.status,s.bO⟩:LX.State) d.2)=_;rw[show sG 10 ((s.frames.length:Int)::((s.frames.flatMap frP++(s.cells.length:Int)::s.cells.flatMap rowP)++t))=some (s.frames.length,(s.frames.flatMap frP++(s.cells.length:Int)::s.cells.flatMap rowP)++t) by
  show(if _ then _ else _)=_;rw[if_pos V,Int.toNat_natCast],Option.bind_some]
 simp only;rw[List.append_assoc,L6 s.frames _ (fun f i t=>rFr_fr f (h.regs f i) t),Option.bind_some];simp only[List.cons_append];rw[show sG 24 ((s.cells.length:Int)::(s.cells.flatMap rowP++t))=some (s.cells.length,s.cells.flatMap rowP++t) by
  show(if _ then _ else _)=_;rw[if_pos V,Int.toNat_natCast],Option.bind_some]
 simp only;rw[L6 (R:=CZ 4) (g:=rowP) s.cells _ (fun c e t=>rRow_row (m:=4) c (h.fields c e) t),Option.bind_some];rfl
theorem Va(l:List Val):(Yx l).length=2*l.length:=by
 induction l with
 |nil=>rfl
 |cons v l ih=>show([v.kind,v.n]++Yx l).length=_;simp[ih];omega
theorem rows_len(m:Nat):∀l:List (List Val),(∀c∈l,c.length<=m)->(l.flatMap rowP).length<=(2*m+1)*l.length
 |[],_=>by simp
 |c::l,h=>by
  have e:=h c zq3;have b:=rows_len m l fun d a=>h d<|List.mem_cons_of_mem _ a;rw[List.flatMap_cons,List.length_append];unfold rowP;rw[List.length_cons,Va,List.length_cons,Nat.mul_succ];unfold rowP at b;omega
theorem frs_len:∀l:List LX.Frame,(∀f∈l,f.regs.length<=40)->(l.flatMap frP).length<=84*l.length
 |[],_=>by simp
 |f::l,h=>by
  have c:=h f zq3;have b:=frs_len l fun d a=>h d<|List.mem_cons_of_mem _ a;rw[List.flatMap_cons,List.length_append];unfold frP rowP;simp only[List.length_cons,Va];unfold frP rowP at b;omega
theorem Yy{s:LX.State}(h:Small s):(zS s).length<=1060:=by
 have b:=rows_len 4 s.cells h.fields;have d:=frs_len s.frames h.regs;have a:=h.frames;have c:=h.cells;unfold zS;simp only[List.length_cons,List.length_append];omega
def wake(s:LX.State):LX.State:=if s.status=3 then⟨s.frames,s.cells,0,0⟩else s
theorem app_loop{α ρ:Type}{body:Int->List Int->(List Int->Option ρ)->Option ρ}{K:List Int->Option ρ}{g:α->List Int}{l:List α}{m B:Nat}(d:∀x∈l,(g x).length<=m)
  (c:∀(i:Nat) (h:i<l.length) a nx,a.length<=B+m*i->body (i:Int) a nx=nx (a++g l[i])):
  ∀(k i:Nat) (a:List Int),i+k=l.length->a.length<=B+m*i->upto body K (i:Int) k a=K (a++(l.drop i).flatMap g)
 |0,i,a,h,_=>by rw[List.drop_eq_nil_of_le V];simp[upto]
 |k+1,i,a,h,hl=>by
  have b:i<l.length:=by omega
  rw[U5,c i b a _ hl,show((i:Int)+1)=((i+1:Nat):Int) by omega,app_loop d c k (i+1) _ V (by
   have:=d _<|List.getElem_mem b;rw[List.length_append,Nat.mul_add];omega),List.drop_eq_getElem_cons b,List.flatMap_cons,List.append_assoc]
theorem app_loop0{α ρ:Type}{body:Int->List Int->(List Int->Option ρ)->Option ρ}{K:List Int->Option ρ}{g:α->List Int}{l:List α}(m B:Nat)(c:∀x∈l,(g x).length<=m)
  (b:∀(i:Nat) (h:i<l.length) a nx,a.length<=B+m*i->body (i:Int) a nx=nx (a++g l[i])) (a:List Int) (d:a.length<=B):upto body K 0 l.length a=K (a++l.flatMap g):=by
 have:=app_loop (K:=K) c b l.length 0 a V V;rw[List.drop_zero]at this;exact this
theorem values_eq:∀(l:List Val) (a:List Int),a.length+2*l.length<=50000->Bv a l=some (a++Yx l)
 |[],a,_=>by simp[Bv,qW,CS,Yx]
 |v::l,a,h=>by
  simp only[List.length_cons]at h;have b:=values_eq l (a++[v.kind,v.n]) (by simp[-List.length_flatMap];omega);unfold Bv at b⊢;rw[iH];generalize each CR CS l=K at b⊢;unfold CR;rw[kM (room_le (by simp[-List.length_flatMap];omega) zq1),b];simp[Yx]
theorem row_len{c:List Val}{m:Nat}(h:c.length<=m):(rowP c).length<=2*m+1:=by
 unfold rowP;rw[List.length_cons,Va];omega
theorem fr_len{f:LX.Frame}(h:f.regs.length<=40):(frP f).length<=84:=by
 unfold frP;have:=row_len h;simp only[List.length_cons];omega
theorem VC{a:List bP}(b:pR a){s:LX.State}(h:xX a s):Small (jl s):=(Sn b h).small b
theorem pack_loop{s:LX.State}(h:Small s):upto (Gb s) (Gc s) 0 ((s.frames.length:Int)).toNat [s.status,s.bO,(s.frames.length:Int)]=some (zS s,0):=by
 have p:=h.frames;have o:=h.cells;have q:=frs_len s.frames h.regs;rw[Int.toNat_natCast,app_loop0 (g:=frP) (l:=s.frames) 84 3 (fun f m=>fr_len (h.regs f m)) (fun i a d j b=>by
  have n:=h.regs _<|List.getElem_mem a;unfold Gb;rw[wy a,bnd,kM (room_le (by simp[-List.length_flatMap];omega) zq1),values_eq _ _ (by simp[-List.length_flatMap];omega),bnd];unfold frP rowP;simp) _ zq3]
 unfold Gc;rw[kM (room_le (by simp[-List.length_flatMap];omega) zq1),Int.toNat_natCast,app_loop0 (g:=rowP) (l:=s.cells) 9 1000 (fun c k=>row_len (h.fields c k)) (fun i a d j b=>by
  have n:=h.fields _<|List.getElem_mem a;unfold LQ;rw[wy a,bnd,kM (room_le (by simp[-List.length_flatMap];omega) zq1),values_eq _ _ (by simp[-List.length_flatMap];omega),bnd];unfold rowP;simp) _ (by simp[-List.length_flatMap];omega)]
 unfold LU;have hp:=Yy h;have e:([s.status,s.bO,(s.frames.length:Int)]++s.frames.flatMap frP++[(s.cells.length:Int)]++s.cells.flatMap rowP)=zS s:=by
  unfold zS;simp
 rw[e,dF V,cond_false]
theorem Sq(a:List bP)(s:LX.State){N:Nat}(hN:100<=N):DX N a s=some (if Oy a≠0 then([],Oy a)else if ckS a s≠0 then([],ckS a s)else(zS (jl s),0)):=by
  unfold DX;rw[Jb,bnd];by_cases b:Oy a=0
  · rw[if_neg V,if_neg V];by_cases c:ckS a s=0
    · have d:=pU b;have e:=Io.1 c;rw[dF V,cond_false,Yr hN (e.sw d),bnd,if_neg V];exact pack_loop<|VC d e
    · rw[dT c,cond_true,if_pos c]
  · rw[if_pos b,dT b,cond_true,if_pos b]
structure Rel{α:Type}(o:Option (α×List Int))(b:Bool)(x':α)(l':List Int)(b':Bool):Prop where
 stay:b=true->b'=true
 ok:b=false->match o with
  |some (x,r)=>x'=x/\l'=r/\b'=false
  |none=>b'=true
theorem Rel.pure{α:Type}(x:α)(l:List Int)(b:Bool):Rel (xu x l) b x l b:=⟨id,fun h=>⟨rfl,rfl,h⟩⟩
theorem Rel.bind{α β:Type}{R:Rdr α}{f:α->Rdr β}{l i c:List Int}{b b' a:Bool}{x':α}{g:β}(j:Rel (R l) b x' i b')(d:Rel (f x' i) b' g c a):Rel (iE R f l) b g c a:=by
 refine⟨fun h=>d.stay<|j.stay h,fun h=>?_⟩;have:=j.ok h;unfold iE;cases e:R l with
 |none=>rw[e]at this;exact d.stay this
 |some q=>
  obtain⟨x,r⟩:=q;rw[e]at this;obtain⟨rfl,rfl,k⟩:=this;exact d.ok k
theorem Fb(l:List Int)(b:Bool):∃x c b',jO ⟨l,b⟩=some (x,⟨c,b'⟩)/\Rel (Gj l) b x c b':=by
 unfold jO;cases l with
 |nil=>exact⟨0,[],true,rfl,fun _=>rfl,fun _=>rfl⟩
 |cons x l=>
  simp only;rw[dF (by simp;omega),cond_false,show idx (x::l) 0=some x from idx0 x l,bnd,show sub? (x::l) 1 ((x::l).length:Int)=some l by
   have:=Wh (l:=x::l) (a:=1) (b:=(x::l).length) zq3<|Nat.le_refl _;rw[List.take_length]at this;exact this,bnd]
  exact⟨x,l,b,Z,id,fun h=>⟨Z,Z,h⟩⟩
theorem Sr(m:Nat)(l:List Int)(b:Bool):∃(x:Nat) (a:List Int) (b':Bool),oM ⟨l,b⟩ m=some ((x:Int),⟨a,b'⟩)/\x<=m/\Rel (sG m l) b x a b':=by
  unfold oM;obtain⟨x,a,b',h,e⟩:=Fb l b;rw[h,bnd];simp only;by_cases f:0<=x/\x<=(m:Int)
  · rw[dF V,dF V,Bool.or_self,cond_false];refine⟨x.toNat,a,b',by rw[Int.toNat_of_nonneg f.1],by omega,e.stay,fun d=>?_⟩;have:=e.ok d;cases l with
    |nil=>exact this
    |cons y l=>
      obtain⟨rfl,rfl,c⟩:=this;rw[show sG (m:Int) (x::a)=some (x.toNat,a)from if_pos f];exact⟨Z,Z,c⟩
  · rw[show(decide (x<0)||decide ((m:Int)<x))=true by
      rw[Bool.or_eq_true,decide_eq_true_eq,decide_eq_true_eq];omega,cond_true]
    refine⟨0,a,true,Z,by omega,fun _=>rfl,fun d=>?_⟩;have:=e.ok d;cases l with
    |nil=>rfl
    |cons y l=>
      obtain⟨rfl,rfl,c⟩:=this;rw[show sG (m:Int) (x::a)=none from if_neg f]
theorem Pk(n:Nat)(hn:n<=100):∀(m M i:Nat) (a:List Val) (l:List Int) (b:Bool),i+m=n->a.length=i->m<M->
    ∃vs c b',again (kL n) M (a,(i:Int),l,b)=some (a++vs,⟨c,b'⟩)/\vs.length=m/\Rel (jY VZ m l) b vs c b'
  |m,0,i,a,l,b,_,_,hM=>by omega
  |0,M+1,i,a,l,b,hi,_,_=>by
    rw[Gi];unfold kL;simp only;rw[dF V,cond_false];exact⟨[],l,b,by simp,Z,Rel.pure [] l b⟩
  |m+1,M+1,i,a,l,b,hi,ha,hM=>by
    rw[Gi];have d:=Pk n hn m M<|i+1;generalize again (kL n) M=K at d⊢;unfold kL;simp only;rw[dT V,cond_true];obtain⟨x,g,h,k,f⟩:=Fb l b;rw[k,bnd];simp only;obtain⟨y,j,q,r,o⟩:=Fb g h;rw[r,bnd];simp only;rw[kM (room_le (by simp;omega) zq1),gI V V];obtain⟨vs,e,p,u,s,t⟩:=d (a++[⟨x,y⟩]) j q V (by simp;omega) V;refine⟨⟨x,y⟩::vs,e,p,?_,by simp[s],?_⟩
    · rw[show((i:Int)+1)=((i+1:Nat):Int) by omega,u];simp
    · exact Rel.bind (Rel.bind f<|Rel.bind o<|Rel.pure _ _ _)<|Rel.bind t<|Rel.pure _ _ _
theorem Yz{N n:Nat}(hn:n<=100)(hN:200<=N)(l:List Int)(b:Bool):∃vs a b',rV N ⟨l,b⟩ n=some (vs,⟨a,b'⟩)/\vs.length=n/\Rel (jY VZ n l) b vs a b':=by
 unfold rV;obtain⟨vs,a,b',e,d,c⟩:=Pk n hn n N 0 [] l b V Z V;exact⟨vs,a,b',by simpa using e,d,c⟩
def none0:LX.State:=⟨[],[],0,0⟩
def Zl(a:List bP)(s:LX.State):LX.State×Int:=
 if Oy a≠0 then(none0,Oy a)else if ckS a s≠0 then(none0,ckS a s)else if jl s=s then(s,0)else(none0,4)
def dW(a:List bP)(l:List Int):LX.State×Int:=
 if 1200<l.length then(none0,2)else match QO l with
  |some (s,[])=>Zl a s
  |_=>(none0,8)
theorem un_end(a:List bP)(s:LX.State){N:Nat}(hN:100<=N):((EP a s).bind fun b=>bif decide ((b:Int)≠0)then some (none0,b)else(G9 N s).bind fun x=>(RH x s).bind fun y=>bif (!y)then some (none0,4)else some (s,0))=some (Zl a s):=by
  rw[Jb,bnd];unfold Zl;by_cases d:Oy a=0
  · rw[if_neg V,if_neg V];by_cases e:ckS a s=0
    · have f:=pU d;rw[dF V,cond_false,Yr hN ((Io.1 e).sw f),bnd,eqState,bnd,if_neg V];by_cases c:jl s=s
      · rw[dT c,if_pos c];rfl
      · rw[dF c,if_neg c];rfl
    · rw[dT e,cond_true,if_pos e]
  · rw[if_pos d,dT d,cond_true,if_pos d]
theorem cells_rel{N:Nat}(hN:200<=N)(g:Int×nz)(a:List bP)(e:List LX.Frame)(f d:Int×nz)(n:Nat)(v:g.1=n)(hn:n<=24):
    ∀(m M i:Nat) (c:List (List Val)) (l:List Int) (b:Bool),i+m=n->c.length=i->m<M->
    ∃cs k b',again (rX N g a e f d) M ((i:Int),l,b,c)=(bif (b'||decide ((0:Int)<(k.length:Int)))then some (none0,8)else some (Zl a ⟨e,c++cs,f.1,d.1⟩))/\Rel (jY (CZ 4) m l) b cs k b'
  |m,0,i,c,l,b,_,_,hM=>by omega
  |0,M+1,i,c,l,b,hi,_,_=>by
    rw[Gi];unfold rX;simp only;rw[dF V,cond_false];refine⟨[],l,b,?_,Rel.pure [] l b⟩;rw[List.append_nil,<-un_end a ⟨e,c,f.1,d.1⟩ (N:=N) V];rfl
  |m+1,M+1,i,c,l,b,hi,ha,hM=>by
    rw[Gi];have h:=cells_rel hN g a e f d n v hn m M<|i+1;generalize again (rX N g a e f d) M=K at h⊢;unfold rX;simp only;rw[dT V,cond_true];obtain⟨x,q,w,j,B,p⟩:=Sr 4 l b;rw[show((4:Nat):Int)=4 from rfl]at j;rw[j,bnd];simp only;obtain⟨vs,y,s,t,C,z⟩:=Yz (N:=N) (n:=x) V hN q w;rw[t,bnd];simp only;rw[kM (room_le (by simp;omega) zq1)];unfold Ha;rw[gI V V];obtain⟨cs,o,r,u,A⟩:=h (c++[vs]) y s V (by simp;omega) V;refine⟨vs::cs,o,r,?_,?_⟩
    · rw[show((i:Int)+1)=((i+1:Nat):Int) by omega,u];simp
    · exact Rel.bind (Rel.bind p z)<|Rel.bind A<|Rel.pure _ _ _
theorem times_bind{α β:Type}{R:Rdr α}{m:Nat}{G:List α->Rdr β}{l:List Int}:iE (jY R (m+1)) G l=iE R (fun x=>iE (jY R m) fun a=>G (x::a)) l:=by
 show((iE R (fun x=>iE (jY R m) fun l=>xu<|x::l) l).bind _)=_;unfold iE;cases R l with
 |none=>rfl
 |some q=>
  rw[Option.bind_some,Option.bind_some];simp only;cases jY R m q.2 with
  |none=>rfl
  |some q2=>rfl
theorem YA{N:Nat}(hN:200<=N)(e:Int×nz)(a:List bP)(h g:Int×nz)(n:Nat)(S:e.1=n)(hn:n<=10):
    ∀(m M i:Nat) (d:List LX.Frame) (l:List Int) (b:Bool),i+m=n->d.length=i->m<M->
    ∃(s:LX.State) (G:List Int) (b':Bool),again (qj N e a h g) M ((i:Int),l,b,d)=(bif (b'||decide ((0:Int)<(G.length:Int)))then some (none0,8)else some (Zl a s))/\
      Rel (iE (jY QN m) (fun f=>iE (sG 24) fun k=>iE (jY (CZ 4) k) fun c=>xu (⟨d++f,c,h.1,g.1⟩:LX.State)) l) b s G b'
  |m,0,i,d,l,b,_,_,hM=>by omega
  |0,M+1,i,d,l,b,hi,_,_=>by
    rw[Gi];unfold qj;simp only;rw[dF V,cond_false];obtain⟨x,j,o,r,E,u⟩:=Sr 24 l b;rw[show((24:Nat):Int)=24 from rfl]at r;rw[r,bnd];simp only;obtain⟨cs,z,v,y,A⟩:=cells_rel hN ((x:Int),⟨j,o⟩) a d h g x Z E x N 0 [] j o V Z V;refine⟨⟨d++[],[]++cs,h.1,g.1⟩,z,v,?_,?_⟩
    · rw[List.append_nil];exact y
    · exact Rel.bind (Rel.pure [] l b)<|Rel.bind u<|Rel.bind A<|Rel.pure _ _ _
  |m+1,M+1,i,d,l,b,hi,ha,hM=>by
    rw[Gi];have I:=YA hN e a h g n S hn m M<|i+1;generalize again (qj N e a h g) M=K at I⊢;unfold qj;simp only;rw[dT V,cond_true];obtain⟨p,j,o,r,u⟩:=Fb l b;rw[r,bnd];simp only;obtain⟨q,z,v,y,A⟩:=Fb j o;rw[y,bnd];simp only;obtain⟨t,P,X,R,r3⟩:=Fb z v;rw[R,bnd];simp only;obtain⟨x,l4,b4,L,E,r4⟩:=Sr 40 P X;rw[show((40:Nat):Int)=40 from rfl]at L;rw[L,bnd];simp only;obtain⟨vs,C,J,T,hv,Q⟩:=Yz (N:=N) (n:=x) V hN l4 b4;rw[T,bnd];simp only;rw[kM (room_le (by simp;omega) zq1),gI V V];obtain⟨s,l6,b6,e6,B⟩:=I (d++[⟨p,q,vs,t⟩]) C J V (by simp;omega) V;refine⟨s,l6,b6,?_,?_⟩
    · rw[show((i:Int)+1)=((i+1:Nat):Int) by omega,e6]
    · have w:Rel (QN l) b ⟨p,q,vs,t⟩ C J:=Rel.bind u<|Rel.bind A<|Rel.bind r3<|Rel.bind (Rel.bind r4 Q)<|Rel.pure _ _ _;simp only[List.append_assoc,List.cons_append,List.nil_append]at B;rw[times_bind];exact Rel.bind (f:=fun x=>iE (jY QN m) fun O=>iE (sG 24) fun k=>iE (jY (CZ 4) k) fun c=>xu (⟨d++x::O,c,h.1,g.1⟩:LX.State)) w B
theorem end_rel{a:List bP}{l b:List Int}{b':Bool}{s:LX.State}{y:Option (LX.State×Int)}(d:¬1200<l.length)(c:Rel (QO l) false s b b')(h:y=(bif (b'||decide ((0:Int)<(b.length:Int)))then some (none0,8)else some (Zl a s))):y=some (dW a l):=by
 rw[h];unfold dW;rw[if_neg d];have:=c.ok Z;cases e:QO l with
 |none=>rw[e]at this;simp only at this;subst this;rfl
 |some q=>
  obtain⟨f,r⟩:=q;rw[e]at this;obtain⟨rfl,rfl,rfl⟩:=this;cases b with
  |nil=>rfl
  |cons x b=>rw[Bool.false_or,dT zq3,cond_true]
theorem C8(a:List bP)(l:List Int){N:Nat}(hN:200<=N):qP N a l=some (dW a l):=by
  unfold qP;by_cases f:1200<l.length
  · rw[dT V,cond_true];unfold dW;rw[if_pos f];rfl
  · rw[dF V,cond_false];obtain⟨st,c,h,k,j⟩:=Fb l false;rw[k,bnd];simp only;obtain⟨wh,i,e,m,q⟩:=Fb c h;rw[m,bnd];simp only;obtain⟨x,b,d,g,n,r⟩:=Sr 10 i e;rw[show((10:Nat):Int)=10 from rfl]at g;rw[g,bnd];simp only;obtain⟨s,u,t,p,o⟩:=YA hN ((x:Int),⟨b,d⟩) a (st,⟨c,h⟩) (wh,⟨i,e⟩) x Z n x N 0 [] b d V Z V;exact end_rel f (Rel.bind j<|Rel.bind q<|Rel.bind r o) p
section
variable{I:List Int}(hI:I.length<=1200)
include hI
omit hI in
end
open Go Go.Proofs Go.LX
theorem read_all{s:LX.State}(h:Small s):QO (zS s)=some (s,[]):=by
 have:=rSt_pack h [];rw[List.append_nil]at this;exact this
theorem unpack_pack{a:List bP}(d:Oy a=0){s:LX.State}(h:xX a s):dW a (zS (jl s))=(jl s,0):=by
 have b:=pU d;have c:=VC b h;unfold dW;rw[if_neg (by have:=Yy c;omega),read_all c];simp only;unfold Zl;rw[if_neg V,if_neg (by rw[Io.2 (Sn b h)];omega),if_pos (Yw (h.sw b))]
theorem wake_ok{a:List bP}{s:LX.State}(h:xX a s):xX a (wake s):=by
  unfold wake;by_cases b:s.status=3
  · rw[if_pos b];refine⟨by simp,by simp,fun _=>rfl,?_,h.many,h.cells,h.frames⟩;have:=h.ended;constructor
    · intro e;simp at e
    · intro e;have:=h.ended.2 e;omega
  · rw[if_neg b];exact h
namespace Dk
open Go Go.Proofs Go.LX
theorem eqInt(a b:List Int):slices_Equal_int a b=some (decide (a=b)):=by
  unfold slices_Equal_int;by_cases h:a.length=b.length
  · rw[dF V];simp only[cond_false,Int.toNat_natCast];rw[SY (fun x y=>decide (x=y)) a b h rfl (fun i x y f c d=>by
      unfold zX;rw[kC,kC,c,d];by_cases e:x=y<;>simp[e]),IB (fun _ _=>rfl)]
  · rw[dT V];have:a≠b:=fun e=>h (by rw[e]);rw[dF this];rfl
theorem rec_eq(r:Rec):dU r=gP r:=by
  unfold dU gP zQ tO lQ eQ;have d:(((!(bu r.co 0 2))||(!(bu r.aM 0 100)))||(!(bu r.place 0 2)))=(((((decide ((r.co:Int)<0)||decide ((3:Int)<=r.co))||decide ((r.aM:Int)<0))||decide ((100:Int)<r.aM))||decide ((r.place:Int)<0))||decide ((3:Int)<=r.place)):=by
    unfold bu;rw[Bool.eq_iff_iff];simp;omega
  rw[d];generalize (((((decide ((r.co:Int)<0)||decide ((3:Int)<=r.co))||decide ((r.aM:Int)<0))||decide ((100:Int)<r.aM))||decide ((r.place:Int)<0))||decide ((3:Int)<=r.place))=C1;generalize (decide ((40:Int)<(r.says.length:Int))||decide ((1200:Int)<(r.image.length:Int)))=C2;generalize decide ((r.place:Int)≠0)=p0;generalize decide ((0:Int)<(r.says.length:Int))=s1;generalize decide ((0:Int)<(r.image.length:Int))=i1;generalize decide ((r.aM:Int)=0)=e0;have e:∀l:Str,(hasB l 73=true\/hasB l 73=false):=fun l=>by cases hasB l 73<;>simp
  by_cases k1:r.kind=1
  · rw[k1,show hasB ((lk (1:Int) ([(1,[73]),(2,[83,73]),(3,[80]),(4,[73]),(5,[])]:List (Int×Str))).getD []) 80=false by decide,show hasB ((lk (1:Int) ([(1,[73]),(2,[83,73]),(3,[80]),(4,[73]),(5,[])]:List (Int×Str))).getD []) 83=false by decide,show hasB ((lk (1:Int) ([(1,[73]),(2,[83,73]),(3,[80]),(4,[73]),(5,[])]:List (Int×Str))).getD []) 73=true by decide];cases C1<;>cases C2<;>cases p0<;>cases s1<;>cases i1<;>cases e0<;>rfl
  by_cases k2:r.kind=2
  · rw[k2,show hasB ((lk (2:Int) ([(1,[73]),(2,[83,73]),(3,[80]),(4,[73]),(5,[])]:List (Int×Str))).getD []) 80=false by decide,show hasB ((lk (2:Int) ([(1,[73]),(2,[83,73]),(3,[80]),(4,[73]),(5,[])]:List (Int×Str))).getD []) 83=true by decide,show hasB ((lk (2:Int) ([(1,[73]),(2,[83,73]),(3,[80]),(4,[73]),(5,[])]:List (Int×Str))).getD []) 73=true by decide];cases C1<;>cases C2<;>cases p0<;>cases s1<;>cases i1<;>cases e0<;>rfl
  by_cases b:r.kind=3
  · rw[b,show hasB ((lk (3:Int) ([(1,[73]),(2,[83,73]),(3,[80]),(4,[73]),(5,[])]:List (Int×Str))).getD []) 80=true by decide,show hasB ((lk (3:Int) ([(1,[73]),(2,[83,73]),(3,[80]),(4,[73]),(5,[])]:List (Int×Str))).getD []) 83=false by decide,show hasB ((lk (3:Int) ([(1,[73]),(2,[83,73]),(3,[80]),(4,[73]),(5,[])]:List (Int×Str))).getD []) 73=false by decide];cases C1<;>cases C2<;>cases p0<;>cases s1<;>cases i1<;>cases e0<;>rfl
  by_cases a:r.kind=4
  · rw[a,show hasB ((lk (4:Int) ([(1,[73]),(2,[83,73]),(3,[80]),(4,[73]),(5,[])]:List (Int×Str))).getD []) 80=false by decide,show hasB ((lk (4:Int) ([(1,[73]),(2,[83,73]),(3,[80]),(4,[73]),(5,[])]:List (Int×Str))).getD []) 83=false by decide,show hasB ((lk (4:Int) ([(1,[73]),(2,[83,73]),(3,[80]),(4,[73]),(5,[])]:List (Int×Str))).getD []) 73=true by decide];cases C1<;>cases C2<;>cases p0<;>cases s1<;>cases i1<;>cases e0<;>rfl
  by_cases c:r.kind=5
  · rw[c,show hasB ((lk (5:Int) ([(1,[73]),(2,[83,73]),(3,[80]),(4,[73]),(5,[])]:List (Int×Str))).getD []) 80=false by decide,show hasB ((lk (5:Int) ([(1,[73]),(2,[83,73]),(3,[80]),(4,[73]),(5,[])]:List (Int×Str))).getD []) 83=false by decide,show hasB ((lk (5:Int) ([(1,[73]),(2,[83,73]),(3,[80]),(4,[73]),(5,[])]:List (Int×Str))).getD []) 73=false by decide];cases C1<;>cases C2<;>cases p0<;>cases s1<;>cases i1<;>cases e0<;>rfl
  rw[show lk r.kind ([(1,[73]),(2,[83,73]),(3,[80]),(4,[73]),(5,[])]:List (Int×Str))=none by simp[lk,k1,k2,b,a,c]];rw[show(decide ((r.kind:Int)<1)||decide ((5:Int)<r.kind))=true by simp;omega];rfl
structure GoodR(r:Rec):Prop where
 kind:1<=r.kind/\r.kind<=5
 co:0<=r.co/\r.co<=2
 aM:1<=r.aM/\r.aM<=100
 place:0<=r.place/\r.place<=2
 says:r.says.length<=40
 image:r.image.length<=1200
 has:(r.kind=1\/r.kind=2\/r.kind=4)->1<=r.image.length
theorem goodR(r:Rec)(h:gP r=0):GoodR r:=by
 rw[<-rec_eq]at h;unfold dU at h;have hn:0<=(r.image.length:Int):=by omega
 generalize e:(decide ((r.kind:Int)<1)||decide ((5:Int)<r.kind))=A at h;cases A with
 |true=>simp only[cond_true]at h;exact absurd h zq1
 |false=>
 simp only[cond_false]at h;generalize d:(((((decide ((r.co:Int)<0)||decide ((3:Int)<=r.co))||decide ((r.aM:Int)<0))||decide ((100:Int)<r.aM))||decide ((r.place:Int)<0))||decide ((3:Int)<=r.place))=B at h;cases B with
 |true=>simp only[cond_true]at h;exact absurd h zq1
 |false=>
 simp only[cond_false]at h;generalize c:(decide ((40:Int)<(r.says.length:Int))||decide ((1200:Int)<(r.image.length:Int)))=C at h;cases C with
 |true=>simp only[cond_true]at h;exact absurd h zq1
 |false=>
 simp only[cond_false]at h;generalize b:((((decide ((r.kind:Int)≠3)&&decide ((r.place:Int)≠0))||(decide ((r.kind:Int)≠2)&&decide ((0:Int)<(r.says.length:Int))))||(((decide ((r.kind:Int)=1)||decide ((r.kind:Int)=2))||decide ((r.kind:Int)=4)) !=decide ((0:Int)<(r.image.length:Int))))||decide ((r.aM:Int)=0))=D at h;cases D with
 |true=>simp only[cond_true]at h;exact absurd h zq1
 |false=>
 simp only[Bool.or_eq_false_iff,decide_eq_false_iff_not,bne_eq_false_iff_eq]at e d c b;obtain⟨⟨⟨_,_⟩,a⟩,g⟩:=b;refine⟨by omega,by omega,by omega,by omega,by omega,by omega,fun i=>?_⟩;have:((decide ((r.kind:Int)=1)||decide ((r.kind:Int)=2))||decide ((r.kind:Int)=4))=true:=by
  simp;omega
 rw[this]at a;have f:decide ((0:Int)<(r.image.length:Int))=true:=by
  cases hq:decide ((0:Int)<(r.image.length:Int))with
  |true=>rfl
  |false=>rw[hq]at a;cases a
 have:=Zz f;omega
def OT(r:Rec):Prop:=kg r.kind/\kg r.co/\kg r.aM/\kg r.place/\(∀x∈r.says,kg x)/\(∀x∈r.image,kg x)
def nl(r:Rec):List Int:=[r.kind,r.co,r.aM,r.place,(r.says.length:Int)]++r.says++r.image
def zR:Rec:=⟨0,0,0,0,[],[]⟩
def wP(r:Rec):Str×Int:=if dU r=0 then(vo 32 ((nl r).map Lib.itoa),0)else([],dU r)
def NM(l:List Int)(n:Nat):Rec:=⟨l.getD 0 0,l.getD 1 0,l.getD 2 0,l.getD 3 0,(l.take (5+n)).drop 5,l.drop (5+n)⟩
def KO(l:List Int):Rec×Int:=
 if l.length<5 then(zR,1)else if l.getD 4 0<0\/(l.length:Int)-5<l.getD 4 0 then(zR,1)else
 if dU (NM l (l.getD 4 0).toNat)=0 then(NM l (l.getD 4 0).toNat,0)else(zR,dU (NM l (l.getD 4 0).toNat))
def ng(s:Str):Rec×Int:=match Vm 32 s with|none=>(zR,1)|some l=>KO l
def Su(s:Str):Rec×Int:=if(60000:Int)<(s.length:Int)then(zR,2)else ng s
theorem concat5:∀(l:List (List Int)) (a:List Int),a.length+(l.map List.length).sum<=1000000->each uo uq l a=some (a++l.flatten)
 |[],a,_=>by simp[qW,uq]
 |x::l,a,h=>by
  simp only[List.map_cons,List.sum_cons]at h;rw[iH,uo,kM ⟨by omega,by omega⟩,concat5 l (a++x) (by rw[List.length_append];omega)];simp
theorem concat7(a:List (List Int)):∀(l:List (List Int)) (n:Nat),n+(l.map List.length).sum<=1000000->each uu (pM a) l (n:Int)=pM a ((n+(l.map List.length).sum:Nat):Int)
 |[],n,_=>by simp[qW]
 |x::l,n,h=>by
  simp only[List.map_cons,List.sum_cons]at h⊢;rw[iH,uu,gI,dF V,cond_false,show((n:Int)+(x.length:Int))=((n+x.length:Nat):Int) by omega,concat7 a l (n+x.length) V,Nat.add_assoc]
theorem concat_eq(a:List (List Int))(h:(a.map List.length).sum<=1000000):uw a=some a.flatten:=by
 unfold uw;have:=concat7 a a 0 V;rw[show((0:Nat):Int)=0 from rfl]at this;rw[this];unfold pM;rw[show O0 8 ((0+(a.map List.length).sum:Nat):Int)=some ([]:List Int) by unfold O0;rw[kM ⟨by omega,by omega⟩],bnd,concat5 a [] (by simpa using h)];simp
theorem concat3(a b c:List Int)(h:a.length+b.length+c.length<=1000000):uw [a,b,c]=some (a++b++c):=by
 rw[concat_eq _ (by simp;omega)];simp
theorem nl_len(r:Rec):(nl r).length=5+r.says.length+r.image.length:=by simp[nl];omega
theorem nl_ok{r:Rec}(g:GoodR r)(w:OT r):∀x∈nl r,kg x:=by
  obtain⟨c,d,e,f,b,h⟩:=w;have i:=g.says;intro x a;simp only[nl,List.mem_append,List.mem_cons,List.not_mem_nil,or_false]at a;rcases a with((rfl|rfl|rfl|rfl|rfl)|a)|a
  · exact c
  · exact d
  · exact e
  · exact f
  · exact kg.mk V V
  · exact b x a
  · exact h x a
theorem YB{r:Rec}(g:GoodR r):(nl r).length<=1245:=by rw[nl_len];have:=g.says;have:=g.image;omega
theorem nl_ne(r:Rec):nl r≠[]:=by simp[nl]
theorem YC:∀(l:List Int) (pre:List Str),(∀x∈l,kg x)->gU xm tY (pre.length:Int) l (pre++List.replicate l.length ([]:Str))=tY (pre++l.map Lib.itoa)
 |[],pre,_=>by simp[SN]
 |x::l,pre,h=>by
  rw[yf,xm,Wn (h x zq3),bnd,kC];have b:(pre++List.replicate (x::l).length ([]:Str))[pre.length]? =some []:=by rw[List.getElem?_append_right (Nat.le_refl _)];simp
  rw[b,bnd,Int.toNat_natCast];have c:(pre++List.replicate (x::l).length ([]:Str)).set pre.length (Lib.itoa x)=(pre++[Lib.itoa x])++List.replicate l.length ([]:Str):=by
   rw[List.set_append_right _ _ (Nat.le_refl _)];simp[List.replicate_succ]
  have d:((pre.length:Int)+1)=((pre++[Lib.itoa x]).length:Int):=by simp
  rw[c,d,YC l (pre++[Lib.itoa x]) (fun y a=>h y (List.mem_cons_of_mem _ a))];simp
theorem join_ok{l:List Int}(h:∀x∈l,kg x)(d:l.length<=1245):Wl (l.map Lib.itoa) [32]=some (vo 32 (l.map Lib.itoa)):=by
 have b:=Td 32 21 (l.map Lib.itoa) (by intro x c;obtain⟨y,a,rfl⟩:=List.mem_map.1 c;exact itoa_len (h y a));rw[List.length_map]at b;exact joinS_eq 32 (by rw[List.length_map];omega) V
theorem print_eq(r:Rec)(c:dU r=0->OT r):F9 r=some (wP r):=by
  unfold F9 wP;by_cases h:dU r=0
  · have g:=goodR r (by rw[<-rec_eq];exact h);have e:=g.says;have f:=g.image;rw[dF V,cond_false,if_pos h,concat3 _ _ _ (by simp;omega),bnd];have d:=YB g;have a:=nl_ok g<|c h;show iA _ (gU xm tY 0 (nl r)<|List.replicate ((nl r).length:Int).toNat ([]:Str))=_;have b:(r.kind::r.co::r.aM::r.place::(r.says.length:Int)::(r.says++r.image)).length=(nl r).length:=by simp[nl]
    rw[kM (by
      refine⟨by omega,?_⟩;have:([r.kind,r.co,r.aM,r.place,(r.says.length:Int)]++r.says++r.image).length=(nl r).length:=rfl;rw[this];omega),Int.toNat_natCast]
    have:=YC (nl r) [] a;simp only[List.length_nil,List.nil_append]at this;rw[show((0:Nat):Int)=0 from rfl]at this;rw[this];unfold tY;rw[join_ok a d,bnd]
  · rw[dT h,cond_true,if_neg h]
theorem numbers_each:∀(w:List Str) (a:List Int),(∀x∈w,x.length<=60000)->a.length+w.length<=1000000->
    each BD BF w a=some (match w.mapM numOf with|some v=>(a++v,true)|none=>([],false))
  |[],a,_,_=>by simp[qW,BF]
  |x::w,a,h,hl=>by
    have g:=h x zq3;simp only[List.length_cons]at hl;have c:=fun y=>numbers_each w (a++[y]) (fun z f=>h z (List.mem_cons_of_mem _ f)) (by simp;omega);rw[iH,BD,parseS_eq V,bnd,List.mapM_cons];cases e:Lib.atoiAll x with
    |ok v=>
      have d:kg v:=Lib.atoiAll_bounds e;simp only[cond_false];rw[Wn d,bnd,vQ];by_cases b:Lib.itoa v=x
      · rw[dF (by simpa using b),cond_false,kM ⟨by simp;omega,by simp;omega⟩,c];have:numOf x=some v:=by simp[numOf,e,b]
        rw[this];cases e2:w.mapM numOf with
        |none=>rfl
        |some m=>simp
      · rw[dT b,cond_true];have:numOf x=none:=by simp[numOf,e,b]
        rw[this];rfl
    |range=>
      have:numOf x=none:=by simp[numOf,e]
      rw[this];rfl
    |_=>
      have:numOf x=none:=by simp[numOf,e]
      rw[this];rfl
theorem YD:∀(w:List Str) (a:List Int),(∀x∈w,x.length<=60000)->a.length+w.length<=1000000->
    each zu qV w a=match w.mapM numOf with|some v=>qV (a++v)|none=>some (zR,1)
  |[],a,_,_=>by simp[qW]
  |x::w,a,h,hl=>by
    have g:=h x zq3;simp only[List.length_cons]at hl;have c:=fun y=>YD w (a++[y]) (fun z f=>h z (List.mem_cons_of_mem _ f)) (by simp;omega);rw[iH,zu,atoiS_eq V,bnd,List.mapM_cons];cases e:Lib.atoiAll x with
    |ok v=>
      have d:kg v:=Lib.atoiAll_bounds e;simp only[cond_false];rw[Wn d,bnd,zt];by_cases b:Lib.itoa v=x
      · rw[dF (by simpa using b),cond_false,kM ⟨by simp;omega,by simp;omega⟩,c];have:numOf x=some v:=by simp[numOf,e,b]
        rw[this];cases e2:w.mapM numOf with
        |none=>rfl
        |some m=>simp
      · rw[dT b,cond_true];have:numOf x=none:=by simp[numOf,e,b]
        rw[this];rfl
    |range=>
      have:numOf x=none:=by simp[numOf,e]
      rw[this];rfl
    |_=>
      have:numOf x=none:=by simp[numOf,e]
      rw[this];rfl
theorem five{l:List Int}(h:¬l.length<5):∃a b c d n r,l=a::b::c::d::n::r:=by
 match l,h with
 |a::b::c::d::n::r,_=>exact⟨a,b,c,d,n,r,rfl⟩
 |[],h=>simp at h
 |[a],h=>simp at h
 |[a,b],h=>simp at h
 |[a,b,c],h=>simp at h
 |[a,b,c,d],h=>simp at h
theorem parse_k31(l:List Int)(o:l.length<=1000000)(hI:∀x∈l,kg x):qV l=some (KO l):=by
  unfold qV KO;by_cases g:l.length<5
  · rw[dT V,if_pos g];rfl
  · rw[dF V,if_neg g,cond_false];obtain⟨a,b,c,d,n,r,rfl⟩:=five g;have hn:kg n:=hI n zq3;have j:idx (a::b::c::d::n::r) 4=some n:=rfl;rw[j,bnd];have i:(a::b::c::d::n::r).getD 4 0=n:=rfl;rw[i];by_cases h:n<0
    · rw[dT h,if_pos (.inl h)];rfl
    · rw[dF h,cond_false];simp only[List.length_cons]at o⊢;rw[gI];by_cases f:((r.length+1+1+1+1+1:Nat):Int)-5<n
      · rw[dT f,if_pos (.inr f)];rfl
      · rw[dF f,if_neg V];unfold vJ;obtain⟨m,rfl⟩:=Int.eq_ofNat_of_zero_le (show 0<=n by omega);rw[cond_false,show idx (a::b::c::d::(m:Int)::r) 0=some a from rfl,bnd,show idx (a::b::c::d::(m:Int)::r) 1=some b from rfl,bnd,show idx (a::b::c::d::(m:Int)::r) 2=some c from rfl,bnd,show idx (a::b::c::d::(m:Int)::r) 3=some d from rfl,bnd,show idx (a::b::c::d::(m:Int)::r) 4=some (m:Int)from rfl,bnd,gI];rw[show(5+(m:Int))=((5+m:Nat):Int) by omega,show(5:Int)=((5:Nat):Int)from rfl,Wh V (by simp;omega),bnd,gI,Wh (by simp;omega) (Nat.le_refl _),bnd,p9 (by simp;omega) (by simp;omega),bnd,p9 (by simp;omega) (by simp;omega),bnd];have k:((a::b::c::d::(m:Int)::r).take (a::b::c::d::(m:Int)::r).length).drop (5+m)=(a::b::c::d::(m:Int)::r).drop (5+m):=by rw[List.take_length]
        rw[k];unfold Dw;show(bif decide ((dU (NM (a::b::c::d::(m:Int)::r) m):Int)≠0)then some (zR,dU<|NM (a::b::c::d::(m:Int)::r) m)else some (NM (a::b::c::d::(m:Int)::r) m,0))=_;rw[Int.toNat_natCast];by_cases e:dU (NM (a::b::c::d::(m:Int)::r) m)=0
        · rw[dF V,if_pos e];rfl
        · rw[dT e,if_neg e];rfl
theorem parse_eq(s:Str):F5 s=some (Su s):=by
  unfold F5 Su;by_cases h:(60000:Int)<(s.length:Int)
  · rw[dT h,if_pos h];rfl
  · rw[dF h,if_neg h,cond_false];have d:=K4 32 s;rw[splitS_eq 32 V,bnd,YD _ [] (fun x c=>by have:=Dr 32 s x c;omega) (by simp;omega)];unfold ng;cases e:Vm 32 s with
    |none=>unfold Vm at e;rw[e]
    |some l=>
      have:=Jg (show(jC 32 s).mapM numOf=some l from e);unfold Vm at e;rw[e];have b:l.length<=1000000:=by
        have a:=congrArg List.length this.1;rw[List.length_map]at a;omega
      simp only[List.nil_append];exact parse_k31 l b this.2
theorem mkRec_nl(r:Rec):NM (nl r) r.says.length=r:=by
 obtain⟨k,c,e,p,s,i⟩:=r;unfold NM nl;have a:((([k,c,e,p,(s.length:Int)]++s++i).take (5+s.length)).drop 5)=s:=by
  rw[List.append_assoc,show 5+s.length=([k,c,e,p,(s.length:Int)]).length+s.length from rfl,List.take_length_add_append,List.take_left];rfl
 have b:([k,c,e,p,(s.length:Int)]++s++i).drop (5+s.length)=i:=by
  rw[show 5+s.length=([k,c,e,p,(s.length:Int)]++s).length by simp;omega,List.drop_left]
 simp only[a,b];rfl
theorem fromNums_nl{r:Rec}(h:dU r=0):KO (nl r)=(r,0):=by
 have a:=nl_len r;unfold KO;rw[if_neg V,show(nl r).getD 4 0=(r.says.length:Int)from rfl,if_neg V,Int.toNat_natCast,mkRec_nl,if_pos h]
theorem YE{r:Rec}(h:dU r=0)(w:OT r):ng (vo 32 ((nl r).map Lib.itoa))=(r,0):=by
 unfold ng;rw[nums_join zq1 (nl_ne r) (nl_ok (goodR r (by rw[<-rec_eq];exact h)) w)];exact fromNums_nl h
theorem nl_mk{l:List Int}{n:Nat}(h:5+n<=l.length)(e:l.getD 4 0=n):nl (NM l n)=l:=by
 obtain⟨a,b,c,d,m,r,rfl⟩:=five (l:=l) V;have i:m=n:=e;subst i;simp only[List.length_cons]at h;have f:((a::b::c::d::(n:Int)::r).take (5+n)).drop 5=r.take n:=by
  rw[show 5+n=n+1+1+1+1+1 by omega];rfl
 have g:(a::b::c::d::(n:Int)::r).drop (5+n)=r.drop n:=by
  rw[show 5+n=n+1+1+1+1+1 by omega];rfl
 show [a,b,c,d,((((a::b::c::d::(n:Int)::r).take (5+n)).drop 5).length:Int)]++((a::b::c::d::(n:Int)::r).take (5+n)).drop 5++(a::b::c::d::(n:Int)::r).drop (5+n)=_;rw[f,g,List.length_take,show min n r.length=n by omega,List.append_assoc,List.take_append_drop];rfl
theorem read_ok{s:Str}{r:Rec}(h:ng s=(r,0)):dU r=0/\OT r/\s=vo 32 ((nl r).map Lib.itoa):=by
  unfold ng at h;cases e:Vm 32 s with
  |none=>rw[e]at h;cases h
  |some l=>
    rw[e]at h;obtain⟨g,j,p⟩:=join_nums e;simp only at h;unfold KO at h;split at h
    · cases h
    · rename_i o;split at h
      · cases h
      · rename_i i;split at h
        · rename_i c;obtain⟨m,f⟩:=Int.eq_ofNat_of_zero_le (show 0<=l.getD 4 0 by omega);rw[f]at h c i;simp only[Int.toNat_natCast]at h c;have k:NM l m=r:=by injection h
          have b:=nl_mk (l:=l) (n:=m) V f;rw[k]at b c;refine⟨c,?_,by rw[b];exact g⟩;have a:∀x∈nl r,kg x:=by rw[b];exact j
          refine⟨a _ (by simp[nl]),a _ (by simp[nl]),a _ (by simp[nl]),a _ (by simp[nl]),fun x d=>a x (by simp[nl,d]),fun x d=>a x (by simp[nl,d])⟩
        · rename_i c;exact absurd (congrArg Prod.snd h) c
theorem text_ok{r:Rec}(h:dU r=0):wP r=(vo 32 ((nl r).map Lib.itoa),0):=by unfold wP;rw[if_pos h]
def r0:Rec:=⟨2,1,2,0,[7,-8],[1]⟩
def QT(most:Int):List Str->List Rec->Int->List Rec×Int×Int
 |[],l,n=>(l,n,0)
 |[x],l,n=>if x=[]then(l,n,0)else(l,n,8)
 |x::y::r,l,n=>if(ng x).2≠0 then(l,n,(ng x).2)else if most<=(l.length:Int)then(l,n,2)else QT most (y::r) (l++[(ng x).1]) (n+(x.length:Int)+1)
def ln(most:Int)(s:Str):List Rec×Int×Int:=QT most (jC 10 s) [] 0
theorem lnP_cons{most:Int}{x:Str}{q:List Str}{l:List Rec}{n:Int}(a:q≠[]):QT most (x::q) l n=if(ng x).2≠0 then(l,n,(ng x).2)else if most<=(l.length:Int)then(l,n,2)else QT most q (l++[(ng x).1]) (n+(x.length:Int)+1):=by
 cases q with
 |nil=>exact absurd Z a
 |cons y r=>rfl
theorem joinC_len2(c:UInt8)(x y:Str)(l:List Str):(vo c (x::y::l)).length=x.length+1+(vo c (y::l)).length:=by
 rw[yn,List.length_append,List.length_cons];omega
theorem lnP_len(most:Int):∀(p:List Str) (l:List Rec) (n:Int),0<=n->n<=(QT most p l n).2.1/\(QT most p l n).2.1<=n+(vo 10 p).length/\(QT most p l n).1.length+0<=l.length+p.length/\l.length<=(QT most p l n).1.length/\((l.length:Int)<=most->((QT most p l n).1.length:Int)<=most)
  |[],l,n,hn=>by simp[QT];omega
  |[x],l,n,hn=>by
    unfold QT;split<;>simp<;>omega
  |x::y::r,l,n,hn=>by
    have b:=joinC_len2 10 x y r;unfold QT;split
    · simp;omega
    · split
      · simp;omega
      · have a:=lnP_len most (y::r) (l++[(ng x).1]) (n+(x.length:Int)+1) V;simp only[List.length_append,List.length_cons,List.length_nil]at a⊢;omega
theorem lines_loop(a:Str)(b:Int)(k:a.length<=60000):∀(p:List Str) (s:Str) (l:List Rec) (N:Nat),jC 10 s=p->s.length<=a.length->p.length<=N->l.length+p.length<=60001->(l.length:Int)<=b->
    again (Ae a b) N (s,l)=some (QT b p l ((a.length:Int)-(s.length:Int))):=by
  intro p;induction p with
  |nil=>intro s l N hp;exact absurd hp (Gn 10 s)
  |cons x q ih=>
    intro s l N hp m hN j n;cases N with
    |zero=>simp at hN
    |succ N=>
    rw[again,Ae];cases q with
    |nil=>
      obtain⟨rfl,d⟩:=YY hp;by_cases e:s=[]
      · subst e;rw[dF zq3,cond_false];simp[QT]
      · rw[dT e,cond_true,cutS_free d V,bnd];simp only[Bool.not_false,cond_true];rw[gI];simp[QT,e]
    |cons y r=>
      obtain⟨t,rfl,i,d⟩:=splitC_cons hp;have f:(x++10::t).length=x.length+1+t.length:=by simp;omega
      rw[dT zq3,cond_true,cutS_hit d V,bnd];simp only[Bool.not_true,cond_false];have c:Su x=ng x:=by unfold Su;rw[if_neg V]
      rw[parse_eq,bnd,c,lnP_cons zq3];by_cases g:(ng x).2=0
      · rw[dF V,cond_false,if_neg V];by_cases h:(l.length:Int)=b
        · rw[dT h,cond_true,gI,if_pos V]
        · rw[dF h,cond_false,if_neg V];simp only[List.length_cons]at hN j;rw[kM ⟨by simp;omega,by simp;omega⟩,ih t (l++[(ng x).1]) N i V (by simp;omega) (by simp;omega) (by simp;omega)];congr 2;omega
      · rw[dT g,cond_true,gI,if_pos g]
theorem YF(N:Nat)(a:Str)(b:Int)(hN:60002<=N)(d:a.length<=60000)(c:0<=b):Dx N a b=some (ln b a):=by
 unfold Dx ln;have e:=K4 10 a;rw[lines_loop a b d (jC 10 a) a [] N rfl (Nat.le_refl _) V (by simp;omega) (by simpa using c)];congr 2;omega
theorem eqByte(a b:Str):uC a b=some (decide (a=b)):=by
  unfold uC;by_cases h:a.length=b.length
  · rw[dF V];simp only[cond_false,Int.toNat_natCast];rw[SY (fun x y=>decide (x=y)) a b h rfl (fun i x y f c d=>by
      unfold ze;rw[kC,kC,c,d];by_cases e:x=y
      · subst e;simp
      · have:¬((x.toNat:Int)=(y.toNat:Int)):=fun h=>e<|UInt8.toNat_inj.1 V;simp[e,this]),IB (fun _ _=>rfl)]
  · rw[dT V];have:a≠b:=fun e=>h (by rw[e]);rw[dF this];rfl
theorem diskSame(a b:gH):KL a b=some (decide (a=b)):=by
 unfold KL;rw[eqByte,eqByte];obtain⟨h,c⟩:=a;obtain⟨d,g⟩:=b;simp only[gH.mk.injEq,bnd];by_cases e:h=d<;>by_cases f:c=g<;>simp[e,f]
theorem bcat5:∀(l:List Str) (a:Str),a.length+(l.map List.length).sum<=1000000->each sK sM l a=some (a++l.flatten)
 |[],a,_=>by simp[qW,sM]
 |x::l,a,h=>by
  simp only[List.map_cons,List.sum_cons]at h;rw[iH,sK,kM ⟨by omega,by omega⟩,bcat5 l (a++x) (by rw[List.length_append];omega)];simp
theorem bcat7(a:List Str):∀(l:List Str) (n:Nat),n+(l.map List.length).sum<=1000000->each sN (ow a) l (n:Int)=ow a ((n+(l.map List.length).sum:Nat):Int)
 |[],n,_=>by simp[qW]
 |x::l,n,h=>by
  simp only[List.map_cons,List.sum_cons]at h⊢;rw[iH,sN,gI,dF V,cond_false,show((n:Int)+(x.length:Int))=((n+x.length:Nat):Int) by omega,bcat7 a l (n+x.length) V,Nat.add_assoc]
theorem bcat(a b:Str)(h:a.length+b.length<=1000000):rR [a,b]=some (a++b):=by
 unfold rR;have:=bcat7 [a,b] [a,b] 0 (by simp;omega);rw[show((0:Nat):Int)=0 from rfl]at this;rw[this];unfold ow;rw[show O0 1 ((0+([a,b].map List.length).sum:Nat):Int)=some ([]:Str) by unfold O0;rw[kM ⟨by omega,by simp;omega⟩],bnd,bcat5 [a,b] [] (by simp;omega)];simp
def zD:gH:=⟨[],[]⟩
def jr(d:gH):Int:=if 60000<d.safe.length\/60000<d.safe.length+d.wait.length then 2 else(ln 120 d.safe).2.2
theorem KP(N:Nat)(hN:60002<=N)(d:gH)(b:d.wait.length<=9223372036854775807):uJ N d=some (jr d):=by
  unfold uJ jr;by_cases h:60000<d.safe.length
  · rw[dT V,cond_true,if_pos (.inl h)];rfl
  · rw[dF V,cond_false,gI];by_cases a:60000<d.safe.length+d.wait.length
    · rw[dT V,if_pos (.inr a)];rfl
    · rw[dF V,if_neg V];unfold Ej;rw[cond_false,YF N d.safe 120 hN V V,bnd]
theorem vS{d:gH}(h:jr d=0):d.safe.length+d.wait.length<=60000/\(ln 120 d.safe).2.2=0:=by
  unfold jr at h;split at h
  · cases h
  · exact⟨by omega,h⟩
def putT(d:gH)(r:Rec):gH×Int:=
 if(wP r).2≠0 then(zD,(wP r).2)else if 60000<d.safe.length+d.wait.length+(wP r).1.length+1 then(zD,2)else(⟨d.safe,d.wait++(wP r).1++[10]⟩,0)
def vT(d:gH)(r:Rec):gH×Int:=if jr d≠0 then(zD,jr d)else putT d r
theorem text_len{r:Rec}(w:OT r):(wP r).1.length<=27390:=by
  unfold wP;split
  · rename_i h;have g:=goodR r (by rw[<-rec_eq];exact h);have b:=Td 32 21 ((nl r).map Lib.itoa) (by intro x c;obtain⟨y,a,rfl⟩:=List.mem_map.1 c;exact itoa_len (nl_ok g w y a));have d:=YB g;rw[List.length_map]at b;show(vo 32 ((nl r).map Lib.itoa)).length<=_;omega
  · simp
theorem put_eq(N:Nat)(hN:60002<=N)(d:gH)(r:Rec)(c:d.wait.length<=9223372036854775807)(w:OT r):Ho N d r=some (vT d r):=by
  unfold Ho vT putT;rw[KP N hN d c,bnd];by_cases h:jr d=0
  · obtain⟨f,_⟩:=vS h;have e:=text_len w;rw[dF V,cond_false,if_neg V,print_eq r (fun _=>w),bnd];by_cases b:(wP r).2=0
    · rw[dF V,cond_false,if_neg V,gI,gI,gI];by_cases a:60000<d.safe.length+d.wait.length+(wP r).1.length+1
      · rw[dT V,cond_true,if_pos a];rfl
      · rw[dF V,cond_false,if_neg a,p9 V V,bnd,p9 V V,bnd,kM ⟨by omega,by omega⟩,kM ⟨by simp;omega,by simp;omega⟩]
    · rw[dT b,cond_true,if_pos b];rfl
  · rw[dT h,cond_true,if_pos h];rfl
def syncT(d:gH):gH×Int:=if jr ⟨d.safe++d.wait,[]⟩≠0 then(zD,jr ⟨d.safe++d.wait,[]⟩)else(⟨d.safe++d.wait,[]⟩,0)
def FP(d:gH):gH×Int:=if jr d≠0 then(zD,jr d)else syncT d
theorem sync_eq(N:Nat)(hN:60002<=N)(d:gH)(b:d.wait.length<=9223372036854775807):Kw N d=some (FP d):=by
  unfold Kw FP syncT;rw[KP N hN d b,bnd];by_cases h:jr d=0
  · obtain⟨c,_⟩:=vS h;rw[dF V,cond_false,if_neg V,bcat _ _ V,bnd,KP N hN _ zq3,bnd];by_cases a:jr ⟨d.safe++d.wait,[]⟩=0
    · rw[dF V,cond_false,if_neg V]
    · rw[dT a,cond_true,if_pos a];rfl
  · rw[dT h,cond_true,if_pos h];rfl
def JF(d:gH)(n:Int):gH×Int:=if jr d≠0 then(zD,jr d)else if n<0\/(d.wait.length:Int)<n then(zD,3)else(⟨d.safe,d.wait.take n.toNat⟩,0)
theorem crash_eq(N:Nat)(hN:60002<=N)(d:gH)(n:Int)(b:d.wait.length<=9223372036854775807):Ia N d n=some (JF d n):=by
  unfold Ia JF;rw[KP N hN d b,bnd];by_cases h:jr d=0
  · obtain⟨c,_⟩:=vS h;rw[dF V,cond_false,if_neg V];by_cases a:n<0\/(d.wait.length:Int)<n
    · rw[show(decide (n<0)||decide ((d.wait.length:Int)<n))=true by simpa using a,cond_true,if_pos a];rfl
    · rw[show(decide (n<0)||decide ((d.wait.length:Int)<n))=false by simp;omega,cond_false,if_neg a];obtain⟨m,rfl⟩:=Int.eq_ofNat_of_zero_le (show 0<=n by omega);rw[show(0:Int)=((0:Nat):Int)from rfl,Wh V V,bnd,p9 V V,bnd,p9 (by simp;omega) (by simp;omega),bnd,List.drop_zero,Int.toNat_natCast]
  · rw[dT h,cond_true,if_pos h];rfl
def QP(d:gH):gH×List Rec:=
 (⟨d.safe++d.wait.take (ln (120-((ln 120 d.safe).1.length:Int)) d.wait).2.1.toNat,[]⟩,(ln 120 d.safe).1++(ln (120-((ln 120 d.safe).1.length:Int)) d.wait).1)
def YG(d:gH):gH×List Rec×Int:=if jr d≠0 then(zD,[],jr d)else((QP d).1,(QP d).2,0)
theorem YH(most:Int)(s:Str):0<=(ln most s).2.1/\(ln most s).2.1<=s.length/\(ln most s).1.length<=s.length+1/\(0<=most->((ln most s).1.length:Int)<=most):=by
 have h:=lnP_len most (jC 10 s) [] 0<|Int.le_refl 0;have a:=K4 10 s;rw[Be]at h;unfold ln;simp only[List.length_nil]at h;omega
theorem recover_eq(N:Nat)(hN:60002<=N)(d:gH)(a:d.wait.length<=9223372036854775807):qI N d=some (YG d):=by
  unfold qI YG QP;rw[KP N hN d a,bnd];by_cases h:jr d=0
  · obtain⟨b,_⟩:=vS h;have k1:=YH 120 d.safe;rw[dF V,cond_false,if_neg V,YF N d.safe 120 hN V V,bnd,gI,YF N d.wait _ hN V V,bnd];have k2:=YH (120-((ln 120 d.safe).1.length:Int)) d.wait;generalize ln (120-((ln 120 d.safe).1.length:Int)) d.wait=y at*;obtain⟨c,f,e⟩:=y;simp only at k2⊢;obtain⟨m,rfl⟩:=Int.eq_ofNat_of_zero_le k2.1;rw[show(0:Int)=((0:Nat):Int)from rfl,Wh V V,bnd,List.drop_zero,bcat _ _ (by simp;omega),bnd,kM ⟨by omega,by omega⟩,Int.toNat_natCast]
  · rw[dT h,cond_true,if_pos h];rfl
def zh(r:Rec):Str:=vo 32 ((nl r).map Lib.itoa)
def Fe(l:List Rec):Prop:=∀r∈l,dU r=0/\OT r
def txt:List Rec->Str
 |[]=>[]
 |r::l=>zh r++10::txt l
theorem L8:∀(a b:List Rec),txt (a++b)=txt a++txt b
 |[],b=>rfl
 |r::a,b=>by simp[txt,L8 a b]
theorem mem_joinC(c:UInt8):∀(l:List Str) (x:UInt8),x∈vo c l->x=c\/∃w∈l,x∈w
  |[],x,h=>by simp[vo,Lib.join_nil]at h
  |[y],x,h=>by rw[Bd]at h;exact .inr ⟨y,by simp,h⟩
  |y::z::l,x,h=>by
    rw[yn]at h;rcases List.mem_append.1 h with h|h
    · exact .inr ⟨y,by simp,h⟩
    · rcases List.mem_cons.1 h with h|h
      · exact .inl h
      · rcases mem_joinC c (z::l) x h with h|⟨w,hw,h⟩
        · exact .inl h
        · exact .inr ⟨w,List.mem_cons_of_mem _ hw,h⟩
theorem line_free(r:Rec):(10:UInt8)∉zh r:=by
  intro h;rcases mem_joinC 32 _ _ h with h|⟨w,hw,h⟩
  · exact absurd h zq1
  · obtain⟨n,_,rfl⟩:=List.mem_map.1 hw;exact Zu zq1 h
theorem Vb:∀(l:List Rec) (t:Str),jC 10 (txt l++t)=l.map zh++jC 10 t
 |[],t=>rfl
 |r::l,t=>by
  rw[txt,List.append_assoc,List.cons_append,AJ (line_free r),Vb l t];rfl
theorem lnP_txt(most:Int):∀(rs:List Rec) (q:List Str) (l:List Rec) (n:Int),Fe rs->q≠[]->((l.length+rs.length:Nat):Int)<=most->QT most (rs.map zh++q) l n=QT most q (l++rs) (n+((txt rs).length:Int))
 |[],q,l,n,_,_,_=>by simp[txt]
 |r::rs,q,l,n,h,hq,hl=>by
  obtain⟨a,b⟩:=h r zq3;simp only[List.length_cons]at hl;have c:ng (zh r)=(r,0):=YE a b;rw[List.map_cons,List.cons_append,lnP_cons (by simp[hq]),c,if_neg zq3,if_neg V,lnP_txt most rs q (l++[r]) _ (fun x d=>h x (List.mem_cons_of_mem _ d)) hq (by simp;omega)];simp only[txt,List.length_append,List.length_cons,List.append_assoc,List.cons_append,List.nil_append];congr 1;omega
theorem ln_txt{most:Int}{rs:List Rec}(t:Str)(h:Fe rs)(a:(rs.length:Int)<=most):ln most (txt rs++t)=QT most (jC 10 t) rs ((txt rs).length:Int):=by
 unfold ln;rw[Vb,lnP_txt most rs _ [] 0 h (Gn 10 t) (by simpa using a)];simp
theorem ln_all{most:Int}{rs:List Rec}(h:Fe rs)(a:(rs.length:Int)<=most):ln most (txt rs)=(rs,((txt rs).length:Int),0):=by
 have:=ln_txt (most:=most) [] h a;rw[List.append_nil]at this;rw[this];simp[jC,QT]
theorem ln_torn{most:Int}{rs:List Rec}{t:Str}(h:Fe rs)(a:(rs.length:Int)<=most)(b:(10:UInt8)∉t):(ln most (txt rs++t)).1=rs/\(ln most (txt rs++t)).2.1=((txt rs).length:Int):=by
 rw[ln_txt t h a,IE b];unfold QT;split<;>simp
theorem Gy{a:List Rec}{w:Str}(h:Fe a)(b:a.length<=120)(c:(txt a).length+w.length<=60000):jr ⟨txt a,w⟩=0:=by
 unfold jr;show(if 60000<(txt a).length\/60000<(txt a).length+w.length then(2:Int)else(ln 120<|txt a).2.2)=0;rw[if_neg V,ln_all h V]
theorem put_txt{a b:List Rec}{r:Rec}(g:Fe a)(i:a.length<=120)(f:(txt a).length+(txt b).length<=60000)(w:OT r):
    (vT ⟨txt a,txt b⟩ r).2≠0\/(vT ⟨txt a,txt b⟩ r=(⟨txt a,txt (b++[r])⟩,0)/\dU r=0/\(txt a).length+(txt (b++[r])).length<=60000):=by
  unfold vT putT;rw[if_neg (by rw[Gy g i f];simp)];by_cases h:dU r=0
  · have e:wP r=(zh r,0):=text_ok h;rw[e];simp only[ne_eq,not_true_eq_false,if_false];by_cases c:60000<(txt a).length+(txt b).length+(zh r).length+1
    · rw[if_pos c];left;simp
    · rw[if_neg c];right;have d:txt (b++[r])=txt b++zh r++[10]:=by rw[L8];simp[txt]
      refine⟨by rw[d],h,by rw[d];simp;omega⟩
  · have e:wP r=([],dU r):=by unfold wP;rw[if_neg h]
    rw[e,if_pos h];exact .inl h
theorem sync_txt{a b:List Rec}(c:Fe a)(f:Fe b)(h:a.length+b.length<=120)(d:(txt a).length+(txt b).length<=60000):FP ⟨txt a,txt b⟩=(⟨txt (a++b),[]⟩,0):=by
 have e:Fe (a++b):=fun r g=>(List.mem_append.1 g).elim (c r)<|f r;unfold FP syncT;rw[if_neg (by rw[Gy c V d];simp)];show(if jr ⟨txt a++txt b,[]⟩≠0 then _ else _)=_;rw[<-L8,if_neg (by rw[Gy e (by simpa using h) (by rw[L8];simp;omega)];simp)]
theorem take_txt:∀(b:List Rec) (m:Nat),∃k t,(txt b).take m=txt (b.take k)++t/\(10:UInt8)∉t
  |[],m=>⟨0,[],by simp[txt],by simp⟩
  |r::b,m=>by
    by_cases h:m<=(zh r).length
    · refine⟨0,(zh r).take m,?_,fun d=>line_free r<|List.mem_of_mem_take d⟩;simp only[List.take_zero,txt,List.nil_append];rw[List.take_append_of_le_length h]
    · obtain⟨k,t,a,c⟩:=take_txt b<|m-(zh r).length-1;refine⟨k+1,t,?_,c⟩;rw[List.take_succ_cons,txt,txt,List.take_append,List.take_of_length_le V,List.append_assoc,List.cons_append,<-a];congr 1;rw[show m-(zh r).length=(m-(zh r).length-1)+1 by omega,List.take_succ_cons];simp
theorem KQ:Fe []:=fun r h=>by cases h
theorem coSame(a b:List Co):Dz a b=some (decide (a=b)):=by
  unfold Dz;by_cases h:a.length=b.length
  · rw[dF V];simp only[cond_false];rw[K3 (fun x y=>decide (x=y)) a b h rfl (fun i x y j c=>by
      unfold G6 Cx;rw[kC,c];simp only[bnd,eqInt];have e:(((decide (x.lI=y.lI)&&decide (x.aM=y.aM))&&decide (x.offered=y.offered))&&decide (x.image=y.image))=decide (x=y):=by
        cases x;cases y;rw[Bool.eq_iff_iff];simp;exact⟨fun⟨⟨⟨f,c⟩,d⟩,g⟩=>⟨f,c,g,d⟩,fun⟨f,c,g,d⟩=>⟨⟨⟨f,c⟩,d⟩,g⟩⟩
      rw[<-e];cases ((decide (x.lI=y.lI)&&decide (x.aM=y.aM))&&decide (x.offered=y.offered))<;>cases decide (x.image=y.image)<;>rfl),IB (fun _ _=>rfl)]
  · rw[dT V];have:a≠b:=fun e=>h (by rw[e]);rw[dF this];rfl
def coOk(x:Co):Prop:=0<=x.lI/\x.lI<=2/\1<=x.aM/\x.aM<=100/\ -1<=x.offered/\x.offered<=2/\1<=x.image.length/\x.image.length<=1200
def rg(x:Co):Bool:=(((((decide ((x.lI:Int)<0)||decide ((3:Int)<=x.lI))||decide ((x.aM:Int)<1))||decide ((100:Int)<x.aM))||decide ((x.offered:Int)< -1))||decide ((3:Int)<=x.offered))
def mn(x:Co):Bool:=(decide (((x.image.length:Int):Int)=0)||decide ((1200:Int)<(x.image.length:Int)))
theorem rg_eq(x:Co):(((!(bu x.lI 0 2))||(!(bu x.aM 1 100)))||(!(bu x.offered (-1) 2)))=rg x:=by
 unfold bu rg;rw[Bool.eq_iff_iff];simp;omega
theorem mn_eq(x:Co):(!(bu (x.image.length:Int) 1 1200))=mn x:=by
 have hn:0<=(x.image.length:Int):=by omega
 unfold bu mn;generalize (x.image.length:Int)=n at hn⊢;rw[Bool.eq_iff_iff];simp;omega
theorem coOk_iff(x:Co):coOk x↔rg x=false/\mn x=false:=by
 have hn:0<=(x.image.length:Int):=by omega
 unfold coOk rg mn;rw[show(1<=x.image.length)=(1<=(x.image.length:Int)) by simp;omega,show(x.image.length<=1200)=((x.image.length:Int)<=1200) by simp;omega];generalize (x.image.length:Int)=n at hn⊢;simp;omega
theorem chkEq(a:List Co):IZ a=some (gQ a):=by
  unfold IZ gQ;by_cases h:(3:Int)<(a.length:Int)
  · rw[dT h];rfl
  · rw[dF h];simp only[cond_false];have d:∀(k:List Co) (i:Nat) (b:Int),(∀j,k[j]? =a[i+j]?)->(i=0->b= -1)->(∀j,i=j+1->∃y,a[j]? =some y/\y.lI=b)->i<=a.length->gU (xk a) Aw (i:Int) k ()=some (each jS kU k b):=by
      intro k;induction k with
      |nil=>intro i b _ _ _ _;rfl
      |cons x k ih=>
        intro i b l q p r;rw[yf,iH];have f:a[i]? =some x:=by have:=l 0;simpa using this.symm
        have m:i<a.length:=by
          rcases Nat.lt_or_ge i a.length with h|h
          · exact h
          · rw[List.getElem?_eq_none h]at f;cases f
        have c:=ih (i+1) x.lI (fun j=>by have:=l (j+1);simpa[Nat.add_assoc,Nat.add_comm 1 j]using this) V (fun j n=>⟨x,by rw[show j=i by omega];exact f,Z⟩) V;rw[show((i+1:Nat):Int)=(i:Int)+1 from rfl]at c;generalize gU (xk a) Aw ((i:Int)+1) k=nx at c⊢;generalize each jS kU k=nx2 at c⊢;unfold xk jS;rw[rg_eq,mn_eq,<-rg,<-mn];cases hr:rg x with
        |true=>rfl
        |false=>
        cases hm:mn x with
        |true=>rfl
        |false=>
        have e:=(coOk_iff x).2 ⟨hr,hm⟩;simp only[cond_false];unfold Av;cases i with
        |zero=>
          rw[q rfl,dF (show¬x.lI<= -1 by have:=e.1;omega)];simpa using c
        |succ j=>
          obtain⟨y,o,g⟩:=p j Z;rw[dT (show(0:Int)<((j+1:Nat):Int) by omega),show((j+1:Nat):Int)-1=(j:Int) by omega,gI,kC,o];simp only[cond_true,bnd,g];cases decide (x.lI<=b)with
          |true=>rfl
          |false=>exact c
    exact d a 0 (-1) (fun j=>by simp) (fun _=>rfl) (fun j n=>by omega) V
abbrev Up(l:List Co):Prop:=l.Pairwise (fun x y=>x.lI<y.lI)
theorem each_ok:∀(l:List Co) (a:Int),each jS kU l a=0↔(∀x∈l,coOk x)/\Up l/\∀x∈l,a<x.lI
  |[],a=>by simp[qW,kU]
  |x::r,a=>by
    rw[iH];have g:=each_ok r x.lI;generalize each jS kU r=nx at g⊢;unfold jS;rw[rg_eq,mn_eq];have c:=coOk_iff x;cases hr:rg x with
    |true=>
      simp only[cond_true];constructor
      · intro h;exact absurd h zq1
      · intro h;have:=(c.1<|h.1 x List.mem_cons_self).1;rw[hr]at this;cases this
    |false=>
    cases hm:mn x with
    |true=>
      simp only[cond_true,cond_false];constructor
      · intro h;exact absurd h zq1
      · intro h;have:=(c.1<|h.1 x List.mem_cons_self).2;rw[hm]at this;cases this
    |false=>
    have ho:=c.2 ⟨hr,hm⟩;simp only[cond_false];by_cases i:x.lI<=a
    · rw[dT i];simp only[cond_true];constructor
      · intro h;exact absurd h zq1
      · intro h;have:=h.2.2 x List.mem_cons_self;omega
    · rw[dF i];simp only[cond_false];rw[g];show _↔_/\List.Pairwise _ (x::r)/\_;rw[List.pairwise_cons];constructor
      · rintro⟨e,f,d⟩;refine⟨?_,⟨d,f⟩,?_⟩
        · intro y b;rcases List.mem_cons.1 b with rfl|b
          · exact ho
          · exact e y b
        · intro y b;rcases List.mem_cons.1 b with rfl|b
          · omega
          · have:=d y b;omega
      · rintro⟨e,⟨f,d⟩,j⟩;exact⟨fun y b=>e y<|List.mem_cons_of_mem _ b,d,f⟩
structure Good(l:List Co):Prop where
 len:l.length<=3
 ok:∀x∈l,coOk x
 up:Up l
theorem good_iff(l:List Co):gQ l=0↔Good l:=by
  unfold gQ;by_cases h:(3:Int)<(l.length:Int)
  · rw[dT h];simp only[cond_true];exact⟨fun h=>absurd h zq1,fun g=>by have:=g.len;omega⟩
  · rw[dF h];simp only[cond_false];rw[each_ok];exact⟨fun⟨a,b,_⟩=>⟨by omega,a,b⟩,fun g=>⟨g.ok,g.up,fun x c=>by have:=(g.ok x c).1;omega⟩⟩
def Gl(c:Co):List Co->List Co
 |[]=>[c]
 |x::r=>if x.lI<c.lI then x::Gl c r else c::x::r
def Mw(b:Rec)(l:List Co):List Co:=l.filter fun x=>decide (x.lI≠b.co)
def QQ(b:Rec)(l:List Co):Option Co:=l.find? fun x=>decide (x.lI=b.co)
def kV(a:List Co)(b:Rec):List Co×Int:=
 if gQ a≠0 then([],gQ a)else if gP b≠0 then([],gP b)else
 match QQ b a with
 |none=>if b.kind=1\/b.kind=4 then(if(decide (b.aM=1) !=decide (b.kind=1))=true then([],7)else(Gl ⟨b.co,b.aM,b.image,-1⟩ (Mw b a),0))else([],5)
 |some c=>if b.kind=1\/b.kind=4 then([],6)else if(decide (b.aM≠c.aM)||(decide (c.offered≠ -1) !=decide (b.kind=5)))=true then([],7)else
  if b.kind=5 then(Mw b a,0)else if b.kind=2 then(Gl ⟨c.lI,c.aM,b.image,c.offered⟩ (Mw b a),0)else if c.aM=100 then([],2)else(Gl ⟨c.lI,c.aM,c.image,b.place⟩ (Mw b a),0)
theorem oth_up(b:Rec){l:List Co}(h:Up l):Up (Mw b l):=h.filter _
theorem V3{b:Rec}{l:List Co}{x:Co}(h:x∈Mw b l):x∈l/\x.lI≠b.co:=by
 unfold Mw at h;rw[List.mem_filter]at h;exact⟨h.1,by simpa using h.2⟩
theorem coCopy{a:List Co}(h:a.length<=3)(e:∀x∈a,x.image.length<=1200):GY a=some a:=by
 unfold GY;rw[p9 V V];simp only[bnd,Int.toNat_natCast];have c:∀(m i:Nat),i+m=a.length->upto uK Af (i:Int) m a=some a:=by
  intro m;induction m with
  |zero=>intro i _;rfl
  |succ m ih=>
   intro i f;have d:i<a.length:=by omega
   show uK (i:Int) a (upto uK Af ((i:Int)+1) m)=_;have b:=ih (i+1) V;rw[show((i+1:Nat):Int)=(i:Int)+1 from rfl]at b;generalize upto uK Af ((i:Int)+1) m=nx at b⊢;unfold uK;rw[wy d];have:=e a[i]<|List.getElem_mem d;simp only[bnd];rw[p9 V V];simp only[bnd,Int.toNat_natCast];rw[show({a[i]with image:=a[i].image}:Co)=a[i]from rfl,List.set_getElem_self];exact b
 simpa using c a.length 0 V
theorem findEq(a:List Co)(k:Int):qi a k=some (match a.findIdx? (fun x=>decide (x.lI=k))with|some n=>(n:Int)|none=> -1):=by
 unfold qi;simp only[Int.toNat_natCast];rw[S9 (fun x=>decide (x.lI=k)) (fun i=>some i) a (fun i x c b=>by
  unfold Jn;rw[kC,b];rfl)]
 cases a.findIdx? (fun x=>decide (x.lI=k))<;>rfl
theorem Sv(b:Rec):∀(a:List Co),(QQ b a=none/\a.findIdx? (fun x=>decide (x.lI=b.co))=none/\Mw b a=a)\/
    ∃n x,QQ b a=some x/\a.findIdx? (fun x=>decide (x.lI=b.co))=some n/\a[n]? =some x/\x.lI=b.co
  |[]=>.inl ⟨rfl,rfl,rfl⟩
  |x::r=>by
    unfold QQ Mw;rw[List.find?_cons,List.findIdx?_cons,List.filter_cons];by_cases h:x.lI=b.co
    · exact .inr ⟨0,x,by simp[h],by simp[h],Z,h⟩
    · simp only[h,decide_false,Bool.false_eq_true,if_false,ne_eq,not_false_eq_true,decide_true,if_true];rcases Sv b r with⟨h1,h2,h3⟩|⟨n,y,h1,h2,h3,h4⟩
      · exact .inl ⟨h1,by rw[h2];rfl,by unfold Mw at h3;rw[h3]⟩
      · exact .inr ⟨n+1,y,h1,by rw[h2];rfl,by simpa using h3,h4⟩
theorem V4(b:Rec):∀(a:List Co) (n:Nat) (x y:Co),Up a->a[n]? =some x->x.lI=b.co->y.lI=b.co->a.set n y=Gl y (Mw b a)
 |[],n,x,y,_,h,_,_=>by simp at h
 |z::r,0,x,y,hu,h,hx,hy=>by
  simp only[List.getElem?_cons_zero,Option.some.injEq]at h;subst h;rw[Up,List.pairwise_cons]at hu;have d:Mw b (z::r)=r:=by
   unfold Mw;rw[List.filter_cons,if_neg (by simp[hx]),List.filter_eq_self];intro u c;have:=hu.1 u c;simp;omega
  rw[d,List.set_cons_zero];cases r with
  |nil=>rfl
  |cons u r=>
   have:=hu.1 u List.mem_cons_self;simp only[Gl];rw[if_neg V]
 |z::r,n+1,x,y,hu,h,hx,hy=>by
  simp only[List.getElem?_cons_succ]at h;rw[Up,List.pairwise_cons]at hu;have e:=hu.1 x<|List.mem_of_getElem? h;have d:Mw b (z::r)=z::Mw b r:=by unfold Mw;rw[List.filter_cons,if_pos (by simp;omega)]
  rw[d,List.set_cons_succ,V4 b r n x y hu.2 h hx hy];simp only[Gl];rw[if_pos V]
theorem del_oth(b:Rec):∀(a:List Co) (n:Nat) (x:Co),Up a->a[n]? =some x->x.lI=b.co->a.take n++a.drop (n+1)=Mw b a
 |[],n,x,_,h,_=>by simp at h
 |z::r,0,x,hu,h,hx=>by
  simp only[List.getElem?_cons_zero,Option.some.injEq]at h;subst h;rw[Up,List.pairwise_cons]at hu;unfold Mw;rw[List.filter_cons,if_neg (by simp[hx])];have:r.filter (fun x=>decide<|x.lI≠b.co)=r:=by
   rw[List.filter_eq_self];intro u c;have:=hu.1 u c;simp;omega
  rw[this];simp
 |z::r,n+1,x,hu,h,hx=>by
  simp only[List.getElem?_cons_succ]at h;rw[Up,List.pairwise_cons]at hu;have e:=hu.1 x<|List.mem_of_getElem? h;have d:Mw b (z::r)=z::Mw b r:=by unfold Mw;rw[List.filter_cons,if_pos (by simp;omega)]
  rw[d,<-del_oth b r n x hu.2 h hx];simp
theorem ins_loop(b:Rec)(a:List Co)(f:a.length<=3)(g:b.image.length<=1200):∀(k i N:Nat),i+k=a.length->k<N->again (kz a b) N (i:Int)=some (a.take i++Gl ⟨b.co,b.aM,b.image,-1⟩ (a.drop i),0)
  |0,i,N+1,h,_=>by
    show kz a b (i:Int) (again (kz a b) N)=_;generalize again (kz a b) N=nx;unfold kz yP;rw[dF V];simp only[cond_false];rw[p9 V V];simp only[bnd];rw[kM (Room.mk (by simp;omega) (by simp;omega)),ins1,if_pos ⟨by omega,by omega⟩];rw[List.drop_eq_nil_of_le (show a.length<=i by omega)];simp[Gl,show a.drop i=[]from List.drop_eq_nil_of_le V]
  |k+1,i,N+1,h,hN=>by
    have c:i<a.length:=by omega
    have e:=ins_loop b a f g k (i+1) N V V;rw[show((i+1:Nat):Int)=(i:Int)+1 from rfl]at e;show kz a b (i:Int) (again (kz a b) N)=_;generalize again (kz a b) N=nx at e⊢;unfold kz yP;rw[dT V,wy c];simp only[cond_true,bnd];by_cases d:a[i].lI<b.co
    · rw[dT d];simp only[cond_true];rw[gI,e,List.drop_eq_getElem_cons c];simp only[Gl];rw[if_pos d,List.take_succ_eq_append_getElem c,List.append_assoc,List.singleton_append]
    · rw[dF d];simp only[cond_false];rw[p9 V V];simp only[bnd];rw[kM (Room.mk (by simp;omega) (by simp;omega)),ins1,if_pos ⟨by omega,by omega⟩];simp only[bnd,Int.toNat_natCast];rw[List.drop_eq_getElem_cons c];simp only[Gl];rw[if_neg d,List.append_assoc,List.singleton_append]
theorem next_eq(N:Nat)(hN:5<N)(a:List Co)(b:Rec):Dy N a b=some (kV a b):=by
  unfold Dy kV;rw[chkEq];simp only[bnd];by_cases f:gQ a=0
  · rw[rec_eq];by_cases j:gP b=0
    · have g:=(good_iff a).1 f;have gr:=goodR b j;have gl:=g.len;rw[f,j];simp only[ne_eq,not_true_eq_false,decide_false,cond_false,if_false];rw[coCopy g.len (fun x t=>(g.ok x t).2.2.2.2.2.2.2)];simp only[bnd];rw[findEq];simp only[bnd];have p:=gr.kind;have e:(decide ((b.kind:Int)=1)||decide ((b.kind:Int)=4))=decide (b.kind=1\/b.kind=4):=by simp
      rw[e];rcases Sv b a with⟨e1,e2,e3⟩|⟨n,c,e1,e2,e3,e4⟩
      · rw[e1,e2];simp only;by_cases d:b.kind=1\/b.kind=4
        · rw[dT d,if_pos d];simp only[cond_true];rw[show decide ((0:Int)<= -1)=false by decide];simp only[cond_false];have s:((decide ((b.kind:Int)=1)&&decide ((b.aM:Int)≠1))||(decide ((b.kind:Int)=4)&&decide ((b.aM:Int)=1)))=(decide (b.aM=1) !=decide (b.kind=1)):=by
            by_cases q:b.aM=1
            · rcases d with k|k<;>simp[q,k]
            · rcases d with k|k<;>simp[q,k]
          rw[s];cases (decide (b.aM=1) !=decide (b.kind=1))with
          |true=>rfl
          |false=>
            simp only[cond_false,Bool.false_eq_true,if_false];have:=ins_loop b a g.len gr.image a.length 0 N V V;simp only[Int.natCast_zero,List.take_zero,List.drop_zero,List.nil_append]at this;rw[this,e3]
        · rw[dF d,if_neg d];simp only[cond_false];rw[show decide ((-1:Int)<0)=true by decide];rfl
      · have hn:n<a.length:=by
          rcases Nat.lt_or_ge n a.length with h|h
          · exact h
          · rw[List.getElem?_eq_none h]at e3;cases e3
        have l:=g.ok c<|List.mem_of_getElem? e3;rw[e1,e2];simp only;by_cases d:b.kind=1\/b.kind=4
        · rw[dT d,if_pos d];simp only[cond_true];rw[dT (show(0:Int)<=(n:Int) by omega)];rfl
        · rw[dF d,if_neg d];simp only[cond_false];rw[dF (show¬(n:Int)<0 by omega),kC,e3];simp only[cond_false,bnd];have ho:decide ((0:Int)<=c.offered)=decide (c.offered≠ -1):=by
            rw[decide_eq_decide];have:=l.2.2.2.2.1;omega
          have r:(bif decide (c.aM≠b.aM)then rT b a (n:Int) c true else rT b a (n:Int) c (decide (b.kind=5) !=decide ((0:Int)<=c.offered)))=rT b a (n:Int) c (decide (b.aM≠c.aM)||(decide (c.offered≠ -1) !=decide (b.kind=5))):=by
            rw[ho];by_cases q:b.aM=c.aM
            · rw[q];simp only[ne_eq,not_true_eq_false,decide_false,cond_false,Bool.false_or];cases decide (b.kind=5)<;>cases decide (¬c.offered= -1)<;>rfl
            · rw[show decide (c.aM≠b.aM)=true from dT (fun h=>q h.symm),show decide (b.aM≠c.aM)=true from dT q];rfl
          refine r.trans ?_;unfold rT;cases (decide (b.aM≠c.aM)||(decide (c.offered≠ -1) !=decide (b.kind=5)))with
          |true=>rfl
          |false=>
            simp only[cond_false,Bool.false_eq_true,if_false];by_cases k2:b.kind=2
            · rw[dT k2,if_neg V,if_pos k2];simp only[cond_true];rw[p9 (by have:=gr.image;omega) (by have:=gr.image;omega)];simp only[bnd,Int.toNat_natCast];rw[V4 b a n c {c with image:=b.image} g.up e3 e4 e4]
            · rw[dF k2,if_neg k2];simp only[cond_false];by_cases m:b.kind=3
              · rw[dT m,if_neg V];simp only[cond_true];by_cases i:c.aM=100
                · rw[dT i,if_pos i];rfl
                · rw[dF i,if_neg i];simp only[cond_false,Int.toNat_natCast];rw[V4 b a n c {c with offered:=b.place} g.up e3 e4 e4]
              · have o:b.kind=5:=by omega
                rw[dF m,dT o,if_pos o];simp only[cond_false,cond_true];rw[gI,del_s1 hn];simp only[bnd];rw[del_oth b a n c g.up e3 e4]
    · rw[f];simp only[ne_eq,not_true_eq_false,decide_false,cond_false,if_false];rw[show decide (¬gP b=0)=true from dT j,if_pos j];rfl
  · rw[show decide (gQ a≠0)=true from dT f,if_pos f];rfl
def sH:List Co->List Rec->List Co×Int
 |s,[]=>(s,0)
 |s,r::l=>if(kV s r).2≠0 then([],(kV s r).2)else sH (kV s r).1 l
theorem rep_each(N:Nat)(hN:5<N):∀(l:List Rec) (s:List Co),each (Ay N) Az l s=some (sH s l)
  |[],s=>by simp[qW,Az,sH]
  |r::l,s=>by
    rw[iH,Ay,next_eq N hN,bnd,sH];by_cases h:(kV s r).2=0
    · rw[dF V,cond_false,if_neg V,rep_each N hN l]
    · rw[dT h,cond_true,if_pos h]
theorem replay_eq(N:Nat)(hN:5<N)(l:List Rec):Cw N l=some (if 120<l.length then([],2)else sH [] l):=by
  unfold Cw;by_cases h:120<l.length
  · rw[dT V,cond_true,if_pos h]
  · rw[dF V,cond_false,if_neg h,rep_each N hN]
theorem pRep_app:∀(a b:List Rec) (s:List Co),sH s (a++b)=if(sH s a).2≠0 then([],(sH s a).2)else sH (sH s a).1 b
  |[],b,s=>by simp[sH]
  |r::a,b,s=>by
    rw[List.cons_append,sH,sH];by_cases h:(kV s r).2=0
    · simp only[h,ne_eq,not_true_eq_false,if_false];exact pRep_app a b _
    · simp[h]
theorem NP{c y:Co}:∀{l:List Co},y∈Gl c l↔y=c\/y∈l
  |[]=>by simp[Gl]
  |x::r=>by
    unfold Gl;split
    · rw[List.mem_cons,NP,List.mem_cons];constructor
      · rintro(h|h|h)
        · exact .inr<|.inl h
        · exact .inl h
        · exact .inr<|.inr h
      · rintro(h|h|h)
        · exact .inr<|.inl h
        · exact .inl h
        · exact .inr<|.inr h
    · rw[List.mem_cons]
theorem Ff{c:Co}:∀{l:List Co},(Gl c l).length=l.length+1
  |[]=>rfl
  |x::r=>by
    unfold Gl;split
    · rw[List.length_cons,Ff,List.length_cons]
    · rfl
theorem insC_up{c:Co}:∀{l:List Co},Up l->(∀x∈l,x.lI≠c.lI)->Up (Gl c l)
  |[],_,_=>by simp[Gl,Up]
  |x::r,h,hn=>by
    rw[Up,List.pairwise_cons]at h;have b:=hn x List.mem_cons_self;unfold Gl;split
    · next hl=>
      show List.Pairwise _ _;rw[List.pairwise_cons];refine⟨fun y a=>?_,insC_up h.2 fun y a=>hn y<|List.mem_cons_of_mem _ a⟩;rcases NP.1 a with rfl|a
      · exact hl
      · exact h.1 y a
    · next hl=>
      show List.Pairwise _ _;rw[List.pairwise_cons,List.pairwise_cons];refine⟨fun y a=>?_,h.1,h.2⟩;rcases List.mem_cons.1 a with rfl|a
      · omega
      · have:=h.1 y a;omega
theorem find_of{l:List Co}(b:Up l){x:Co}(a:x∈l):∃n,l.findIdx? (fun y=>decide (y.lI=x.lI))=some n/\l[n]? =some x/\n<l.length:=by
  induction l with
  |nil=>cases a
  |cons z r ih=>
    rw[Up,List.pairwise_cons]at b;rw[List.findIdx?_cons];rcases List.mem_cons.1 a with rfl|a
    · exact⟨0,by simp,Z,by simp⟩
    · have:=b.1 x a;obtain⟨n,c,d,e⟩:=ih b.2 a;exact⟨n+1,by rw[if_neg (by simp;omega),c];rfl,by simpa using d,by simp;omega⟩
theorem next_ok(a:List Co)(b:Rec)(h:(kV a b).2=0):Good a/\Good (kV a b).1/\a.length<=(kV a b).1.length+1/\(kV a b).1.length<=a.length+1/\(∀x∈a,x.lI≠b.co->x∈(kV a b).1)/\(∀x∈a,x.lI=b.co->0<=x.offered->b.kind=5):=by
  unfold kV at h⊢;by_cases q:gQ a=0
  · by_cases t:gP b=0
    · have g:=(good_iff a).1 q;have gr:=goodR b t;have gl:=g.len;have I:=gr.co;rw[if_neg (by simpa using q),if_neg (by simpa using t)]at h⊢;have k:∀x∈a,x.lI≠b.co->x∈Mw b a:=fun x f hn=>by unfold Mw;rw[List.mem_filter];exact⟨f,by simpa using hn⟩
      have i:∀c:Co,coOk c->c.lI=b.co->(Mw b a).length<=2->Good (Gl c (Mw b a)):=fun c K M Q=>⟨by rw[Ff];omega,fun x f=>by
        rcases NP.1 f with rfl|f
        · exact K
        · exact g.ok x (V3 f).1,insC_up (oth_up b g.up) (fun x f=>by have:=(V3 f).2;omega)⟩
      rcases Sv b a with⟨e1,e2,e3⟩|⟨n,c,e1,e2,e3,e4⟩
      · rw[e1]at h⊢;simp only at h⊢;have hno:∀x∈a,x.lI≠b.co:=fun x f e=>by
          unfold QQ at e1;rw[List.find?_eq_none]at e1;exact e1 x f (by simpa using e)
        by_cases s:b.kind=1\/b.kind=4
        · rw[if_pos s]at h⊢;cases hq:(decide (b.aM=1) !=decide (b.kind=1))with
          |true=>rw[hq,if_pos Z]at h;exact absurd h zq1
          |false=>
            rw[hq]at h;simp only[Bool.false_eq_true,if_false]at h⊢;have A:a.length<=2:=by
              match a,g,hno with
              |[],_,_=>simp
              |[x],_,_=>simp
              |[x,y],_,_=>simp
              |[x,y,z],g,hno=>
                have L:=g.up;simp[Up]at L;have o1:=g.ok x zq3;have o2:=g.ok y zq3;have N:=g.ok z zq3;have S:=hno x zq3;have P:=hno y zq3;have O:=hno z zq3;unfold coOk at o1 o2 N;omega
              |x::y::z::u::r,g,_=>have:=g.len;simp at this
            have w:=gr.has V;refine⟨g,i _ ⟨I.1,I.2,gr.aM.1,gr.aM.2,by simp,by simp,w,gr.image⟩ Z (by rw[e3];exact A),?_,?_,fun x f hn=>NP.2 (.inr (k x f hn)),fun x f e=>absurd e (hno x f)⟩
            · rw[Ff,e3];omega
            · rw[Ff,e3];omega
        · rw[if_neg s]at h;exact absurd h zq1
      · rw[e1]at h⊢;simp only at h⊢;have hn:n<a.length:=by
          rcases Nat.lt_or_ge n a.length with h|h
          · exact h
          · rw[List.getElem?_eq_none h]at e3;cases e3
        have J:(Mw b a).length+1=a.length:=by
          rw[<-del_oth b a n c g.up e3 e4];simp;omega
        have d:=g.ok c<|List.mem_of_getElem? e3;have o:∀x∈a,x.lI=b.co->x=c:=by
          intro x f p;obtain⟨m,B,E,_⟩:=find_of g.up f;rw[p,e2]at B;cases B;rw[e3]at E;exact(osi E).symm
        by_cases s:b.kind=1\/b.kind=4
        · rw[if_pos s]at h;exact absurd h zq1
        · rw[if_neg s]at h⊢;cases hq:(decide (b.aM≠c.aM)||(decide (c.offered≠ -1) !=decide (b.kind=5)))with
          |true=>rw[hq,if_pos Z]at h;exact absurd h zq1
          |false=>
            rw[hq]at h;simp only[Bool.false_eq_true,if_false]at h⊢;have j:∀x∈a,x.lI=b.co->0<=x.offered->b.kind=5:=by
              intro x f p R;have:=o x f p;subst this;rw[Bool.or_eq_false_iff]at hq;have v:=hq.2;rw[show decide (x.offered≠ -1)=true from dT V]at v;cases h5:decide (b.kind=5)with
              |true=>exact Zz h5
              |false=>rw[h5]at v;cases v
            have l:∀(C:Co) x,x∈a->x.lI≠b.co->x∈Gl C (Mw b a):=fun C x f hn=>NP.2<|.inr<|k x f hn;by_cases G:b.kind=5
            · rw[if_pos G]at h⊢;exact⟨g,⟨by show(Mw b a).length<=3;omega,fun x f=>g.ok x (V3 f).1,oth_up b g.up⟩,by show a.length<=(Mw b a).length+1;omega,by show(Mw b a).length<=a.length+1;omega,k,j⟩
            · rw[if_neg G]at h⊢;by_cases k2:b.kind=2
              · rw[if_pos k2]at h⊢;have w:=gr.has V;refine⟨g,i _ ⟨d.1,d.2.1,d.2.2.1,d.2.2.2.1,d.2.2.2.2.1,d.2.2.2.2.2.1,w,gr.image⟩ e4 V,?_,?_,l _,j⟩
                · rw[Ff];omega
                · rw[Ff];omega
              · rw[if_neg k2]at h⊢;by_cases p:c.aM=100
                · rw[if_pos p]at h;exact absurd h zq1
                · rw[if_neg p]at h⊢;have hp:=gr.place;refine⟨g,i _ ⟨d.1,d.2.1,d.2.2.1,d.2.2.2.1,by show-1<=b.place;omega,hp.2,d.2.2.2.2.2.2.1,d.2.2.2.2.2.2.2⟩ e4 V,?_,?_,l _,j⟩
                  · rw[Ff];omega
                  · rw[Ff];omega
    · rw[if_neg (by simpa using q),if_pos t]at h;exact absurd h t
  · rw[if_pos q]at h;exact absurd h q
theorem mailEq(x y:fV):((((((decide (x.from_=y.from_)&&decide (x.iX=y.iX))&&decide (x.co=y.co))&&decide (x.aM=y.aM))&&(x.taken==y.taken)))&&decide (x.image=y.image))=decide (x=y):=by
 cases x;cases y;rw[Bool.eq_iff_iff];simp[and_assoc]
theorem wSame(a b:List fV):Sb a b=some (decide (a=b)):=by
  unfold Sb;by_cases h:a.length=b.length
  · rw[show decide (((a.length:Int):Int)≠(b.length:Int))=false by simp[h]];simp only[cond_false];rw[K3 (fun x y=>decide (x=y)) a b h rfl (fun i x y d c=>by
      unfold LW Gg;rw[kC,c,<-mailEq];simp only[bnd,eqInt];cases ((((decide (x.from_=y.from_)&&decide (x.iX=y.iX))&&decide (x.co=y.co))&&decide (x.aM=y.aM))&&(x.taken==y.taken))<;>cases decide (x.image=y.image)<;>rfl),IB (fun _ _=>rfl)]
  · rw[show decide (((a.length:Int):Int)≠(b.length:Int))=true by simp;omega];have:a≠b:=fun e=>h (by rw[e]);simp[this]
theorem Vd{a:List fV}(h:dL a=0):a.length<=40/\∀x∈a,x.image.length<=1200:=by
  unfold dL at h;by_cases c:(40:Int)<(a.length:Int)
  · rw[decide_eq_true c]at h;cases h
  · rw[decide_eq_false c]at h;refine⟨by omega,?_⟩;simp only[cond_false]at h;clear c;induction a with
    |nil=>intro x b;cases b
    |cons y r ih=>
      rw[iH]at h;unfold zq at h;generalize e:(((((((decide ((y.from_:Int)<0)||decide ((3:Int)<=y.from_))||decide ((y.iX:Int)<0))||decide ((3:Int)<=y.iX))||decide ((y.co:Int)<0))||decide ((3:Int)<=y.co))||decide ((y.aM:Int)<2))||decide ((100:Int)<y.aM))=A at h;cases A with
      |true=>cases h
      |false=>
        simp only[cond_false]at h;generalize d:((y.taken !=decide (((y.image.length:Int):Int)=0))||decide ((1200:Int)<(y.image.length:Int)))=B at h;cases B with
        |true=>cases h
        |false=>
          simp only[cond_false]at h;intro x b;rcases List.mem_cons.1 b with rfl|b
          · simp only[Bool.or_eq_false_iff,decide_eq_false_iff_not]at d;omega
          · exact ih h x b
theorem wCopy{a:List fV}(h:a.length<=40)(d:∀x∈a,x.image.length<=1200):CO a=some a:=by
 unfold CO;rw[p9 V V];simp only[bnd,Int.toNat_natCast];have b:∀(m i:Nat),i+m=a.length->upto Bu I5 (i:Int) m a=some a:=by
  intro m;induction m with
  |zero=>intro i _;rfl
  |succ m ih=>
   intro i e;have c:i<a.length:=by omega
   show Bu (i:Int) a (upto Bu I5 ((i:Int)+1) m)=_;unfold Bu;rw[wy c];have:=d a[i]<|List.getElem_mem c;simp only[bnd];rw[p9 V V];simp only[bnd,Int.toNat_natCast];rw[show({a[i]with image:=a[i].image}:fV)=a[i]from rfl,List.set_getElem_self];exact ih (i+1) V
 simpa using b a.length 0 V
theorem b_t{p:Prop} [Decidable p](h:p):decide p=true:=decide_eq_true h
theorem b_f{p:Prop} [Decidable p](h:¬p):decide p=false:=decide_eq_false h
theorem wSend(a:List fV)(b:fV):Nk a b=some (if dL a≠0 then([],dL a)else if dL [b]≠0 then([],dL [b])else(if a.length<40 then a++[b]else a,0)):=by
  unfold Nk;by_cases c:dL a≠0
  · rw[b_t c,if_pos c];rfl
  · rw[b_f c,if_neg c];by_cases d:dL [b]≠0
    · rw[b_t d,if_pos d];rfl
    · rw[b_f d,if_neg d];have c1:=Vd<|Decidable.not_not.1 c;have c2:=Vd<|Decidable.not_not.1 d;simp only[cond_false,wCopy c1.1 c1.2,wCopy c2.1 c2.2,bnd];by_cases e:(a.length:Int)<40
      · rw[b_t e,if_pos V];simp only[cond_true];exact kM (Room.mk (by simp;omega) (by simp;omega))
      · rw[b_f e,if_neg V];rfl
def Sw:fV:=⟨0,0,0,0,false,[]⟩
theorem wTake(a:List fV)(k:Int)(t:Bool):Hm a k t=some (if dL a≠0 then([],Sw,dL a)else if k<0\/(a.length:Int)<=k then([],Sw,5)else(if t then a else a.take k.toNat++a.drop (k.toNat+1),(a[k.toNat]?).getD Sw,0)):=by
  unfold Hm I7;by_cases b:dL a≠0
  · rw[b_t b,if_pos b];rfl
  · rw[b_f b,if_neg b];have c1:=Vd<|Decidable.not_not.1 b;by_cases c:k<0\/(a.length:Int)<=k
    · rw[show(decide (k<0)||decide ((a.length:Int)<=k))=true by simpa using c,if_pos c];rfl
    · rw[show(decide (k<0)||decide ((a.length:Int)<=k))=false by simpa using c,if_neg c];obtain⟨n,rfl⟩:=Int.eq_ofNat_of_zero_le (show 0<=k by omega);have hn:n<a.length:=by omega
      simp only[cond_false,wCopy c1.1 c1.2,bnd,Int.toNat_natCast];have g1:kg ((n:Int)+1):=kg.mk V V;rw[kM g1];have f:(n:Int)+1=((n+1:Nat):Int):=rfl;rw[f,Wh V V];have e:=one_at hn;rw[e];simp only[bnd];rw[wCopy zq3 (by intro x d;simp at d;subst d;exact c1.2 _ (List.getElem_mem hn))];simp only[bnd];rw[show idx [a[n]] 0=some a[n]from rfl];simp only[bnd,List.getElem?_eq_getElem hn,Option.getD_some];cases t with
      |true=>simp only[Bool.not_true,cond_false,if_true]
      |false=>
        simp only[Bool.not_false,cond_true];rw[kM (show kg (((n+1:Nat):Int))from kg.mk V V),del_s V V];simp only[bnd,Bool.false_eq_true,if_false]
end Dk
open Go Go.Proofs Go.LX
namespace Pw
open Dk
theorem lnP_inv(most:Int):∀(p:List Str) (l:List Rec) (n:Int),∃rs,(QT most p l n).1=l++rs/\Fe rs/\(QT most p l n).2.1=n+((txt rs).length:Int)/\∃t,vo 10 p=txt rs++t/\((QT most p l n).2.2=0->t=[])
  |[],l,n=>⟨[],by simp[QT],KQ,by simp[QT,txt],[],by simp[vo,Lib.join_nil,txt],fun _=>rfl⟩
  |[x],l,n=>by
    unfold QT;by_cases h:x=[]
    · rw[if_pos h];subst h;exact⟨[],by simp,KQ,by simp[txt],[],by rw[Bd];rfl,fun _=>rfl⟩
    · rw[if_neg h];exact⟨[],by simp,KQ,by simp[txt],x,by rw[Bd];rfl,fun h=>by simp at h⟩
  |x::y::r,l,n=>by
    unfold QT;by_cases b:(ng x).2=0
    · rw[if_neg V];by_cases d:most<=(l.length:Int)
      · rw[if_pos d];exact⟨[],by simp,KQ,by simp[txt],_,Z,fun h=>by simp at h⟩
      · rw[if_neg d];obtain⟨rs,f,g,i,t,j,e⟩:=lnP_inv most (y::r) (l++[(ng x).1])<|n+(x.length:Int)+1;obtain⟨k1,k2,c⟩:=read_ok (s:=x) (r:=(ng x).1) (by rw[<-b]);refine⟨(ng x).1::rs,by rw[f];simp,?_,?_,t,?_,e⟩
        · intro z a;rcases List.mem_cons.1 a with rfl|a
          · exact⟨k1,k2⟩
          · exact g z a
        · rw[i];have:(zh (ng x).1)=x:=c.symm;simp only[txt,List.length_append,List.length_cons,this];omega
        · rw[yn,j];have:(zh (ng x).1)=x:=c.symm;simp[txt,this]
    · rw[if_pos b];exact⟨[],by simp,KQ,by simp[txt],_,Z,fun h=>absurd h b⟩
theorem ln_inv(most:Int)(s:Str):Fe (ln most s).1/\(ln most s).2.1=((txt (ln most s).1).length:Int)/\∃t,s=txt (ln most s).1++t/\((ln most s).2.2=0->t=[]):=by
 obtain⟨rs,a,d,e,t,b,c⟩:=lnP_inv most (jC 10 s) [] 0;rw[List.nil_append]at a;rw[Be]at b;unfold ln;rw[a];exact⟨d,by rw[e];omega,t,b,c⟩
def Gm(d:gH):List Rec:=(ln 120 d.safe).1
def mF(d:gH):List Rec:=(QP d).2
structure DOk(d:gH):Prop where
 safe:d.safe=txt (Gm d)
 good:Fe (mF d)
 len:(mF d).length<=120
 room:d.safe.length+d.wait.length<=60000
 pre:Gm d<+:mF d
 whole:(QP d).1=⟨txt (mF d),[]⟩
 rroom:(txt (mF d)).length<=60000
 still:d.wait=[]->mF d=Gm d
theorem dOk{d:gH}(h:jr d=0):DOk d:=by
  obtain⟨k,j⟩:=Dk.vS h;obtain⟨g1,g2,t,c,g⟩:=ln_inv 120 d.safe;have l:=g j;subst l;rw[List.append_nil]at c;have n:((ln 120 d.safe).1.length:Int)<=120:=(YH 120 d.safe).2.2.2 V;obtain⟨k1,k2,u,f,o⟩:=ln_inv (120-((ln 120 d.safe).1.length:Int)) d.wait;have i:=(YH (120-((ln 120 d.safe).1.length:Int)) d.wait).2.2.2 V;have a:mF d=(ln 120 d.safe).1++(ln (120-((ln 120 d.safe).1.length:Int)) d.wait).1:=rfl;have b:d.wait.take (ln (120-((ln 120 d.safe).1.length:Int)) d.wait).2.1.toNat=txt (ln (120-((ln 120 d.safe).1.length:Int)) d.wait).1:=by
    generalize q:txt (ln (120-((ln 120 d.safe).1.length:Int)) d.wait).1=T at k2 f;rw[k2,Int.toNat_natCast,f,List.take_left]
  have p:(txt (ln (120-((ln 120 d.safe).1.length:Int)) d.wait).1).length<=d.wait.length:=by
    rw[<-b,List.length_take];omega
  refine⟨c,?_,?_,k,?_,?_,?_,?_⟩
  · rw[a];exact fun r m=>(List.mem_append.1 m).elim (g1 r)<|k1 r
  · rw[a,List.length_append];omega
  · rw[a];exact List.prefix_append _ _
  · show(⟨d.safe++d.wait.take (ln (120-((ln 120 d.safe).1.length:Int)) d.wait).2.1.toNat,[]⟩:gH)=_;rw[b,a,L8,<-c]
  · rw[a,L8,List.length_append,<-c];omega
  · intro e;rw[a,e];show _++(QT _ (jC 10 []) [] 0).1=_;simp[jC,QT,Gm]
theorem dOk_mk{a:List Rec}{w:Str}(h:Fe a)(b:a.length<=120)(c:(txt a).length+w.length<=60000):jr ⟨txt a,w⟩=0/\Gm ⟨txt a,w⟩=a:=by
 refine⟨Gy h b c,?_⟩;unfold Gm;rw[ln_all h V]
theorem note_disk{d:gH}(h:jr d=0)(s:d.wait=[]){r:Rec}(w:OT r){d1 d2:gH}(u:vT d r=(d1,0))(g:FP d1=(d2,0)):
    dU r=0/\d2=⟨txt (Gm d++[r]),[]⟩/\jr d2=0/\Gm d2=Gm d++[r]/\mF d2=Gm d++[r]/\(Gm d).length+1<=120:=by
  have j:=dOk h;obtain⟨t,z⟩:=d;simp only at s;subst s;have q:=j.safe;simp only at q;have f:=j.room;simp only[List.length_nil]at f;have p:=j.len;rw[j.still rfl]at p;have i:=j.good;rw[j.still rfl]at i;generalize y:Gm ⟨t,[]⟩=a at*;subst q;have e:=put_txt (a:=a) (b:=[]) (r:=r) i p (by simpa[txt]using f) w;rw[show txt ([]:List Rec)=[]from rfl,u]at e;rcases e with e|⟨e,er,el⟩
  · exact absurd Z e
  · rw[List.nil_append]at e el;obtain rfl:=congrArg Prod.fst e;simp only at g;have k:Fe [r]:=fun x l=>by rw[List.mem_singleton]at l;subst l;exact⟨er,w⟩
    have m:Fe (a++[r]):=fun x l=>(List.mem_append.1 l).elim (i x)<|k x;by_cases c:a.length+1<=120
    · rw[sync_txt i k (by simpa using c) el]at g;obtain rfl:=congrArg Prod.fst g;obtain⟨k1,k2⟩:=dOk_mk (a:=a++[r]) (w:=[]) m (by simpa using c) (by rw[L8];simp;omega);exact⟨er,Z,k1,k2,by rw[(dOk k1).still Z,k2],c⟩
    · exfalso;unfold FP syncT at g;rw[if_neg (by rw[Gy i p el];simp)]at g;simp only at g;have o:a.length=120:=by omega
      have:jr ⟨txt a++txt [r],[]⟩=2:=by
        unfold jr;simp only[List.length_nil,List.length_append];rw[if_neg V];rw[ln_txt (txt [r]) i V];have n:jC 10 (txt [r])=[zh r,[]]:=by
          have:=Vb [r] [];rw[List.append_nil]at this;rw[this];simp[jC]
        rw[n];unfold QT;have v:ng (zh r)=(r,0):=YE er w;rw[v,if_neg zq3,if_pos V]
      rw[this]at g;simp at g
theorem tear_disk{d:gH}(h:jr d=0)(s:d.wait=[]){r:Rec}(w:OT r){d1:gH}(A:vT d r=(d1,0)){n:Int}(hn:0<=n/\n<=d1.wait.length):
    dU r=0/\(JF d1 n).2=0/\jr (JF d1 n).1=0/\Gm (JF d1 n).1=Gm d/\(mF (JF d1 n).1=Gm d\/mF (JF d1 n).1=Gm d++[r]):=by
  have f:=dOk h;obtain⟨z,E⟩:=d;simp only at s;subst s;have o:=f.safe;simp only at o;have c:=f.room;simp only[List.length_nil]at c;have i:=f.len;rw[f.still rfl]at i;have g:=f.good;rw[f.still rfl]at g;generalize C:Gm ⟨z,[]⟩=a at*;subst o;have e:=put_txt (a:=a) (b:=[]) (r:=r) g i (by simpa[txt]using c) w;rw[show txt ([]:List Rec)=[]from rfl,A]at e;rcases e with e|⟨e,er,el⟩
  · exact absurd Z e
  · rw[List.nil_append]at e el;obtain rfl:=congrArg Prod.fst e;have u:jr ⟨txt a,txt [r]⟩=0:=Gy g i el;simp only at hn;have v:JF ⟨txt a,txt [r]⟩ n=(⟨txt a,(txt [r]).take n.toNat⟩,0):=by
      unfold JF;simp only;rw[if_neg (by rw[u];simp),if_neg V]
    rw[v];obtain⟨k1,k2⟩:=dOk_mk (a:=a) (w:=(txt [r]).take n.toNat) g i (by rw[List.length_take];omega);refine⟨er,Z,k1,k2,?_⟩;have B:mF ⟨txt a,(txt [r]).take n.toNat⟩=a++(ln (120-(a.length:Int)) ((txt [r]).take n.toNat)).1:=by
      show(ln 120<|txt a).1++_=_;rw[ln_all g V]
    simp only;rw[B];obtain⟨j,t,y,m⟩:=take_txt [r] n.toNat;have k:Fe [r]:=fun x p=>by rw[List.mem_singleton]at p;subst p;exact⟨er,w⟩
    rw[y];cases j with
    |zero=>
      left;have:=(ln_torn (most:=120-(a.length:Int)) (rs:=[]) (t:=t) KQ (by simp;omega) m).1;simp only[List.take_zero];rw[this,List.append_nil]
    |succ j=>
      simp only[List.take_succ_cons,List.take_nil];by_cases q:a.length+1<=120
      · right;rw[(ln_torn (most:=120-(a.length:Int)) k (by simp;omega) m).1]
      · left;have l:(120-(a.length:Int))=0:=by omega
        rw[l];have:=(YH 0<|txt [r]++t).2.2.2 V;have:(ln 0<|txt [r]++t).1=[]:=List.eq_nil_of_length_eq_zero V;rw[this,List.append_nil]
end Pw
open Go Go.Proofs Go.LX
namespace Pw
open Dk
theorem OB{α:Type}{R:Rdr α}{g:α->List Int}(h:∀l x r,R l=some (x,r)->l=g x++r):∀(n:Nat) (l:List Int) (xs:List α) (r:List Int),jY R n l=some (xs,r)->l=xs.flatMap g++r/\xs.length=n
 |0,l,xs,r,e=>by
  have a:some (([]:List α),l)=some (xs,r):=e;cases a;exact⟨Z,Z⟩
 |n+1,l,xs,r,e=>by
  have a:(R l).bind (fun q=>(jY R n q.2).bind fun b=>some (q.1::b.1,b.2))=some (xs,r):=e;cases h1:R l with
  |none=>rw[h1]at a;cases a
  |some q=>
   rw[h1,Option.bind_some]at a;cases h2:jY R n q.2 with
   |none=>rw[h2]at a;cases a
   |some b=>
    rw[h2,Option.bind_some]at a;cases a;obtain⟨k1,k2⟩:=OB h n q.2 b.1 b.2 h2;refine⟨?_,by simp[k2]⟩;rw[h l q.1 q.2 h1,List.flatMap_cons,List.append_assoc,<-k1]
theorem num_inv{l:List Int}{x:Int}{r:List Int}(h:Gj l=some (x,r)):l=x::r:=by
 cases l with
 |nil=>cases h
 |cons a l=>cases h;rfl
theorem YI{m:Int}{l:List Int}{x:Nat}{r:List Int}(h:sG m l=some (x,r)):l=(x:Int)::r/\(x:Int)<=m:=by
  cases l with
  |nil=>cases h
  |cons a l=>
    unfold sG at h;simp only at h;by_cases b:0<=a/\a<=m
    · rw[if_pos b]at h;cases h;rw[Int.toNat_of_nonneg b.1];exact⟨Z,b.2⟩
    · rw[if_neg b]at h;cases h
theorem vU{α β:Type}{R:Rdr α}{f:α->Rdr β}{l:List Int}{y:β}{r:List Int}(h:iE R f l=some (y,r)):∃x a,R l=some (x,a)/\f x a=some (y,r):=by
 unfold iE at h;cases e:R l with
 |none=>rw[e]at h;cases h
 |some q=>rw[e,Option.bind_some]at h;exact⟨q.1,q.2,Z,h⟩
theorem YJ{α:Type}{x y:α}{l r:List Int}(h:xu x l=some (y,r)):x=y/\l=r:=by cases h;exact⟨Z,Z⟩
theorem val_inv{l:List Int}{x:Val}{r:List Int}(h:VZ l=some (x,r)):l=[x.kind,x.n]++r:=by
 obtain⟨k,d,a,h⟩:=vU h;obtain⟨n,c,b,h⟩:=vU h;obtain⟨rfl,rfl⟩:=YJ h;rw[num_inv a,num_inv b];rfl
theorem row_inv{m:Int}{l:List Int}{x:List Val}{r:List Int}(h:CZ m l=some (x,r)):l=rowP x++r:=by
 obtain⟨k,a,b,h⟩:=vU h;obtain⟨c,d⟩:=OB (fun l x r=>val_inv) k a x r h;rw[(YI b).1,c,<-d];rfl
theorem fr_inv{l:List Int}{x:LX.Frame}{r:List Int}(h:QN l=some (x,r)):l=frP x++r:=by
 obtain⟨a,m,f,h⟩:=vU h;obtain⟨b,k,i,h⟩:=vU h;obtain⟨c,n,e,h⟩:=vU h;obtain⟨d,j,g,h⟩:=vU h;obtain⟨rfl,rfl⟩:=YJ h;rw[num_inv f,num_inv i,num_inv e,row_inv g];rfl
theorem st_inv{l:List Int}{s:LX.State}{r:List Int}(h:QO l=some (s,r)):l=zS s++r:=by
 obtain⟨a,z,v,h⟩:=vU h;obtain⟨b,A,j,h⟩:=vU h;obtain⟨n,y,e,h⟩:=vU h;obtain⟨f,t,i,h⟩:=vU h;obtain⟨k,g,o,h⟩:=vU h;obtain⟨c,d,u,h⟩:=vU h;obtain⟨rfl,rfl⟩:=YJ h;obtain⟨m,p⟩:=OB (fun l x r=>fr_inv) n y f t i;obtain⟨q,w⟩:=OB (fun l x r=>row_inv) k g c d u;rw[num_inv v,num_inv j,(YI e).1,m,(YI o).1,q,<-p,<-w];unfold zS;simp
structure Img(p:List bP)(l:List Int)(s:LX.State):Prop where
 un:dW p l=(s,0)
 st:xX p s
 idem:jl s=s
 eq:l=zS s
theorem img_of{p:List bP}(hp:Oy p=0){l:List Int}(h:(dW p l).2=0):Img p l (dW p l).1:=by
  have g:dW p l=((dW p l).1,0):=by rw[<-h]
  have a:=g;unfold dW at h;by_cases d:1200<l.length
  · rw[if_pos d]at h;simp at h
  · rw[if_neg d]at h;cases e:QO l with
    |none=>rw[e]at h;simp at h
    |some q=>
      obtain⟨s,r⟩:=q;rw[e]at h;cases r with
      |cons x r=>simp at h
      |nil=>
        simp only at h;have f:dW p l=Zl p s:=by unfold dW;rw[if_neg d,e]
        rw[f]at a⊢;unfold Zl at h a⊢;rw[if_neg V]at h a⊢;by_cases c:ckS p s=0
        · rw[if_neg V]at h a⊢;by_cases b:jl s=s
          · rw[if_pos b]at h a⊢;refine⟨?_,Io.1 c,b,?_⟩
            · rw[f];unfold Zl;rw[if_neg V,if_neg V,if_pos b]
            · have:=st_inv e;rw[List.append_nil]at this;exact this
          · rw[if_neg b]at h;simp at h
        · rw[if_pos c]at h;exact absurd h c
theorem img_pack{p:List bP}(hp:Oy p=0){s:LX.State}(h:xX p s):Img p (zS (jl s)) (jl s):=
 ⟨unpack_pack hp h,Sn (pU hp) h,Yw (h.sw (pU hp)),rfl⟩
theorem valsP_mem{l:List Val}{x:Int}(h:x∈Yx l):∃v∈l,x=v.kind\/x=v.n:=by
 obtain⟨v,b,a⟩:=List.mem_flatMap.1 h;simp at a;exact⟨v,b,a⟩
theorem FD{x:Int}(h: -2000000000<=x/\x<=2000000000):kg x:=⟨by omega,by omega⟩
theorem val_b{n:Nat}{v:Val}(h:jV n v)(hn:n<=24):(-2000000000<=v.kind/\v.kind<=2000000000)/\ -2000000000<=v.n/\v.n<=2000000000:=by unfold jV at h;omega
theorem row_b{n:Nat}{l:List Val}(h:∀v∈l,jV n v)(hn:n<=24)(c:l.length<=40):∀x∈rowP l,-2000000000<=x/\x<=2000000000:=by
  intro x a;rcases List.mem_cons.1 a with rfl|a
  · omega
  · obtain⟨v,b,e⟩:=valsP_mem a;have:=val_b (h v b) hn;rcases e with rfl|rfl
    · exact this.1
    · exact this.2
theorem pack_b{p:List bP}(hp:pR p){s:LX.State}(h:xX p s):∀x∈zS s,kg x:=by
  have e:=h.small hp;have C:=e.frames;have m:=e.cells;have v:=h.status;have y:=h.bO;intro x a;refine FD ?_;unfold zS at a;rcases List.mem_cons.1 a with rfl|a
  · omega
  rcases List.mem_cons.1 a with rfl|a
  · omega
  rcases List.mem_cons.1 a with rfl|a
  · omega
  rcases List.mem_append.1 a with a|a
  · obtain⟨f,b,a⟩:=List.mem_flatMap.1 a;obtain⟨q,g⟩:=zG h.frames f b;have w:=(hp.mem g.proc).2.2.2;have A:=(aF g.proc).1;have u:f.proc.toNat<p.length:=by
      have:=(aF g.proc).2;exact(List.getElem?_eq_some_iff.1 this).1
    have o:=hp.many;have hat:=g.at_;unfold sO at w;have i: -2000000000<=f.iX/\f.iX<=2000000000:=by
      have j:∀(l:List LX.Frame) (t:Int),t<=40->(∀f∈l,f.regs.length<=40)->mR p s.cells.length t l->∀f∈l,0<=f.iX/\f.iX<40:=by
        intro l;induction l with
        |nil=>intro t _ _ _ f b;cases b
        |cons g l ih=>
          intro t B n d f b;rcases List.mem_cons.1 b with rfl|b
          · have:=d.2.1;omega
          · exact ih _ (by have:=n g zq3;omega) (fun z r=>n z (List.mem_cons_of_mem _ r)) d.2.2 f b
      have:=j s.frames 1 V e.regs h.frames f b;omega
    unfold frP at a;rcases List.mem_cons.1 a with rfl|a
    · omega
    rcases List.mem_cons.1 a with rfl|a
    · omega
    rcases List.mem_cons.1 a with rfl|a
    · exact i
    · exact row_b g.vals m (e.regs f b) x a
  · rcases List.mem_cons.1 a with rfl|a
    · omega
    · obtain⟨c,k,a⟩:=List.mem_flatMap.1 a;exact row_b (h.cells.2 c k).2 m (by have:=e.fields c k;omega) x a
theorem img_b{p:List bP}(hp:pR p){l:List Int}{s:LX.State}(h:Img p l s):(∀x∈l,kg x)/\1<=l.length/\l.length<=1200:=by
 rw[h.eq];have:=Yy<|h.st.small hp;refine⟨pack_b hp h.st,?_,by omega⟩;unfold zS;simp
def pV(i:Int)(l:List Co):Option Co:=l.find? fun x=>decide (x.lI=i)
theorem Fg{i:Int}{l:List Co}{c:Co}(h:pV i l=some c):c.lI=i/\c∈l:=by
 have a:=List.find?_some h;exact⟨by simpa using a,List.mem_of_find?_eq_some h⟩
theorem Eb{c:Co}{i:Int}:∀{l:List Co},(∀x∈l,x.lI≠c.lI)->pV i (Gl c l)=if i=c.lI then some c else pV i l
  |[],_=>by
    unfold Gl pV;rw[List.find?_cons];by_cases h:i=c.lI
    · rw[if_pos h,dT h.symm]
    · rw[if_neg h,dF (fun e=>h e.symm)]
  |x::r,hx=>by
    unfold Gl;by_cases a:x.lI<c.lI
    · rw[if_pos a];have b:=Eb (c:=c) (i:=i) (l:=r) fun y d=>hx y<|List.mem_cons_of_mem _ d;unfold pV at b⊢;rw[List.find?_cons,List.find?_cons,b];by_cases h:x.lI=i
      · rw[dT h];show some x=_;rw[if_neg (by have:=hx x zq3;omega)]
      · rw[dF h]
    · rw[if_neg a];unfold pV;rw[List.find?_cons];by_cases h:i=c.lI
      · rw[if_pos h,dT h.symm]
      · rw[if_neg h,dF (fun e=>h e.symm)]
theorem Gz{b:Rec}{i:Int}:∀{l:List Co},pV i (Mw b l)=if i=b.co then none else pV i l
  |[]=>by simp[pV,Mw]
  |x::r=>by
    have c:=Gz (b:=b) (i:=i) (l:=r);unfold pV Mw at c⊢;rw[List.filter_cons];by_cases h:x.lI=b.co
    · rw[dF V];simp only[Bool.false_eq_true,if_false];rw[c,List.find?_cons];by_cases a:i=b.co
      · rw[if_pos a,if_pos a]
      · rw[if_neg a,if_neg a,dF V]
    · rw[dT h];simp only[if_true];rw[List.find?_cons,List.find?_cons,c];by_cases a:x.lI=i
      · rw[dT a];show some x=_;rw[if_neg V]
      · rw[dF a]
inductive Did (r:Rec) (o n:Option Co):Prop
 |begin (h:r.kind=1/\r.aM=1) (ho:o=none) (hn:n=some ⟨r.co,r.aM,r.image,-1⟩)
 |take (h:r.kind=4/\r.aM≠1) (ho:o=none) (hn:n=some ⟨r.co,r.aM,r.image,-1⟩)
 |slice (c:Co) (h:r.kind=2) (ho:o=some c) (he:c.aM=r.aM) (hf:c.offered= -1) (hn:n=some ⟨c.lI,c.aM,r.image,-1⟩)
 |offer (c:Co) (h:r.kind=3) (ho:o=some c) (he:c.aM=r.aM) (hf:c.offered= -1) (hx:c.aM≠100) (hn:n=some ⟨c.lI,c.aM,c.image,r.place⟩)
 |gone (c:Co) (h:r.kind=5) (ho:o=some c) (he:c.aM=r.aM) (hf:c.offered≠ -1) (hn:n=none)
theorem next_find{a:List Co}{r:Rec}(h:(kV a r).2=0):(∀i,i≠r.co->pV i (kV a r).1=pV i a)/\Did r (pV r.co a) (pV r.co (kV a r).1)/\gP r=0:=by
  have v:=(next_ok a r h).1;unfold kV at h⊢;by_cases q:gQ a=0
  · by_cases n:gP r=0
    · have gr:=goodR r n;rw[if_neg (by simpa using q),if_neg (by simpa using n)]at h⊢;have l:∀x∈Mw r a,x.lI≠r.co:=fun x m=>(V3 m).2;have u:QQ r a=pV r.co a:=rfl;cases e:QQ r a with
      |none=>
        rw[e]at h;rw[u]at e;simp only at h⊢;by_cases f:r.kind=1\/r.kind=4
        · rw[if_pos f]at h⊢;by_cases j:(decide (r.aM=1) !=decide (r.kind=1))=true
          · rw[if_pos j]at h;simp at h
          · rw[if_neg j];simp only;refine⟨fun i k=>?_,?_,n⟩
            · rw[Eb l,if_neg k,Gz,if_neg k]
            · rw[Eb l,if_pos rfl,e];rcases f with f|f
              · refine .begin ⟨f,?_⟩ Z Z;by_cases g:r.aM=1
                · exact g
                · exact absurd (by simp[f,g]) j
              · refine .take ⟨f,?_⟩ Z Z;intro g;exact absurd (by simp[f,g]) j
        · rw[if_neg f]at h;simp at h
      |some c=>
        rw[e]at h;rw[u]at e;obtain⟨d,w⟩:=Fg e;simp only at h⊢;by_cases f:r.kind=1\/r.kind=4
        · rw[if_pos f]at h;simp at h
        · rw[if_neg f]at h⊢;by_cases j:(decide (r.aM≠c.aM)||(decide (c.offered≠ -1) !=decide (r.kind=5)))=true
          · rw[if_pos j]at h;simp at h
          · rw[if_neg j]at h⊢;have g:c.aM=r.aM:=by
              by_cases g:r.aM=c.aM
              · exact g.symm
              · exact absurd (by simp[g]) j
            by_cases p:r.kind=5
            · rw[if_pos p];simp only;refine⟨fun i k=>by rw[Gz,if_neg k],?_,n⟩;rw[Gz,if_pos rfl,e];refine .gone c p Z g ?_ Z;intro o;exact absurd (by simp[p,o]) j
            · have o:c.offered= -1:=by
                by_cases o:c.offered= -1
                · exact o
                · exact absurd (by simp[p,o]) j
              rw[if_neg p]at h⊢;by_cases s:r.kind=2
              · rw[if_pos s];simp only;have b:∀x∈Mw r a,x.lI≠(⟨c.lI,c.aM,r.image,c.offered⟩:Co).lI:=fun x m=>by simp only[d];exact l x m
                refine⟨fun i k=>?_,?_,n⟩
                · rw[Eb b,if_neg (by simp only[d];exact k),Gz,if_neg k]
                · rw[Eb b,if_pos (by simp only[d]),e];exact .slice c s Z g o (by rw[o])
              · rw[if_neg s]at h⊢;by_cases m:c.aM=100
                · rw[if_pos m]at h;simp at h
                · rw[if_neg m];simp only;have t:r.kind=3:=by have:=gr.kind;omega
                  have b:∀x∈Mw r a,x.lI≠(⟨c.lI,c.aM,c.image,r.place⟩:Co).lI:=fun x m=>by simp only[d];exact l x m
                  refine⟨fun i k=>?_,?_,n⟩
                  · rw[Eb b,if_neg (by simp only[d];exact k),Gz,if_neg k]
                  · rw[Eb b,if_pos (by simp only[d]),e];exact .offer c t Z g o m Z
    · rw[if_neg (by simpa using q),if_pos n]at h;exact absurd h n
  · rw[if_pos q]at h;exact absurd h q
end Pw
open Go Go.Proofs Go.LX
namespace Pw
open Dk
structure KT where
 cos:List Co
 d:gH
 up:Bool
deriving DecidableEq
structure wS where
 prog:List bP
 places:List KT
 bD:List fV
structure Hap where
 kind:Int
 place:Int
 co:Int
 n:Int
theorem regAt_ok{n:Nat}{r:List Val}(h:∀v∈r,jV n v)(i:Int):jV n (tC r i):=by
  unfold tC idx;by_cases a:0<=i
  · rw[if_pos a];cases e:r[i.toNat]? with
    |none=>exact .inl ⟨rfl,rfl⟩
    |some v=>exact h v (List.mem_of_getElem? e)
  · rw[if_neg a];exact .inl ⟨Z,Z⟩
theorem said_b{a:List bP}(i:pR a){s:LX.State}(h:xX a s)(g:s.status=0){t:LX.State}{z:Int}{p:Bool}(b:Mg a s=some (t,some z,p)):kg z:=by
  have e:=((Jc i h g b).2.2 Z).2;obtain⟨pre,f,x,c,m,l,j,k⟩:=OA i h g;rw[j]at b;rw[k]at e;unfold uP at b;simp only[e]at b;rw[if_neg V,if_neg V,if_neg V,if_neg V,if_neg V,if_neg V,if_neg V,if_neg V,if_pos trivial]at b;by_cases d:(tC f.regs c.a).kind=1
  · rw[if_pos d]at b;have:=regAt_ok l.fr.vals c.a;have:=this.int d;cases b;exact FD V
  · rw[if_neg d]at b;cases b
theorem run_said{a:List bP}(f:pR a):∀(m:Nat) (b:List Int) (n:Nat) (s:LX.State),xX a s->(∀x∈b,kg x)->∀x∈(zI a m b n s).2.1,kg x
  |0,b,n,s,_,h=>h
  |m+1,b,n,s,hs,h=>by
    unfold zI;by_cases g:s.status=0
    · rw[if_neg V];by_cases d:b.length=40/\Ph a s=9
      · rw[if_pos d];exact h
      · rw[if_neg d];cases e:Mg a s with
        |none=>exact h
        |some q=>
          obtain⟨t,o,p⟩:=q;have i:∀x∈b++o.toList,kg x:=by
            intro x c;rcases List.mem_append.1 c with c|c
            · exact h x c
            · cases o with
              |none=>cases c
              |some z=>simp at c;subst c;exact said_b f hs g e
          simp only;cases p with
          |true=>exact i
          |false=>exact run_said f m _ _ t (Jc f hs g e).1 i
    · rw[if_pos g];exact h
def YK(m:fV):Prop:=(0<=m.from_/\m.from_<=2)/\(0<=m.iX/\m.iX<=2)/\(0<=m.co/\m.co<=2)/\(2<=m.aM/\m.aM<=100)/\(m.taken=true↔m.image=[])/\m.image.length<=1200
theorem mail_each:∀l:List fV,each zq Cu l ()=0↔∀m∈l,YK m
  |[]=>by simp[qW,Cu]
  |m::l=>by
    have f:=mail_each l;rw[iH];generalize each zq Cu l=K at f⊢;unfold zq;by_cases c:(0<=m.from_/\m.from_<=2)/\(0<=m.iX/\m.iX<=2)/\(0<=m.co/\m.co<=2)/\(2<=m.aM/\m.aM<=100)
    · rw[show(((((((decide ((m.from_:Int)<0)||decide ((3:Int)<=m.from_))||decide ((m.iX:Int)<0))||decide ((3:Int)<=m.iX))||decide ((m.co:Int)<0))||decide ((3:Int)<=m.co))||decide ((m.aM:Int)<2))||decide ((100:Int)<m.aM))=false by
        simp only[Bool.or_eq_false_iff,decide_eq_false_iff_not];omega,cond_false]
      by_cases b:(m.taken=true↔m.image=[])/\m.image.length<=1200
      · rw[show((m.taken !=decide (((m.image.length:Int):Int)=0))||decide ((1200:Int)<(m.image.length:Int)))=false by
          rw[dF (show¬(1200:Int)<(m.image.length:Int) by have:=b.2;omega),Bool.or_false];by_cases a:m.image=[]
          · rw[b.1.2 a,a];simp
          · have:m.taken=false:=by
              cases e:m.taken with
              |false=>rfl
              |true=>exact absurd (b.1.1 e) a
            rw[this,dF (fun h=>a (List.eq_nil_of_length_eq_zero V))];rfl,cond_false,f]
        constructor
        · intro h x d;rcases List.mem_cons.1 d with rfl|d
          · exact⟨c.1,c.2.1,c.2.2.1,c.2.2.2,b⟩
          · exact h x d
        · exact fun h x d=>h x<|List.mem_cons_of_mem _ d
      · rw[show((m.taken !=decide (((m.image.length:Int):Int)=0))||decide ((1200:Int)<(m.image.length:Int)))=true by
          by_cases g:m.image.length<=1200
          · rw[dF (show¬(1200:Int)<(m.image.length:Int) by omega),Bool.or_false];by_cases a:m.image=[]
            · cases e:m.taken with
              |true=>exact absurd ⟨⟨fun _=>a,fun _=>e⟩,g⟩ b
              |false=>rw[a];simp
            · cases e:m.taken with
              |true=>rw[dF (fun h=>a (List.eq_nil_of_length_eq_zero V))];rfl
              |false=>exact absurd ⟨⟨fun h=>(Bool.false_ne_true (e.symm.trans h)).elim,fun h=>absurd h a⟩,g⟩ b
          · rw[dT (show(1200:Int)<(m.image.length:Int) by omega),Bool.or_true],cond_true]
        constructor
        · intro h;simp at h
        · intro h;exact absurd (h m zq3).2.2.2.2 b
    · rw[show(((((((decide ((m.from_:Int)<0)||decide ((3:Int)<=m.from_))||decide ((m.iX:Int)<0))||decide ((3:Int)<=m.iX))||decide ((m.co:Int)<0))||decide ((3:Int)<=m.co))||decide ((m.aM:Int)<2))||decide ((100:Int)<m.aM))=true by
        simp only[Bool.or_eq_true,decide_eq_true_eq];omega,cond_true]
      constructor
      · intro h;simp at h
      · intro h;have:=h m zq3;exact absurd ⟨this.1,this.2.1,this.2.2.1,this.2.2.2.1⟩ c
theorem Ip(l:List fV):dL l=0↔l.length<=40/\∀m∈l,YK m:=by
  unfold dL;by_cases h:l.length<=40
  · rw[dF V,cond_false,mail_each];exact⟨fun x=>⟨h,x⟩,fun x=>x.2⟩
  · rw[dT V,cond_true];exact⟨fun x=>by simp at x,fun x=>absurd x.1 h⟩
def JG(p:List bP):List Co->Int
 |[]=>0
 |c::l=>if(dW p c.image).2≠0 then(dW p c.image).2 else JG p l
theorem YL(p:List bP):∀l,JG p l=0↔∀c∈l,(dW p c.image).2=0
  |[]=>by simp[JG]
  |c::l=>by
    unfold JG;by_cases h:(dW p c.image).2=0
    · rw[if_neg V,YL p l];simp[h]
    · rw[if_pos h];simp[h]
def Aj(p:List bP)(x:KT):Int:=
 if jr x.d≠0 then jr x.d else if x.up=false then(if x.cos=[]then 0 else 4)else if x.d.wait≠[]then 4 else
 if(sH [] (mF x.d)).2≠0 then(sH [] (mF x.d)).2 else if(sH [] (mF x.d)).1≠x.cos then 4 else JG p x.cos
structure PlR(p:List bP)(x:KT):Prop where
 disk:jr x.d=0
 down:x.up=false->x.cos=[]
 wait:x.up=true->x.d.wait=[]
 cos:x.up=true->sH [] (mF x.d)=(x.cos,0)
 img:∀c∈x.cos,(dW p c.image).2=0
theorem plc_iff(p:List bP)(x:KT):Aj p x=0↔PlR p x:=by
  unfold Aj;by_cases b:jr x.d=0
  · rw[if_neg V];cases hu:x.up with
    |false=>
      simp only[if_true];by_cases a:x.cos=[]
      · rw[if_pos a];exact⟨fun _=>⟨b,fun _=>a,fun h=>(by rw[hu]at h;cases h),fun h=>(by rw[hu]at h;cases h),by rw[a];simp⟩,fun _=>rfl⟩
      · rw[if_neg a];exact⟨fun h=>by simp at h,fun h=>absurd (h.down hu) a⟩
    |true=>
      simp only[Bool.true_eq_false,if_false];by_cases a:x.d.wait=[]
      · rw[if_neg (by simpa using a)];by_cases c:(sH [] (mF x.d)).2=0
        · rw[if_neg V];by_cases e:(sH [] (mF x.d)).1=x.cos
          · rw[if_neg (by simpa using e),YL];exact⟨fun h=>⟨b,fun h=>(by rw[hu]at h;cases h),fun _=>a,fun _=>by rw[<-e,<-c],h⟩,fun h=>h.img⟩
          · rw[if_pos e];exact⟨fun h=>by simp at h,fun h=>absurd (by rw[h.cos hu]) e⟩
        · rw[if_pos c];exact⟨fun h=>absurd h c,fun h=>absurd (by rw[h.cos hu]) c⟩
      · rw[if_pos a];exact⟨fun h=>by simp at h,fun h=>absurd (h.wait hu) a⟩
  · rw[if_pos b];exact⟨fun h=>absurd h b,fun h=>absurd h.disk b⟩
def NQ(p:List bP):List KT->Int
 |[]=>0
 |x::l=>if Aj p x≠0 then Aj p x else NQ p l
theorem YM(p:List bP):∀l,NQ p l=0↔∀x∈l,PlR p x
  |[]=>by simp[NQ]
  |x::l=>by
    unfold NQ;by_cases h:Aj p x=0
    · rw[if_neg V,YM p l];have:=(plc_iff p x).1 h;simp[this]
    · rw[if_pos h];exact⟨fun a=>absurd a h,fun a=>absurd ((plc_iff p x).2<|a x zq3) h⟩
def Mh(p:List bP):List fV->Int
 |[]=>0
 |m::l=>if m.taken=true then Mh p l else if(dW p m.image).2≠0 then(dW p m.image).2 else Mh p l
theorem Ve(p:List bP):∀l,Mh p l=0↔∀m∈l,m.taken=false->(dW p m.image).2=0
  |[]=>by simp[Mh]
  |m::l=>by
    unfold Mh;by_cases a:m.taken=true
    · rw[if_pos a,Ve p l];simp[a]
    · rw[if_neg a];have b:m.taken=false:=by simpa using a
      by_cases h:(dW p m.image).2=0
      · rw[if_neg V,Ve p l];simp[h]
      · rw[if_pos h];simp[h,b]
def FE(w:wS):Int:=
 if Oy w.prog≠0 then Oy w.prog else if w.places.length≠3 then 4 else if dL w.bD≠0 then dL w.bD else
 if NQ w.prog w.places≠0 then NQ w.prog w.places else Mh w.prog w.bD
structure WR(w:wS):Prop where
 code:Oy w.prog=0
 many:w.places.length=3
 YN:w.bD.length<=40
 mok:∀m∈w.bD,YK m
 pl:∀x∈w.places,PlR w.prog x
 mimg:∀m∈w.bD,m.taken=false->(dW w.prog m.image).2=0
theorem w_iff(w:wS):FE w=0↔WR w:=by
  unfold FE;by_cases c:Oy w.prog=0
  · rw[if_neg V];by_cases e:w.places.length=3
    · rw[if_neg V];by_cases b:dL w.bD=0
      · rw[if_neg V];by_cases d:NQ w.prog w.places=0
        · rw[if_neg V,Ve];have a:=(Ip _).1 b;exact⟨fun h=>⟨c,e,a.1,a.2,(YM _ _).1 d,h⟩,fun h=>h.mimg⟩
        · rw[if_pos d];exact⟨fun h=>absurd h d,fun h=>absurd ((YM _ _).2 h.pl) d⟩
      · rw[if_pos b];exact⟨fun h=>absurd h b,fun h=>absurd ((Ip _).2 ⟨h.YN,h.mok⟩) b⟩
    · rw[if_pos e];exact⟨fun h=>by simp at h,fun h=>absurd h.many e⟩
  · rw[if_pos c];exact⟨fun h=>absurd h c,fun h=>absurd h.code c⟩
def zP:KT:=⟨[],zD,false⟩
def iM(w:wS)(k:Int):KT:=(idx w.places k).getD zP
def BI(w:wS)(k:Int)(x:KT):wS:=⟨w.prog,w.places.set k.toNat x,w.bD⟩
def oF(x:KT)(r:Rec):KT×Int:=
 if(kV x.cos r).2≠0 then(x,(kV x.cos r).2)else if(vT x.d r).2≠0 then(x,(vT x.d r).2)else
 if(FP (vT x.d r).1).2≠0 then(x,(FP (vT x.d r).1).2)else(⟨(kV x.cos r).1,(FP (vT x.d r).1).1,x.up⟩,0)
def Pm(x:KT)(r:Rec)(keep:Int):KT×Int:=
 if(kV x.cos r).2≠0 then(x,(kV x.cos r).2)else if(vT x.d r).2≠0 then(x,(vT x.d r).2)else
 (⟨[],(JF (vT x.d r).1 (max 0 (min keep ((vT x.d r).1.wait.length:Int)))).1,false⟩,0)
def Ak(l:List fV)(m:fV):List fV:=if dL l≠0\/dL [m]≠0 then l else if l.length<40 then l++[m]else l
def sI(p:List bP)(k:Int)(c:Co)(fuel:Int):Rec×Int:=
 if 0<=c.offered then(⟨2,c.lI,c.aM,0,[],[]⟩,7)else
 if(dW p c.image).2≠0 then(⟨2,c.lI,c.aM,0,[],[]⟩,(dW p c.image).2)else
 if(dW p c.image).1.status=3/\0<=(dW p c.image).1.bO/\(dW p c.image).1.bO<3/\(dW p c.image).1.bO≠k then(⟨3,c.lI,c.aM,(dW p c.image).1.bO,[],[]⟩,0)else
 if(wake (dW p c.image).1).status≠0 then(⟨2,c.lI,c.aM,0,[],[]⟩,7)else
 (⟨2,c.lI,c.aM,0,(zI p fuel.toNat [] 0 (wake (dW p c.image).1)).2.1,zS (jl (zI p fuel.toNat [] 0 (wake (dW p c.image).1)).1)⟩,0)
def QR(k:Int)(c:Co):fV:=⟨k,c.offered,c.lI,c.aM+1,false,c.image⟩
def runW(w:wS)(x:Hap):wS×Int:=
 match pV x.co (iM w x.place).cos with
 |none=>(w,5)
 |some c=>
  let fuel:=if x.kind=9 then 2000 else x.n
  if fuel<1\/2000<fuel then(w,3)else
  let q:=sI w.prog x.place c fuel
  if q.2≠0 then(w,q.2)else
  if x.kind=9 then(BI w x.place (Pm (iM w x.place) q.1 x.n).1,(Pm (iM w x.place) q.1 x.n).2)else
  if(oF (iM w x.place) q.1).2≠0 then(w,(oF (iM w x.place) q.1).2)else
  let v:=BI w x.place (oF (iM w x.place) q.1).1
  if q.1.kind=3 then(⟨v.prog,v.places,Ak v.bD (QR x.place ⟨c.lI,c.aM,c.image,q.1.place⟩)⟩,0)else(v,0)
def Sy(w:wS)(x:Hap):wS×Int:=
 match pV x.co (iM w x.place).cos with
 |none=>(w,5)
 |some c=>if c.offered<0 then(w,7)else(⟨w.prog,w.places,Ak w.bD (QR x.place c)⟩,0)
def Vf(w:wS)(k i:Int):wS×Int:=
 if i≠k then(w,5)else if(mF (iM w k).d).any (fun r=>decide (r.kind=1))then(w,6)else
 let r:Rec:=⟨1,i,1,0,[],zS (jl (A7 w.prog))⟩
 (BI w k (oF (iM w k) r).1,(oF (iM w k) r).2)
def hadP(x:KT)(i e:Int):Bool:=(mF x.d).any fun r=>decide (r.kind=4)&&decide (r.co=i)&&decide (e<=r.aM)
def Sz(w:wS)(i:Int)(a:Bool):wS×Int:=
 if i<0\/(w.bD.length:Int)<=i then(w,5)else
 let m:=(w.bD[i.toNat]?).getD Sw
 if(iM w m.iX).up=false then(w,7)else
 let v:wS:=⟨w.prog,w.places,if a then w.bD else w.bD.take i.toNat++w.bD.drop (i.toNat+1)⟩
 if m.taken then
  match pV m.co (iM v m.iX).cos with
  |none=>(v,0)
  |some c=>if c.aM≠m.aM-1\/c.offered≠m.from_ then(v,0)else
   (BI v m.iX (oF (iM v m.iX) ⟨5,m.co,m.aM-1,0,[],[]⟩).1,(oF (iM v m.iX) ⟨5,m.co,m.aM-1,0,[],[]⟩).2)
 else
  let b:fV:=⟨m.iX,m.from_,m.co,m.aM,true,[]⟩
  if hadP (iM v m.iX) m.co m.aM then(⟨v.prog,v.places,Ak v.bD b⟩,0)else
  let r:Rec:=⟨4,m.co,m.aM,0,[],m.image⟩
  if(oF (iM v m.iX) r).2≠0 then(v,(oF (iM v m.iX) r).2)else
  let u:=BI v m.iX (oF (iM v m.iX) r).1
  (⟨u.prog,u.places,Ak u.bD b⟩,0)
def bootW(w:wS)(k:Int):wS×Int:=
 if(iM w k).up=true then(w,7)else
 if(sH [] (mF (iM w k).d)).2≠0 then(w,(sH [] (mF (iM w k).d)).2)else
 if JG w.prog (sH [] (mF (iM w k).d)).1≠0 then(w,JG w.prog (sH [] (mF (iM w k).d)).1)else
 (BI w k ⟨(sH [] (mF (iM w k).d)).1,(QP (iM w k).d).1,true⟩,0)
def mo(w:wS)(x:Hap):wS×Int:=
 if x.kind=4\/x.kind=5 then Sz w x.n (decide (x.kind=5))else
 if x.kind=6 then(if x.n<0\/(w.bD.length:Int)<=x.n then(w,5)else(⟨w.prog,w.places,w.bD.take x.n.toNat++w.bD.drop (x.n.toNat+1)⟩,0))else
 if x.kind<1\/9<x.kind then(w,4)else
 if x.place<0\/(w.places.length:Int)<=x.place then(w,5)else
 if x.kind=8 then bootW w x.place else
 if(iM w x.place).up=false then(w,7)else
 if x.kind=1 then Vf w x.place x.co else
 if x.kind=3 then Sy w x else
 if x.kind=7 then(BI w x.place ⟨[],(iM w x.place).d,false⟩,0)else runW w x
end Pw
open Go Go.Proofs Go.LX
namespace Pw
open Dk
theorem findC_mem{l:List Co}(a:Up l){c:Co}(h:c∈l):pV c.lI l=some c:=by
  induction l with
  |nil=>cases h
  |cons x r ih=>
    rw[Up,List.pairwise_cons]at a;unfold pV;rw[List.find?_cons];rcases List.mem_cons.1 h with rfl|h
    · rw[dT rfl]
    · have:=a.1 c h;rw[dF V];exact ih a.2 h
theorem good0:Dk.Good []:=⟨by simp,fun x h=>(by cases h),List.Pairwise.nil⟩
def Off(l:List Co):Prop:=∀c∈l,c.offered≠ -1->c.aM≠100
theorem rep_good:∀(l:List Rec) (s:List Co),Dk.Good s->Off s->(sH s l).2=0->Dk.Good (sH s l).1/\Off (sH s l).1
  |[],s,h,ho,_=>⟨h,ho⟩
  |r::l,s,h,ho,e=>by
    unfold sH at e⊢;by_cases a:(kV s r).2=0
    · rw[if_neg V]at e⊢;have d:=(next_ok s r a).2.1;obtain⟨k1,k2,-⟩:=next_find a;refine rep_good l _ d ?_ e;intro c g;have b:=findC_mem d.up g;by_cases f:c.lI=r.co
      · rw[f]at b;rw[b]at k2;rcases k2 with⟨_,_,hn⟩|⟨_,_,hn⟩|⟨c0,_,_,_,_,hn⟩|⟨c0,_,_,_,_,hx,hn⟩|⟨_,_,_,_,_,hn⟩
        · cases hn;exact fun h=>absurd Z h
        · cases hn;exact fun h=>absurd Z h
        · cases hn;exact fun h=>absurd Z h
        · cases hn;exact fun _=>hx
        · cases hn
      · rw[k1 _ f]at b;exact ho c (Fg b).2
    · rw[if_pos a]at e;exact absurd e a
theorem PlR.good{p:List bP}{x:KT}(h:PlR p x):Dk.Good x.cos/\Off x.cos:=by
 cases hu:x.up with
 |true=>
  have e:=h.cos hu;have:=rep_good (mF x.d) [] good0 (fun c a=>by cases a) (by rw[e]);rw[e]at this;exact this
 |false=>rw[h.down hu];exact⟨good0,fun c a=>by cases a⟩
structure Noted(p:List bP)(x x':KT)(r:Rec):Prop where
 pl:PlR p x'
 up:x'.up=true
 slog:Gm x'.d=Gm x.d++[r]
 flog:mF x'.d=mF x.d++[r]
 fs:mF x.d=Gm x.d
 cos:x'.cos=(kV x.cos r).1
 ok:(kV x.cos r).2=0
theorem rep_snoc{l:List Rec}{r:Rec}{s a:List Co}(h:sH s l=(a,0)):sH s (l++[r])=if(kV a r).2≠0 then([],(kV a r).2)else((kV a r).1,0):=by
  rw[pRep_app,h];simp only;rw[if_neg zq3];unfold sH;by_cases h:(kV a r).2=0
  · rw[if_neg V,if_neg V];rfl
  · rw[if_pos h,if_pos h]
theorem next_img{p:List bP}{a:List Co}{r:Rec}(b:(kV a r).2=0)(g:∀c∈a,(dW p c.image).2=0)(e:(r.kind=1\/r.kind=2\/r.kind=4)->(dW p r.image).2=0):∀c∈(kV a r).1,(dW p c.image).2=0:=by
  intro c h;have i:=(next_ok a r b).2.1;obtain⟨k1,k2,-⟩:=next_find b;have d:=findC_mem i.up h;by_cases f:c.lI=r.co
  · rw[f]at d;rw[d]at k2;rcases k2 with⟨hk,_,hn⟩|⟨hk,_,hn⟩|⟨c0,hk,_,_,_,hn⟩|⟨c0,_,ho,_,_,hx,hn⟩|⟨_,_,_,_,_,hn⟩
    · cases hn;exact e (.inl hk.1)
    · cases hn;exact e (.inr<|.inr hk.1)
    · cases hn;exact e (.inr<|.inl hk)
    · cases hn;exact g c0 (Fg ho).2
    · cases hn
  · rw[k1 _ f]at d;exact g c (Fg d).2
theorem V5{p:List bP}{x x':KT}{r:Rec}(h:PlR p x)(c:x.up=true)(w:OT r)(q:(r.kind=1\/r.kind=2\/r.kind=4)->(dW p r.image).2=0)(e:oF x r=(x',0)):Noted p x x' r:=by
  unfold oF at e;by_cases f:(kV x.cos r).2=0
  · rw[if_neg V]at e;by_cases i:(vT x.d r).2=0
    · rw[if_neg V]at e;by_cases g:(FP (vT x.d r).1).2=0
      · rw[if_neg V]at e;obtain rfl:=congrArg Prod.fst e;have b:=h.disk;have n:=dOk b;have k:=h.wait c;obtain⟨t,m,l,o,j,s⟩:=note_disk b k w (d1:=(vT x.d r).1) (d2:=(FP (vT x.d r).1).1) (by rw[<-i]) (by rw[<-g]);have a:=n.still k;refine⟨⟨l,fun b=>(by simp only[c]at b;cases b),fun _=>(by rw[m]),fun _=>?_,next_img f h.img q⟩,c,o,by rw[j,a],a,Z,f⟩;simp only;rw[j,<-a,rep_snoc (h.cos c),if_neg V]
      · rw[if_pos g]at e;exact absurd (congrArg Prod.snd e) g
    · rw[if_pos i]at e;exact absurd (congrArg Prod.snd e) i
  · rw[if_pos f]at e;exact absurd (congrArg Prod.snd e) f
structure Torn(p:List bP)(x x':KT)(r:Rec):Prop where
 pl:PlR p x'
 down:x'.up=false
 slog:Gm x'.d=Gm x.d
 flog:mF x'.d=mF x.d\/mF x'.d=mF x.d++[r]
 fs:mF x.d=Gm x.d
 ok:(kV x.cos r).2=0
theorem tear_ok{p:List bP}{x x':KT}{r:Rec}{n:Int}(h:PlR p x)(k:x.up=true)(w:OT r)(e:Pm x r n=(x',0)):Torn p x x' r:=by
  unfold Pm at e;by_cases g:(kV x.cos r).2=0
  · rw[if_neg V]at e;by_cases b:(vT x.d r).2=0
    · rw[if_neg V]at e;obtain rfl:=congrArg Prod.fst e;have i:=h.wait k;have a:=(dOk h.disk).still i;obtain⟨s,q,m,o,l⟩:=tear_disk h.disk i w (d1:=(vT x.d r).1) (by rw[<-b]) (n:=max 0<|min n ((vT x.d r).1.wait.length:Int)) V;refine⟨⟨m,fun _=>rfl,fun f=>(by cases f),fun f=>(by cases f),fun c j=>(by cases j)⟩,Z,o,by rw[a];exact l,a,g⟩
    · rw[if_pos b]at e;exact absurd (congrArg Prod.snd e) b
  · rw[if_pos g]at e;exact absurd (congrArg Prod.snd e) g
theorem pAt_eq{w:wS}{k:Int}(h:0<=k/\k<w.places.length):idx w.places k=some (iM w k)/\iM w k∈w.places/\w.places[k.toNat]? =some (iM w k):=by
 obtain⟨n,rfl⟩:=Int.eq_ofNat_of_zero_le h.1;have hn:n<w.places.length:=by omega
 have e:idx w.places (n:Int)=some w.places[n]:=wy hn;unfold iM;rw[e];exact⟨Z,List.getElem_mem hn,by simp[hn]⟩
theorem pAt_set{w:wS}{k j:Int}(x:KT)(b:0<=k/\k<w.places.length)(a:0<=j/\j<w.places.length):iM (BI w k x) j=if j=k then x else iM w j:=by
  obtain⟨n,rfl⟩:=Int.eq_ofNat_of_zero_le b.1;obtain⟨m,rfl⟩:=Int.eq_ofNat_of_zero_le a.1;unfold iM BI;rw[kC,kC,Int.toNat_natCast,List.getElem?_set];by_cases h:n=m
  · subst h;rw[if_pos rfl,if_pos V,if_pos rfl];rfl
  · rw[if_neg h,if_neg V]
theorem WR.at{w:wS}(h:WR w){k:Int}(a:0<=k/\k<=2):PlR w.prog (iM w k):=h.pl _ (pAt_eq ⟨a.1,by have:=h.many;omega⟩).2.1
theorem WR.set{w:wS}(h:WR w){k:Int}{x:KT}(hx:PlR w.prog x):WR (BI w k x) where
  code:=h.code
  many:=by show(w.places.set k.toNat x).length=3;rw[List.length_set];exact h.many
  YN:=h.YN
  mok:=h.mok
  pl:=fun y hy=>by
    rcases List.mem_or_eq_of_mem_set hy with hy|rfl
    · exact h.pl y hy
    · exact hx
  mimg:=h.mimg
theorem WR.Mh{w:wS}(h:WR w){l:List fV}(c:l.length<=40)(b:∀m∈l,YK m/\(m.taken=false->(dW w.prog m.image).2=0)):WR ⟨w.prog,w.places,l⟩:=
 ⟨h.code,h.many,c,fun m a=>(b m a).1,h.pl,fun m a=>(b m a).2⟩
instance:DecidablePred YK:=fun m=>by unfold YK;infer_instance
theorem sendP_eq{w:wS}(h:WR w)(m:fV):Ak w.bD m=if YK m/\w.bD.length<40 then w.bD++[m]else w.bD:=by
  unfold Ak;have e:dL w.bD=0:=(Ip _).2 ⟨h.YN,h.mok⟩;by_cases b:YK m
  · have c:dL [m]=0:=(Ip _).2 ⟨by simp,fun x d=>by rw[List.mem_singleton]at d;rw[d];exact b⟩;rw[if_neg V];by_cases a:w.bD.length<40
    · rw[if_pos a,if_pos ⟨b,a⟩]
    · rw[if_neg a,if_neg (fun h=>a h.2)]
  · have c:dL [m]≠0:=fun h=>b (((Ip _).1 h).2 m zq3);rw[if_pos (.inr c),if_neg (fun h=>b h.1)]
theorem WR.send{w:wS}(h:WR w){m:fV}(c:m.taken=false->(dW w.prog m.image).2=0):WR ⟨w.prog,w.places,Ak w.bD m⟩:=by
  rw[sendP_eq h];by_cases b:YK m/\w.bD.length<40
  · rw[if_pos b];refine h.Mh (by simp;omega) (fun x a=>?_);rcases List.mem_append.1 a with a|a
    · exact⟨h.mok x a,h.mimg x a⟩
    · rw[List.mem_singleton]at a;subst a;exact⟨b.1,c⟩
  · rw[if_neg b];exact h.Mh h.YN (fun x a=>⟨h.mok x a,h.mimg x a⟩)
theorem WR.drop{w:wS}(h:WR w)(n:Nat):WR ⟨w.prog,w.places,w.bD.take n++w.bD.drop (n+1)⟩:=by
 refine h.Mh (by have:=h.YN;simp;omega) (fun x a=>?_);have:x∈w.bD:=(List.mem_append.1 a).elim List.mem_of_mem_take List.mem_of_mem_drop;exact⟨h.mok x this,h.mimg x this⟩
theorem Jd{k c e a:Int}{s i:List Int}(g:1<=k/\k<=5)(h:0<=c/\c<=2)(f:0<=e/\e<=100)(j:0<=a/\a<=2)(b:∀x∈s,kg x)(d:∀x∈i,kg x):OT ⟨k,c,e,a,s,i⟩:=
 ⟨FD (by simp only;omega),FD (by simp only;omega),FD (by simp only;omega),FD (by simp only;omega),b,d⟩
structure Sliced(p:List bP)(k:Int)(c:Co)(fuel:Int)(r:Rec):Prop where
 w:OT r
 co:r.co=c.lI
 aM:r.aM=c.aM
 runs:c.offered= -1
 how:(r.kind=2/\r.place=0/\(wake (dW p c.image).1).status=0/\r.says=(zI p fuel.toNat [] 0 (wake (dW p c.image).1)).2.1/\r.image=zS (jl (zI p fuel.toNat [] 0 (wake (dW p c.image).1)).1)/\(dW p r.image).2=0)\/(r.kind=3/\(0<=r.place/\r.place<=2)/\r.place≠k/\r.says=[]/\r.image=[])
 img:Img p c.image (dW p c.image).1
theorem slice_ok{p:List bP}(hp:Oy p=0){k:Int}{c:Co}{fuel:Int}{r:Rec}(n:coOk c)(e:sI p k c fuel=(r,0)):Sliced p k c fuel r:=by
  have h:=pU hp;obtain⟨c1,c2,s,j,q,t,-⟩:=n;unfold sI at e;by_cases l:0<=c.offered
  · rw[if_pos l]at e;simp at e
  · rw[if_neg l]at e;by_cases i:(dW p c.image).2=0
    · rw[if_neg V]at e;have g:=img_of hp i;by_cases f:(dW p c.image).1.status=3/\0<=(dW p c.image).1.bO/\(dW p c.image).1.bO<3/\(dW p c.image).1.bO≠k
      · rw[if_pos f]at e;obtain rfl:=congrArg Prod.fst e;exact⟨Jd V ⟨c1,c2⟩ ⟨by omega,j⟩ V (fun x d=>(by cases d)) (fun x d=>(by cases d)),Z,Z,by omega,.inr ⟨Z,by simp only;omega,f.2.2.2,rfl,rfl⟩,g⟩
      · rw[if_neg f]at e;by_cases m:(wake (dW p c.image).1).status=0
        · rw[if_neg V]at e;obtain rfl:=congrArg Prod.fst e;have a:=wake_ok g.st;have o:=(U9 h fuel.toNat [] 0 _ a zq3).1;have b:=img_pack hp o;refine⟨Jd V ⟨c1,c2⟩ ⟨by omega,j⟩ V (run_said h _ _ _ _ a (fun x d=>by cases d)) (img_b h b).1,Z,Z,by omega,.inl ⟨Z,Z,m,Z,Z,by simp only;rw[b.un]⟩,g⟩
        · rw[if_pos m]at e;simp at e
    · rw[if_pos i]at e;exact absurd (congrArg Prod.snd e) i
theorem begin_img{p:List bP}(hp:Oy p=0):Img p (zS (jl (A7 p))) (jl (A7 p)):=img_pack hp (begin_ok (pU hp))
end Pw
open Go Go.Proofs Go.LX
namespace Pw
open Dk
def ansM(m:fV):fV:=⟨m.iX,m.from_,m.co,m.aM,true,[]⟩
def beginR(p:List bP)(k:Int):Rec:=⟨1,k,1,0,[],zS (jl (A7 p))⟩
inductive Ev (w w':wS):Prop
 |begin (k:Int) (x':KT) (hk:0<=k/\k<=2) (up:(iM w k).up=true) (hno:∀r∈mF (iM w k).d,r.kind≠1) (N:Noted w.prog (iM w k) x' (beginR w.prog k)) (hp:w'.places=w.places.set k.toNat x') (hm:w'.bD=w.bD)
 |run (k:Int) (c:Co) (fuel:Int) (r:Rec) (x':KT) (hk:0<=k/\k<=2) (up:(iM w k).up=true) (hc:pV c.lI (iM w k).cos=some c) (hf:1<=fuel/\fuel<=2000) (S:Sliced w.prog k c fuel r) (N:Noted w.prog (iM w k) x' r) (hp:w'.places=w.places.set k.toNat x') (hm:w'.bD=if r.kind=3 then Ak w.bD (QR k ⟨c.lI,c.aM,c.image,r.place⟩)else w.bD)
 |tear (k:Int) (c:Co) (r:Rec) (x':KT) (hk:0<=k/\k<=2) (up:(iM w k).up=true) (hc:pV c.lI (iM w k).cos=some c) (S:Sliced w.prog k c 2000 r) (T:Torn w.prog (iM w k) x' r) (hp:w'.places=w.places.set k.toNat x') (hm:w'.bD=w.bD)
 |send (k:Int) (c:Co) (hk:0<=k/\k<=2) (up:(iM w k).up=true) (hc:pV c.lI (iM w k).cos=some c) (ho:0<=c.offered) (hp:w'.places=w.places) (hm:w'.bD=Ak w.bD (QR k c))
 |gone (m:fV) (c:Co) (x':KT) (hi:m∈w.bD) (ht:m.taken=true) (up:(iM w m.iX).up=true) (hc:pV m.co (iM w m.iX).cos=some c) (he:c.aM=m.aM-1) (ho:c.offered=m.from_) (N:Noted w.prog (iM w m.iX) x' ⟨5,m.co,m.aM-1,0,[],[]⟩) (hp:w'.places=w.places.set m.iX.toNat x') (hm:∀y∈w'.bD,y∈w.bD)
 |take (m:fV) (x':KT) (hi:m∈w.bD) (ht:m.taken=false) (up:(iM w m.iX).up=true) (hno:hadP (iM w m.iX) m.co m.aM=false) (N:Noted w.prog (iM w m.iX) x' ⟨4,m.co,m.aM,0,[],m.image⟩) (hp:w'.places=w.places.set m.iX.toNat x') (hm:∀y∈w'.bD,y∈w.bD\/y=ansM m)
 |again (m:fV) (hi:m∈w.bD) (ht:m.taken=false) (up:(iM w m.iX).up=true) (had:hadP (iM w m.iX) m.co m.aM=true) (hp:w'.places=w.places) (hm:∀y∈w'.bD,y∈w.bD\/y=ansM m)
 |still (hp:w'.places=w.places) (hm:∀y∈w'.bD,y∈w.bD)
 |crash (k:Int) (hk:0<=k/\k<=2) (up:(iM w k).up=true) (hp:w'.places=w.places.set k.toNat ⟨[],(iM w k).d,false⟩) (hm:w'.bD=w.bD)
 |boot (k:Int) (hk:0<=k/\k<=2) (down:(iM w k).up=false) (ok:(sH [] (mF (iM w k).d)).2=0) (hp:w'.places=w.places.set k.toNat ⟨(sH [] (mF (iM w k).d)).1,(QP (iM w k).d).1,true⟩) (hm:w'.bD=w.bD)
theorem boot_disk{d:gH}(h:jr d=0):jr (QP d).1=0/\Gm (QP d).1=mF d/\mF (QP d).1=mF d/\(QP d).1.wait=[]:=by
 have b:=dOk h;rw[b.whole];obtain⟨k1,k2⟩:=dOk_mk (a:=mF d) (w:=[]) b.good b.len (by have:=b.rroom;simp;omega);exact⟨k1,k2,by rw[(dOk k1).still Z,k2],Z⟩
theorem mem_send{w:wS}(h:WR w){m y:fV}(a:y∈Ak w.bD m):y∈w.bD\/y=m:=by
  rw[sendP_eq h]at a;by_cases b:YK m/\w.bD.length<40
  · rw[if_pos b]at a;simpa using a
  · rw[if_neg b]at a;exact .inl a
theorem hear_ev{w w':wS}(h:WR w){i:Int}{t:Bool}(e:Sz w i t=(w',0)):WR w'/\w'.prog=w.prog/\Ev w w':=by
  unfold Sz at e;by_cases B:i<0\/(w.bD.length:Int)<=i
  · rw[if_pos B]at e;simp at e
  · rw[if_neg B]at e;obtain⟨n,rfl⟩:=Int.eq_ofNat_of_zero_le (by omega:0<=i);have hn:n<w.bD.length:=by omega
    have I:(w.bD[n]?).getD Sw=w.bD[n]:=by rw[List.getElem?_eq_getElem hn];rfl
    simp only[Int.toNat_natCast]at e;simp only[I]at e;have a:w.bD[n]∈w.bD:=List.getElem_mem hn;generalize w.bD[n]=m at*;have d:=h.mok m a;by_cases z:(iM w m.iX).up=false
    · rw[if_pos z]at e;simp at e
    · rw[if_neg z]at e;have f:(iM w m.iX).up=true:=by simpa using z
      have o:WR ⟨w.prog,w.places,if t=true then w.bD else w.bD.take n++w.bD.drop (n+1)⟩:=by
        cases t with
        |true=>exact h
        |false=>exact h.drop n
      have b:∀y∈(if t=true then w.bD else w.bD.take n++w.bD.drop (n+1)),y∈w.bD:=by
        intro y p;cases t with
        |true=>exact p
        |false=>exact(List.mem_append.1 p).elim List.mem_of_mem_take List.mem_of_mem_drop
      generalize M:(if t=true then w.bD else w.bD.take n++w.bD.drop (n+1))=L at*;have v:∀k,iM (⟨w.prog,w.places,L⟩:wS) k=iM w k:=fun k=>rfl;simp only[v]at e;have hat:=h.at ⟨d.2.1.1,d.2.1.2⟩;cases ht:m.taken with
      |true=>
        rw[ht]at e;simp only[if_true]at e;cases hf:pV m.co (iM w m.iX).cos with
        |none=>
          rw[hf]at e;cases e;exact⟨o,Z,.still Z b⟩
        |some c=>
          rw[hf]at e;simp only at e;by_cases l:c.aM≠m.aM-1\/c.offered≠m.from_
          · rw[if_pos l]at e;cases e;exact⟨o,Z,.still Z b⟩
          · rw[if_neg l]at e;have E:=congrArg Prod.snd e;have C:=congrArg Prod.fst e;simp only at C E;have N:=V5 (x':=(oF (iM w m.iX) ⟨5,m.co,m.aM-1,0,[],[]⟩).1) (r:=⟨5,m.co,m.aM-1,0,[],[]⟩) hat f (Jd V d.2.2.1 (by have:=d.2.2.2.1;omega) V (fun x q=>(by cases q)) (fun x q=>(by cases q))) (fun h=>by simp only at h;omega) (Prod.ext Z E);subst C;exact⟨o.set N.pl,Z,.gone m c _ a ht f hf V V N Z b⟩
      |false=>
        rw[ht]at e;simp only[Bool.false_eq_true,if_false]at e;have g:∀{u:wS},WR u->WR ⟨u.prog,u.places,Ak u.bD<|ansM m⟩:=fun J=>J.send (fun h=>by cases h);by_cases l:hadP (iM w m.iX) m.co m.aM=true
        · rw[if_pos l]at e;cases e;refine⟨g o,Z,.again m a ht f l Z fun y p=>?_⟩;exact(mem_send o p).imp (b y) id
        · rw[if_neg l]at e;have s:hadP (iM w m.iX) m.co m.aM=false:=by simpa using l
          by_cases A:(oF (iM w m.iX) ⟨4,m.co,m.aM,0,[],m.image⟩).2=0
          · rw[if_neg V]at e;have j:=h.mimg m a ht;have K:=img_of h.code j;have N:=V5 (x':=(oF (iM w m.iX) ⟨4,m.co,m.aM,0,[],m.image⟩).1) (r:=⟨4,m.co,m.aM,0,[],m.image⟩) hat f (Jd V d.2.2.1 (by have:=d.2.2.2.1;omega) V (fun x q=>(by cases q)) (img_b (pU h.code) K).1) (fun _=>j) (Prod.ext Z A);cases e;have G:=o.set (k:=m.iX) N.pl;refine⟨g G,Z,.take m _ a ht f s N Z fun y p=>?_⟩;exact(mem_send G p).imp (b y) id
          · rw[if_pos A]at e;exact absurd (congrArg Prod.snd e) A
theorem run_ev{w w':wS}(h:WR w){x:Hap}(f:0<=x.place/\x.place<=2)(a:(iM w x.place).up=true)(e:runW w x=(w',0)):WR w'/\w'.prog=w.prog/\Ev w w':=by
  unfold runW at e;have hat:=h.at f;cases hf:pV x.co (iM w x.place).cos with
  |none=>rw[hf]at e;simp at e
  |some c=>
    rw[hf]at e;simp only at e;obtain⟨m,o⟩:=Fg hf;rw[<-m]at hf;have j:=hat.good.1.ok c o;generalize d:(if x.kind=9 then(2000:Int)else x.n)=fuel at e;by_cases p:fuel<1\/2000<fuel
    · rw[if_pos p]at e;simp at e
    · rw[if_neg p]at e;by_cases l:(sI w.prog x.place c fuel).2=0
      · rw[if_neg V]at e;have S:=slice_ok h.code (r:=(sI w.prog x.place c fuel).1) j<|Prod.ext Z l;generalize (sI w.prog x.place c fuel).1=r at*;have u:(r.kind=1\/r.kind=2\/r.kind=4)->(dW w.prog r.image).2=0:=by
          rcases S.how with hh|hh
          · exact fun _=>hh.2.2.2.2.2
          · intro h;omega
        by_cases i:x.kind=9
        · rw[if_pos i]at e;rw[if_pos i]at d;subst d;have t:=congrArg Prod.snd e;have q:=congrArg Prod.fst e;simp only at q t;have T:=tear_ok (x':=(Pm (iM w x.place) r x.n).1) hat a S.w<|Prod.ext Z t;subst q;exact⟨h.set T.pl,Z,.tear x.place c r _ f a hf S T Z Z⟩
        · rw[if_neg i]at e;by_cases g:(oF (iM w x.place) r).2=0
          · rw[if_neg V]at e;have N:=V5 (x':=(oF (iM w x.place) r).1) hat a S.w u<|Prod.ext Z g;have s:=h.set (k:=x.place) N.pl;by_cases b:r.kind=3
            · rw[if_pos b]at e;cases e;refine⟨s.send (fun _=>?_),Z,.run x.place c fuel r _ f a hf V S N Z (by rw[if_pos b];rfl)⟩;exact hat.img c o
            · rw[if_neg b]at e;cases e;exact⟨s,Z,.run x.place c fuel r _ f a hf V S N Z (by rw[if_neg b];rfl)⟩
          · rw[if_pos g]at e;exact absurd (congrArg Prod.snd e) g
      · rw[if_pos l]at e;exact absurd (congrArg Prod.snd e) l
theorem step_ev{w w':wS}(h:WR w){x:Hap}(e:mo w x=(w',0)):WR w'/\w'.prog=w.prog/\Ev w w':=by
  unfold mo at e;by_cases B:x.kind=4\/x.kind=5
  · rw[if_pos B]at e;exact hear_ev h e
  · rw[if_neg B]at e;by_cases t:x.kind=6
    · rw[if_pos t]at e;by_cases k:x.n<0\/(w.bD.length:Int)<=x.n
      · rw[if_pos k]at e;simp at e
      · rw[if_neg k]at e;cases e;exact⟨h.drop _,Z,.still Z fun y G=>(List.mem_append.1 G).elim List.mem_of_mem_take List.mem_of_mem_drop⟩
    · rw[if_neg t]at e;by_cases k:x.kind<1\/9<x.kind
      · rw[if_pos k]at e;simp at e
      · rw[if_neg k]at e;have o:=h.many;by_cases s:x.place<0\/(w.places.length:Int)<=x.place
        · rw[if_pos s]at e;simp at e
        · rw[if_neg s]at e;have i:0<=x.place/\x.place<=2:=by omega
          have hat:=h.at i;by_cases v:x.kind=8
          · rw[if_pos v]at e;unfold bootW at e;by_cases j:(iM w x.place).up=true
            · rw[if_pos j]at e;simp at e
            · rw[if_neg j]at e;by_cases g:(sH [] (mF (iM w x.place).d)).2=0
              · rw[if_neg V]at e;by_cases b:JG w.prog (sH [] (mF (iM w x.place).d)).1=0
                · rw[if_neg V]at e;cases e;obtain⟨I,O,K,L⟩:=boot_disk hat.disk;have l:PlR w.prog ⟨(sH []<|mF (iM w x.place).d).1,(QP (iM w x.place).d).1,true⟩:=
                    ⟨I,fun h=>(by cases h),fun _=>L,fun _=>(by simp only[K];rw[<-g]),(YL _ _).1 b⟩
                  exact⟨h.set l,Z,.boot x.place i (by simpa using j) g Z Z⟩
                · rw[if_pos b]at e;exact absurd (congrArg Prod.snd e) b
              · rw[if_pos g]at e;exact absurd (congrArg Prod.snd e) g
          · rw[if_neg v]at e;by_cases j:(iM w x.place).up=false
            · rw[if_pos j]at e;simp at e
            · rw[if_neg j]at e;have a:(iM w x.place).up=true:=by simpa using j
              by_cases g:x.kind=1
              · rw[if_pos g]at e;unfold Vf at e;by_cases b:x.co≠x.place
                · rw[if_pos b]at e;simp at e
                · rw[if_neg b]at e;have q:x.co=x.place:=Decidable.not_not.1 b;by_cases f:(mF (iM w x.place).d).any (fun r=>decide (r.kind=1))=true
                  · rw[if_pos f]at e;simp at e
                  · rw[if_neg f,q]at e;have z:=congrArg Prod.snd e;have u:=congrArg Prod.fst e;simp only at u z;have A:=begin_img h.code;have N:=V5 (x':=(oF (iM w x.place) (beginR w.prog x.place)).1) (r:=beginR w.prog x.place) hat a (Jd V i V V (fun x C=>(by cases C)) (img_b (pU h.code) A).1) (fun _=>by unfold beginR;simp only;rw[A.un]) (Prod.ext rfl z);subst u;refine⟨h.set N.pl,Z,.begin x.place _ i a (fun r M m=>f ?_) N Z Z⟩;exact List.any_eq_true.2 ⟨r,M,by simpa using m⟩
              · rw[if_neg g]at e;by_cases b:x.kind=3
                · rw[if_pos b]at e;unfold Sy at e;cases hf:pV x.co (iM w x.place).cos with
                  |none=>rw[hf]at e;simp at e
                  |some c=>
                    rw[hf]at e;simp only at e;obtain⟨p,E⟩:=Fg hf;rw[<-p]at hf;by_cases f:c.offered<0
                    · rw[if_pos f]at e;simp at e
                    · rw[if_neg f]at e;cases e;exact⟨h.send fun _=>hat.img c E,Z,.send x.place c i a hf V Z Z⟩
                · rw[if_neg b]at e;by_cases f:x.kind=7
                  · rw[if_pos f]at e;cases e;exact⟨h.set ⟨hat.disk,fun _=>rfl,fun h=>(by cases h),fun h=>(by cases h),fun c J=>(by cases J)⟩,Z,.crash x.place i a Z Z⟩
                  · rw[if_neg f]at e;exact run_ev h i a e
end Pw
open Go Go.Proofs Go.LX
namespace Pw
open Dk
def On(k:Int):Prop:=0<=k/\k<=2
end Pw
open Go Go.Proofs Go.LX
namespace Pw
open Dk
theorem pAt_places{w w':wS}{k:Int}{x:KT}(b:On k)(c:w.places.length=3)(h:w'.places=w.places.set k.toNat x):∀j,iM w' j=if j=k then x else iM w j:=by
  intro j;obtain⟨n,rfl⟩:=Int.eq_ofNat_of_zero_le b.1;have hn:n<w.places.length:=by have:=b.2;omega
  unfold iM;rw[h,Int.toNat_natCast];by_cases a:0<=j
  · obtain⟨m,rfl⟩:=Int.eq_ofNat_of_zero_le a;rw[kC,kC,List.getElem?_set];by_cases e:n=m
    · subst e;rw[if_pos rfl,if_pos hn,if_pos rfl];rfl
    · rw[if_neg e,if_neg V]
  · unfold idx;rw[if_neg a,if_neg a,if_neg V]
end Pw
open Go Go.Proofs Go.LX
namespace Pw
open Dk
theorem setP_self{w:wS}{k:Int}(h:0<=k/\k<w.places.length):BI w k (iM w k)=w:=by
  have:=(pAt_eq h).2.2;unfold BI;have e:w.places.set k.toNat (iM w k)=w.places:=by
    apply List.ext_getElem?;intro i;rw[List.getElem?_set];by_cases a:k.toNat=i
    · subst a;rw[if_pos rfl,if_pos (List.getElem?_eq_some_iff.1 this).1,this]
    · rw[if_neg a]
  rw[e]
theorem send_cases(l:List fV)(m:fV):Ak l m=l\/Ak l m=l++[m]:=by
  unfold Ak;split
  · exact .inl Z
  · split
    · exact .inr Z
    · exact .inl Z
def SA(w:wS)(x:Hap):List fV:=if x.kind=4\/x.kind=6 then w.bD.take x.n.toNat++w.bD.drop (x.n.toNat+1)else w.bD
def atP(w:wS)(x:Hap):Int:=if x.kind=4\/x.kind=5\/x.kind=6 then((w.bD[x.n.toNat]?).getD Sw).iX else x.place
theorem keeps{w y:wS}(h:WR w){x:Hap}(e:mo w x=(y,0)):(∀j,On j->(j≠atP w x\/x.kind=6)->iM y j=iM w j)/\(y.bD=SA w x\/∃m,y.bD=SA w x++[m]):=by
  have t:=h.many;have hset:∀{L:List fV} {k:Int} {x':KT} {j:Int},On k->On j->j≠k->iM (⟨w.prog,w.places.set k.toNat x',L⟩:wS) j=iM w j:=by
    intro L k x' j o g b;have:=pAt_places (w:=w) (w':=⟨w.prog,w.places.set k.toNat x',L⟩) o t Z j;rw[this,if_neg b]
  have c:∀{L L':List fV} {m:fV},L'=Ak L m->L'=L\/∃m,L'=L++[m]:=by
    intro L L' m d;rcases send_cases L m with p|p
    · exact .inl<|d.trans p
    · exact .inr ⟨m,d.trans p⟩
  unfold mo at e;by_cases p:x.kind=4\/x.kind=5
  · rw[if_pos p]at e;have hat:atP w x=((w.bD[x.n.toNat]?).getD Sw).iX:=if_pos V;have a:SA w x=if(decide<|x.kind=5)=true then w.bD else w.bD.take x.n.toNat++w.bD.drop (x.n.toNat+1):=by
      unfold SA;by_cases s:x.kind=5
      · rw[if_neg V,if_pos (by simpa using s)]
      · rw[if_pos V,if_neg (by simpa using s)]
    rw[hat,a];unfold Sz at e;by_cases i:x.n<0\/(w.bD.length:Int)<=x.n
    · rw[if_pos i]at e;simp at e
    · rw[if_neg i]at e;simp only at e;have q:(w.bD[x.n.toNat]?).getD Sw∈w.bD:=by
        rw[List.getElem?_eq_getElem (show x.n.toNat<w.bD.length by omega)];exact List.getElem_mem _
      generalize (w.bD[x.n.toNat]?).getD Sw=m at*;generalize (if(decide (x.kind=5))=true then w.bD else w.bD.take x.n.toNat++w.bD.drop (x.n.toNat+1))=L at*;have o:On m.iX:=(h.mok m q).2.1;have u:¬x.kind=6:=by omega
      by_cases r:(iM w m.iX).up=false
      · rw[if_pos r]at e;simp at e
      · rw[if_neg r]at e;by_cases v:m.taken=true
        · rw[if_pos v]at e;split at e
          · cases e;exact⟨fun j _ _=>rfl,.inl Z⟩
          · split at e
            · cases e;exact⟨fun j _ _=>rfl,.inl Z⟩
            · have l:=congrArg Prod.fst e;simp only at l;subst l;exact⟨fun j g b=>hset o g<|b.resolve_right u,.inl Z⟩
        · rw[if_neg v]at e;split at e
          · cases e;exact⟨fun j _ _=>rfl,c Z⟩
          · split at e
            · rename_i d;exact absurd (congrArg Prod.snd e) d
            · cases e;exact⟨fun j g b=>hset o g<|b.resolve_right u,c Z⟩
  · rw[if_neg p]at e;by_cases i:x.kind=6
    · rw[if_pos i]at e;have a:SA w x=w.bD.take x.n.toNat++w.bD.drop (x.n.toNat+1):=if_pos<|.inr i;rw[a];split at e
      · simp at e
      · cases e;exact⟨fun j _ _=>rfl,.inl Z⟩
    · rw[if_neg i]at e;have hat:atP w x=x.place:=if_neg V;have a:SA w x=w.bD:=if_neg V;rw[hat,a];by_cases r:x.kind<1\/9<x.kind
      · rw[if_pos r]at e;simp at e
      · rw[if_neg r]at e;by_cases z:x.place<0\/(w.places.length:Int)<=x.place
        · rw[if_pos z]at e;simp at e
        · rw[if_neg z]at e;have o:On x.place:=⟨by omega,by omega⟩;have one:∀{x':KT} {L:List fV} {m:fV},L=Ak w.bD m->(∀j,On j->(j≠x.place\/x.kind=6)->iM (⟨w.prog,w.places.set x.place.toNat x',L⟩:wS) j=iM w j)/\(L=w.bD\/∃m,L=w.bD++[m]):=
            fun A=>⟨fun j g b=>hset o g (b.resolve_right i),c A⟩
          have f:∀{x':KT},(∀j,On j->(j≠x.place\/x.kind=6)->iM (BI w x.place x') j=iM w j)/\((BI w x.place x').bD=w.bD\/∃m,(BI w x.place x').bD=w.bD++[m]):=
            fun{x'}=>⟨fun j g b=>hset o g (b.resolve_right i),.inl Z⟩
          by_cases s:x.kind=8
          · rw[if_pos s]at e;unfold bootW at e;split at e
            · simp at e
            · split at e
              · rename_i d;exact absurd (congrArg Prod.snd e) d
              · split at e
                · rename_i d;exact absurd (congrArg Prod.snd e) d
                · cases e;exact f
          · rw[if_neg s]at e;split at e
            · simp at e
            · split at e
              · unfold Vf at e;split at e
                · simp at e
                · split at e
                  · simp at e
                  · have l:=congrArg Prod.fst e;simp only at l;subst l;exact f
              · split at e
                · unfold Sy at e;split at e
                  · simp at e
                  · split at e
                    · simp at e
                    · cases e;exact⟨fun j _ _=>rfl,c Z⟩
                · split at e
                  · cases e;exact f
                  · unfold runW at e;split at e
                    · simp at e
                    · simp only at e;generalize (if x.kind=9 then(2000:Int)else x.n)=fuel at e;split at e
                      · simp at e
                      · split at e
                        · rename_i d;exact absurd (congrArg Prod.snd e) d
                        · split at e
                          · have l:=congrArg Prod.fst e;simp only at l;subst l;exact f
                          · split at e
                            · rename_i d;exact absurd (congrArg Prod.snd e) d
                            · split at e
                              · cases e;exact one Z
                              · cases e;exact f
end Pw
end Go.Proofs.YtodkbibbgakkdaaGreatDoor