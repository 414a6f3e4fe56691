/-
  What the law WorldParts needs of our own library and of the walks, no more.
-/
import Derived.Test.YtodkbibbgakkdaaGreatDoorWorldPartsTg
set_option linter.unusedSimpArgs false
set_option linter.unusedVariables false
set_option maxRecDepth 10000
namespace Go.Proofs.YtodkbibbgakkdaaGreatDoor
open Go Go.Proofs Go.LX
noncomputable section
abbrev preL:List (Int×Str):=[(2,[118]),(4,[46]),(5,[110,101,119]),(6,[102]),(1,[])]
theorem bnd{α β:Type}(a:α)(f:α->Option β):(some a).bind f=f a:=rfl
theorem find_uniq{α σ:Type}{g:α->Option σ}{l:List α}(c:∀p∈l,∀q∈l,g p≠none->g q≠none->p=q){p:α}(hp:p∈l){t:σ}(h:g p=some t):l.findSome? g=some t:=by
 cases e:l.findSome? g with
 |none=>
  rw[List.findSome?_eq_none_iff]at e;rw[e p hp]at h;cases h
 |some u=>
  obtain⟨q,b,a⟩:=List.exists_of_findSome?_eq_some e;have:=c p hp q b (by rw[h];simp) (by rw[a];simp);subst this;rw[h]at a;exact a.symm
theorem fold_none{α σ:Type}{step:α->σ->Option σ}{g:α->Option σ}:∀{l:List α},(∀p∈l,∀s,step p s=some ((g p).getD s))->(∀p∈l,g p=none)->∀s,Xc step l s=some s
 |[],_,_,s=>rfl
 |p::l,h,hn,s=>by
  unfold Xc;rw[h p zq3,hn p zq3,Option.getD_none,bnd];exact fold_none (fun q a=>h q<|List.mem_cons_of_mem _ a) (fun q a=>hn q<|List.mem_cons_of_mem _ a) s
theorem fold_find{α σ:Type}{step:α->σ->Option σ}{g:α->Option σ}:∀{l:List α},(∀p∈l,∀s,step p s=some ((g p).getD s))->(∀p∈l,∀q∈l,g p≠none->g q≠none->p=q)->l.Nodup->∀s,Xc step l s=some ((l.findSome? g).getD s)
  |[],_,_,_,s=>rfl
  |p::l,h,hu,hn,s=>by
    unfold Xc;rw[h p zq3,bnd];have d:=List.nodup_cons.1 hn;cases e:g p with
    |none=>
      rw[Option.getD_none,fold_find (fun q c=>h q (List.mem_cons_of_mem _ c)) (fun a f b i=>hu a (List.mem_cons_of_mem _ f) b (List.mem_cons_of_mem _ i)) d.2 s,List.findSome?_cons,e]
    |some t=>
      rw[Option.getD_some,fold_none (fun q c=>h q (List.mem_cons_of_mem _ c)) (fun q c=>?_) t,List.findSome?_cons,e]
      · rfl
      · cases e2:g q with
        |none=>rfl
        |some u=>
          have:=hu p zq3 q (List.mem_cons_of_mem _ c) (by rw[e];simp) (by rw[e2];simp);subst this;exact absurd c d.1
theorem folds_one{α σ:Type}{step:α->σ->Option σ}{g:α->Option σ}{L:List α}(h:∀p∈L,∀s,step p s=some ((g p).getD s))(c:∀p∈L,∀q∈L,g p≠none->g q≠none->p=q)(hn:L.Nodup)(s:σ):AR step L s ((L.findSome? g).getD s):=by
 intro l a;rw[fold_find (fun p hp=>h p (a.mem_iff.1 hp)) (fun p hp q b=>c p (a.mem_iff.1 hp) q (a.mem_iff.1 b)) (a.nodup_iff.2 hn) s];congr 2;cases e:L.findSome? g with
 |none=>
  rw[List.findSome?_eq_none_iff]at e⊢;exact fun x d=>e x<|a.mem_iff.1 d
 |some t=>
  obtain⟨p,hp,f⟩:=List.exists_of_findSome?_eq_some e;exact find_uniq (fun p hp q b=>c p (a.mem_iff.1 hp) q<|a.mem_iff.1 b) (a.mem_iff.2 hp) f
def joO(a:Int×Str)(y:Int×Bool)(x:Bool):Option (Int×Int):=bif x then some (a.1,y.1)else none
def stepO(s:Str)(b:Int×Str):Option (Option (Int×Int)):=
 (strings_TrimPrefix s b.2).bind fun d=>(Jc d).bind fun a=>bif (!a.2)then(oh (⟨b.1,a.1⟩:Tok)).bind fun c=>some (joO b a (decide ((c:Str)=s)))else some (joO b a false)
theorem j227_eq(c:Int×Str)(y:Int×Bool)(a b:Int)(x:Bool):CB c y a b x=some ((joO c y x).getD (a,b)):=by
 unfold CB joO;cases x<;>rfl
theorem b228_eq(s:Str)(c:Int×Str)(st:Int×Int):wO s c st=(stepO s c).bind fun o=>some (o.getD st):=by
 obtain⟨a,b⟩:=st;unfold wO stepO;simp only[j227_eq];cases strings_TrimPrefix s c.2 with
 |none=>rfl
 |some y=>
  simp only[bnd];cases Jc y with
  |none=>rfl
  |some z=>
   simp only[bnd];cases z.2 with
   |true=>rfl
   |false=>
    simp only[Bool.not_false,cond_true];cases oh (⟨c.1,z.1⟩:Tok)<;>rfl
def gO(s:Str)(p:Int×Str):Option (Int×Int):=(stepO s p).join
def okW(s:Str):Bool:=preL.all (fun p=>(stepO s p).isSome)&&preL.all (fun p=>preL.all fun q=>(gO s p).isNone||(gO s q).isNone||decide (p=q))
def preC(s:Str):Int×Int:=(preL.findSome? (gO s)).getD (0,0)
theorem fold_ok{s:Str}(h:okW s=true):Jh (wO s) preL (0,0)=some (preC s):=by
  unfold okW at h;rw[Bool.and_eq_true,List.all_eq_true,List.all_eq_true]at h;refine foldAny_eq<|folds_one (g:=gO s) (fun p hp st=>?_) (fun p hp q b a c=>?_) zq1 (0,0)
  · have a:=h.1 p hp;rw[b228_eq];unfold gO;cases e:stepO s p with
    |none=>rw[e]at a;cases a
    |some o=>cases o<;>rfl
  · have:=List.all_eq_true.1 (h.2 p hp) q b;rw[Bool.or_eq_true,Bool.or_eq_true]at this;rcases this with(e|e)|e
    · exact absurd (Option.isNone_iff_eq_none.1 e) a
    · exact absurd (Option.isNone_iff_eq_none.1 e) c
    · exact Xi e
def foldC(s:Str):Option (Int×Int):=bif okW s then some (preC s)else Jh (wO s) preL (0,0)
theorem foldC_eq(s:Str):foldC s=Jh (wO s) preL (0,0):=by
 unfold foldC;cases e:okW s with
 |false=>rfl
 |true=>exact(fold_ok e).symm
def EM(N:Nat)(g:List Tok)(a:List iZ)(f:Int)(e:(List Tok×Int×Bool×Int)->Option (List Tok×gB))(c:Str)(h:Bool)(d:Int):Option (List Tok×gB):=
 (foldC c).bind fun b=>(R3 N c g a d f e h) b
theorem YO: @EM= @CE:=by
 funext a b c d e f g h;unfold EM CE;rw[foldC_eq]
def JW(N:Nat)(a:List Str)(b:List iZ)(s:List Tok×Int×Bool×Int)(d:List Tok×Int×Bool×Int->Option (List Tok×gB)):Option (List Tok×gB):=
 match s with|(pq,yR,VY,y20)=>bif (decide ((0:Int)<yR)&&VY)then bif decide (((a.length:Int):Int)<=y20)then EM N pq b yR d [] false y20 else iF (ku (y20+1)) (iF (ku ((y20+1)-1)) ((idx a ((y20+1)-1)).bind fun c=>EM N pq b yR d c VY (y20+1)))else some (pq,(⟨y20,VY⟩:gB))
theorem YP: @JW= @CF:=by
 unfold JW CF;rw[YO]
def SX(N:Nat)(c:gB)(a:List Str)(b:List iZ):Option (List Tok×gB):=
 again (JW N a b) N ([],1,c.ok,c.at_)
theorem srdExpr_p: @SX= @R4:=by
 unfold SX R4;rw[YP]
def EN(N:Nat)(h:gB->List Str->List iZ->Int->Option (List di×gB))(d:Int)(c:List Str)(b:List iZ)(a:Int)(k:List di)(i:Int)(f:(List di×Int×Bool)->Option (List di×gB))(g:Int)(j:Bool)(l:List Tok):Option (List di×gB):=
 bif decide (((d+1):Int)=2)then(SX N (⟨g,j⟩:gB) c b).bind fun e=>CG h d a c b k i l f e.2.at_ e.2.ok e.1 else CG h d a c b k i l f g j []
theorem YQ: @EN= @CJ:=by
 unfold EN CJ;rw[srdExpr_p]
def AB(N:Nat)(h:gB->List Str->List iZ->Int->Option (List di×gB))(e:Int)(c:List Str)(b:List iZ)(a:Int)(k:List di)(f:(List di×Int×Bool)->Option (List di×gB))(g:Int)(i:Bool)(j:Int):Option (List di×gB):=
 bif decide (((e+1):Int)≠4)then(SX N (⟨g,i⟩:gB) c b).bind fun d=>EN N h e c b a k j f d.2.at_ d.2.ok d.1 else EN N h e c b a k j f g i []
theorem YR: @AB= @zB:=by
 unfold AB zB;rw[srdExpr_p,YQ]
def EO(N:Nat)(m:gB->List Str->List iZ->Int->Option (List di×gB))(k:List di)(c:List Str)(b:List iZ)(a:Int)(l:(List di×Int×Bool)->Option (List di×gB))(j:Str)(d:Int)(e:Bool):Option (List di×gB):=
 bif decide ((j:Str)=[125])then some (k,(⟨d,e⟩:gB))else(RH [115,101,116,32,112,117,116,32,115,97,121,32,112,97,117,115,101,32,103,111,32,105,102,32,119,104,105,108,101,32,114,101,116,117,114,110]).bind fun n=>(slices_Index_string n j).bind fun f=>iF (ku (f+1)) (bif (!(e&&decide ((0:Int)<(f+1))))then some ([],(⟨d,(e&&decide ((0:Int)<(f+1)))⟩:gB))else bif decide (((f+1):Int)<=2)then bif decide (((c.length:Int):Int)<=d)then(Jc []).bind fun i=>AB N m f c b a k l d false i.1 else iF (ku (d+1)) (iF (ku ((d+1)-1)) ((idx c ((d+1)-1)).bind fun g=>(Jc g).bind fun h=>AB N m f c b a k l (d+1) (e&&decide ((0:Int)<(f+1))) h.1))else AB N m f c b a k l d (e&&decide ((0:Int)<(f+1))) 0)
theorem YS: @EO= @CK:=by
 unfold EO CK;rw[YR]
def JX(N:Nat)(e:gB->List Str->List iZ->Int->Option (List di×gB))(b:List Str)(c:List iZ)(a:Int)(s:List di×Int×Bool)(d:List di×Int×Bool->Option (List di×gB)):Option (List di×gB):=
 match s with|(qY,Nq,Gq)=>bif Gq then bif decide (((b.length:Int):Int)<=Nq)then EO N e qY b c a d [] Nq false else iF (ku (Nq+1)) (iF (ku ((Nq+1)-1)) ((idx b ((Nq+1)-1)).bind fun f=>EO N e qY b c a d f (Nq+1) Gq))else some ([],(⟨Nq,Gq⟩:gB))
theorem YT: @JX= @CL:=by
 unfold JX CL;rw[YS]
def GI(N:Nat)(f:gB->List Str->List iZ->Int->Option (List di×gB))(b:List Str)(c:List iZ)(a:Int)(d:Int)(e:Bool):Option (List di×gB):=
 again (JX N f b c a) N ([],d,e)
theorem ZZ: @GI= @Fe:=by
 unfold GI Fe;rw[YT]
def EP(N:Nat)(e:gB->List Str->List iZ->Int->Option (List di×gB))(b:List Str)(c:List iZ)(a:Int)(g:Bool)(f:Int)(d:Bool):Option (List di×gB):=
 bif g then GI N e b c a f false else GI N e b c a f d
theorem YU: @EP= @CO:=by
 unfold EP CO;rw[ZZ]
def Jy(N:Nat)(f:gB->List Str->List iZ->Int->Option (List di×gB))(d:gB)(b:List Str)(c:List iZ)(a:Int):Option (List di×gB):=
 bif decide (((b.length:Int):Int)<=d.at_)then EP N f b c a true d.at_ false else iF (ku (d.at_+1)) (iF (ku ((d.at_+1)-1)) ((idx b ((d.at_+1)-1)).bind fun e=>EP N f b c a (decide ((e:Str)≠[123])||decide ((6:Int)<a)) (d.at_+1) d.ok))
theorem srdBlock_r_p: @Jy= @Hq:=by
 unfold Jy Hq;rw[YU]
def Lc:Nat->gB->List Str->List iZ->Int->Option (List di×gB)
 |0=>fun _ _ _ _=>none
 |N+1=>Jy N (Lc N)
theorem YV:∀N,Lc N=Ff N
 |0=>rfl
 |N+1=>by show Jy N (Lc N)=Hq N (Ff N);rw[srdBlock_r_p,YV N]
def mZ(N:Nat)(f:List Str)(c:List iZ)(a:Int)(e:(List iZ×Int×Bool)->Option (List iZ×Int))(g:Int)(b:Bool):Option (List iZ×Int):=
 (Lc N (⟨g,b⟩:gB) f c 1).bind fun d=>(idx c a).bind fun h=>e ((c.set (a).toNat {h with body:=d.1}),d.2.at_,d.2.ok)
theorem FW: @mZ= @lq:=by
 unfold mZ lq;rw[show @Lc= @Ff from funext YV]
def ng(N:Nat)(d:List Str)(g:List iZ)(a:Int)(f:(List iZ×Int×Bool)->Option (List iZ×Int))(b:Int)(c:Bool):Option (List iZ×Int):=
 bif decide (((d.length:Int):Int)<=b)then mZ N d g a f b false else iF (ku (b+1)) (iF (ku ((b+1)-1)) ((idx d ((b+1)-1)).bind fun e=>mZ N d g a f (b+1) c))
theorem FX: @ng= @lu:=by
 unfold ng lu;rw[FW]
def ni(N:Nat)(d:List Str)(g:List iZ)(a:Int)(e:(List iZ×Int×Bool)->Option (List iZ×Int))(b:Int)(c:Bool):Option (List iZ×Int):=
 bif decide (((d.length:Int):Int)<=b)then ng N d g a e b false else iF (ku (b+1)) (iF (ku ((b+1)-1)) ((idx d ((b+1)-1)).bind fun f=>ng N d g a e (b+1) c))
theorem FY: @ni= @lv:=by
 unfold ni lv;rw[FX]
def nk(N:Nat)(d:List Str)(g:List iZ)(a:Int)(f:(List iZ×Int×Bool)->Option (List iZ×Int))(c:Bool)(e:Int)(b:Bool):Option (List iZ×Int):=
 bif c then ni N d g a f e false else ni N d g a f e b
theorem FZ: @nk= @lC:=by
 unfold nk lC;rw[FY]
def qM(N:Nat)(c:List Str)(a:Int)(s:List iZ×Int×Bool)(d:List iZ×Int×Bool->Option (List iZ×Int)):Option (List iZ×Int):=
 match s with|(Ao,y98,y99)=>bif decide (((c.length:Int):Int)<=y98)then nk N c Ao a d true y98 false else iF (ku (y98+1)) (iF (ku ((y98+1)-1)) ((idx c ((y98+1)-1)).bind fun b=>nk N c Ao a d (decide ((b:Str)≠[102,117,110])) (y98+1) y99))
theorem F3: @qM= @nO:=by
 unfold qM nO;rw[FZ]
def qN(N:Nat)(b:List Str)(a:Str)(c:List iZ)(s:Unit):Option (List iZ×Int):=
 upto (qM N b) (rP N b a) 0 ((c.length:Int)).toNat (c,0,true)
theorem F4: @qN= @nP:=by
 unfold qN nP;rw[F3]
def qO(N:Nat)(c:List Str)(a:Str)(b:List iZ):Option (List iZ×Int):=
 bif (decide (((b.length:Int):Int)=0)||decide ((4:Int)<(b.length:Int)))then some ([],1)else upto (rQ b) (qN N c a b) 0 ((b.length:Int)).toNat ()
theorem F5: @qO= @nQ:=by
 unfold qO nQ;rw[F4]
def wm(N:Nat)(a:Str):Option (List iZ×Int):=
 (P9 a [32]).bind fun b=>fM (rR b) (qO N b a) 0 b []
theorem JY: @wm= @qI:=by
 unfold wm qI;rw[F5]
def zo(N:Nat):Option (List iZ):=
 (wm N [102,117,110,32,48,32,49,32,123,32,115,101,116,32,48,32,51,32,119,104,105,108,101,32,118,48,32,123,32,115,97,121,32,102,49,32,118,48,32,118,48,32,103,111,32,118,48,32,112,97,117,115,101,32,115,101,116,32,48,32,45,32,118,48,32,49,32,125,32,125,32,102,117,110,32,50,32,50,32,123,32,114,101,116,117,114,110,32,42,32,118,48,32,118,49,32,125]).bind fun a=>some a.1
theorem MR: @zo= @qA:=by
 unfold zo qA;rw[JY]
abbrev NN:Nat:=70000
theorem program_p:qA NN=zo NN:=by rw[MR]
end
open Go Go.Proofs Go.LX
theorem eqInt(a b:List Int):slices_Equal_int a b=some (decide (a=b)):=by
  unfold slices_Equal_int;by_cases h:a.length=b.length
  · rw[dF V];simp only[cond_false,Int.toNat_natCast];rw[OB (fun x y=>decide (x=y)) a b h rfl (fun i x y f c d=>by
      unfold vo;rw[kD,kD,c,d];by_cases e:x=y<;>simp[e]),Cc (fun _ _=>rfl)]
  · rw[dT V];have:a≠b:=fun e=>h (by rw[e]);rw[dF this];rfl
theorem SY(a b:Int):(decide (a<0)||decide (b<=a))= !bE a b:=by
 unfold bE;rw[Bool.eq_iff_iff];simp;try omega
theorem idx0{α:Type}(x:α)(l:List α):idx (x::l) 0=some x:=by simp[idx]
theorem len_one{l:List Int}:l.length=1↔∃x,l=[x]:=by
 match l with
 |[]=>simp
 |[x]=>simp
 |x::y::r=>simp
def JZ(i:Nat)(x:bL):Int:=
 if(0<=x.params/\x.params<=3)/\(1<=x.regs/\x.params<=x.regs/\x.regs<=40)/\¬(i=0/\x.params≠0)then(if 1<=x.code.length/\x.code.length<=2000 then 0 else 2)else 3
theorem b39_eq(i:Nat)(x:bL)(a:Unit->Option Int):nT (i:Int) x () a=if JZ i x≠0 then some (JZ i x)else a ():=by
  unfold nT JZ;by_cases b:(0<=x.params/\x.params<=3)/\(1<=x.regs/\x.params<=x.regs/\x.regs<=40)/\¬(i=0/\x.params≠0)
  · have e:(((((decide ((x.params:Int)<0)||decide ((3:Int)<x.params))||decide ((x.regs:Int)<1))||decide ((x.regs:Int)<x.params))||decide ((40:Int)<x.regs))||(decide ((i:Int)=0)&&decide ((0:Int)<x.params)))=false:=by
      simp only[Bool.or_eq_false_iff,Bool.and_eq_false_iff,decide_eq_false_iff_not];omega
    rw[e,if_pos b];simp only[cond_false];by_cases c:1<=x.code.length/\x.code.length<=2000
    · rw[if_pos c,show(decide (((x.code.length:Int):Int)=0)||decide ((2000:Int)<(x.code.length:Int)))=false by simp only[Bool.or_eq_false_iff,decide_eq_false_iff_not];omega];rfl
    · rw[if_neg c,show(decide (((x.code.length:Int):Int)=0)||decide ((2000:Int)<(x.code.length:Int)))=true by simp only[Bool.or_eq_true,decide_eq_true_eq];omega];rfl
  · have e:(((((decide ((x.params:Int)<0)||decide ((3:Int)<x.params))||decide ((x.regs:Int)<1))||decide ((x.regs:Int)<x.params))||decide ((40:Int)<x.regs))||(decide ((i:Int)=0)&&decide ((0:Int)<x.params)))=true:=by
      simp only[Bool.or_eq_true,Bool.and_eq_true,decide_eq_true_eq];omega
    rw[e,if_neg b];rfl
def heads:Nat->List bL->Int
 |_,[]=>0
 |i,x::p=>if JZ i x≠0 then JZ i x else heads (i+1) p
theorem YW(k:Unit->Option Int):∀(p:List bL) (i:Nat),fM nT k (i:Int) p ()=if heads i p≠0 then some (heads i p)else k ()
 |[],i=>by simp[heads,fM]
 |x::p,i=>by
  show nT (i:Int) x () (fM nT k ((i:Int)+1) p)=_;rw[b39_eq,show((i:Int)+1)=((i+1:Nat):Int) by omega,YW k p (i+1),heads];by_cases h:JZ i x=0<;>simp[h]
def sU(x:bL):Prop:=1<=x.code.length/\x.code.length<=2000
theorem iC{α σ ρ:Type}{body:α->σ->(σ->ρ)->ρ}{k:σ->ρ}(x:α)(l:List α)(s:σ):each body k (x::l) s=body x s (each body k l):=rfl
theorem b8_tot(d:Int):∀l:List Int,∃y,each (xJ d) EI l ()=some y
 |[]=>⟨0,rfl⟩
 |x::l=>by
  obtain⟨y,a⟩:=b8_tot d l;rw[iC];unfold xJ;cases (!(decide ((0:Int)<=x)&&decide ((x:Int)<d)))with
  |true=>exact⟨3,rfl⟩
  |false=>exact⟨y,a⟩
theorem j5_tot(i:Bool)(a:Ins)(b k:Int)(c:List bL)(e f d j:Int):∃y,iw i a b k c e f d j=some y/\(y=0->(a.args.length:Int)=f):=by
 unfold iw;cases i with
 |false=>exact⟨3,rfl,fun h=>absurd h zq1⟩
 |true=>
  simp only[Bool.not_true,cond_false];generalize g:(((decide ((a.a:Int)≠j)||decide ((a.b:Int)≠k))||decide ((a.c:Int)≠e))||decide (((a.args.length:Int):Int)≠f))=C;cases C with
  |true=>exact⟨4,rfl,fun h=>absurd h zq1⟩
  |false=>
   simp only[Bool.or_eq_false_iff,decide_eq_false_iff_not,Decidable.not_not]at g;simp only[cond_false];cases decide ((a.op:Int)=7)with
   |true=>obtain⟨y,l⟩:=b8_tot d a.args;exact⟨y,l,fun _=>g.2⟩
   |false=>exact⟨0,rfl,fun _=>g.2⟩
theorem j4_tot(a:Ins)(b:Int)(c:List bL)(d:Int)(g:Bool)(f i h e:Int):∃y,dZ a b c d g f i h e=some y/\(y=0->(a.args.length:Int)=f):=by
 unfold dZ;cases decide ((a.op:Int)=12)with
 |true=>exact j5_tot g a b h c e f d 0
 |false=>exact j5_tot g a b h c e f d i
def InsT(a:Ins)(r:Option Int):Prop:=∃y,r=some y/\(y=0->a.args.length<=3)
theorem Z0(a:Ins)(b:Int)(c:List bL)(d:Int)(g:Bool){f:Int}(i j e:Int)(h:f<=3):InsT a (dZ a b c d g f i j e):=by
 obtain⟨y,l,m⟩:=j4_tot a b c d g f i j e;exact⟨y,l,fun k=>by have:=m k;omega⟩
theorem xB{a:Ins}{c:Bool}{x y:Option Int}(b:InsT a x)(d:InsT a y):InsT a (bif c then x else y):=by
  cases c
  · exact d
  · exact b
theorem YX{a:Ins}{e:Int}(h:e≠0):InsT a (some e):=⟨e,rfl,fun b=>absurd b h⟩
theorem check_ins(a:Ins)(b:Int)(c:List bL)(d e:Int)(hp:∀x∈c,x.params<=3):InsT a (kH a b c d e):=by
  unfold kH;refine xB (YX zq1)<|xB (YX zq1)<|xB (Z0 _ _ _ _ _ _ _ _ zq1)<|xB (Z0 _ _ _ _ _ _ _ _ zq1) ?_;have f:∀x,InsT a (fP a b c d x):=fun x=>by
    unfold fP;exact xB (Z0 _ _ _ _ _ _ _ _ zq1)<|xB (Z0 _ _ _ _ _ _ _ _ zq1)<|Z0 _ _ _ _ _ _ _ _ zq1
  have g:∀x,InsT a (gq a b c d e x):=fun x=>by
    unfold gq;refine xB (Z0 _ _ _ _ _ _ _ _ zq1) ?_;cases decide ((a.op:Int)=7)with
    |false=>
      rw[cond_false];exact xB (f _)<|xB (f _)<|f _
    |true=>
      simp only[cond_true];rw[SY];cases hb:bE a.b (c.length:Int)with
      |false=>exact YX zq1
      |true=>
        simp only[Bool.not_true,cond_false];unfold bE at hb;simp only[Bool.and_eq_true,decide_eq_true_eq]at hb;obtain⟨n,hn⟩:=Int.eq_ofNat_of_zero_le hb.1;rw[hn,wI V,Option.bind_some];exact Z0 _ _ _ _ _ _ _ _<|hp _<|List.getElem_mem _
  have h:∀x,InsT a (gu a b c d e x):=fun x=>by
    unfold gu;refine xB (Z0 _ _ _ _ _ _ _ _ zq1) ?_;cases decide ((a.op:Int)=3)with
    |false=>
      rw[cond_false];exact xB (g _)<|g _
    |true=>
      simp only[cond_true];by_cases j:a.args.length=1
      · rw[dT (show((a.args.length:Int):Int)=1 by omega)];obtain⟨y,i⟩:=len_one.1 j;simp only[cond_true];rw[show idx a.args 0=some y by rw[i,idx0],Option.bind_some];exact Z0 _ _ _ _ _ _ _ _ zq1
      · rw[dF (show¬((a.args.length:Int):Int)=1 by omega)];exact Z0 _ _ _ _ _ _ _ _ zq1
  exact xB (h _)<|h _
def Good(a:List bL):Prop:=a.length<=4/\∀x∈a,sU x/\∀c∈x.code,c.args.length<=3
theorem headOk_zero{i:Nat}{x:bL}(h:JZ i x=0):x.params<=3/\sU x:=by
  unfold JZ at h;split at h
  · split at h
    · exact⟨by omega,by unfold sU;omega⟩
    · cases h
  · cases h
theorem YY:∀(p:List bL) (i:Nat),heads i p=0->∀x∈p,x.params<=3/\sU x
  |[],_,_,x,hx=>by cases hx
  |y::p,i,h,x,hx=>by
    unfold heads at h;split at h
    · rename_i a;exact absurd h a
    · rename_i a;rcases List.mem_cons.1 hx with rfl|hx
      · exact headOk_zero<|Decidable.not_not.1 a
      · exact YY p (i+1) h x hx
theorem b35_tot(a:List bL)(x:bL)(k:Unit->Option Int)(hp:∀x∈a,x.params<=3)(Q:Prop)(j:∃y,k ()=some y/\(y=0->Q)):∀(l:List Ins) (i:Int),∃y,fM (kz a x) k i l ()=some y/\(y=0->Q/\∀c∈l,c.args.length<=3)
  |[],i=>by
    obtain⟨y,f,b⟩:=j;exact⟨y,f,fun h=>⟨b h,by intro c m;cases m⟩⟩
  |c::l,i=>by
    obtain⟨y,f,b⟩:=b35_tot a x k hp Q j l<|i+1;have n:fM (kz a x) k i (c::l) ()=kz a x i c () (fM (kz a x) k (i+1) l):=rfl;rw[n];unfold kz;obtain⟨z,g1,g2⟩:=check_ins c i a x.regs (x.code.length:Int) hp;rw[g1,Option.bind_some];by_cases g:z=0
    · rw[dF V,cond_false];refine⟨y,f,fun h=>⟨(b h).1,fun d e=>?_⟩⟩;rcases List.mem_cons.1 e with rfl|e
      · exact g2 g
      · exact(b h).2 d e
    · rw[dT g,cond_true];exact⟨z,Z,fun h=>absurd h g⟩
theorem b37_tot(a:List bL)(hp:∀x∈a,x.params<=3/\sU x):∀l:List bL,(∀x∈l,x.params<=3/\sU x)->∃y,each (rU a) yT l ()=some y/\(y=0->∀x∈l,∀c∈x.code,c.args.length<=3)
  |[],_=>⟨0,rfl,fun _ x b=>by cases b⟩
  |x::l,hl=>by
    obtain⟨y,f,g⟩:=b37_tot a hp l fun z i=>hl z<|List.mem_cons_of_mem _ i;rw[iC];unfold rU;have b:=hl x zq3;obtain⟨z,g1,g2⟩:=b35_tot a x (yS x (each (rU a) yT l)) (fun x b=>(hp x b).1) (∀x∈l,∀c∈x.code,c.args.length<=3) (by
      unfold yS;have e:=b.2;unfold sU at e;rw[gI,show((x.code.length:Int)-1)=((x.code.length-1:Nat):Int) by omega,wI V,Option.bind_some];cases (decide ((x.code[x.code.length-1].op:Int)≠8)&&decide ((x.code[x.code.length-1].op:Int)≠12))with
      |true=>exact⟨4,rfl,fun h=>absurd h zq1⟩
      |false=>exact⟨y,f,g⟩) x.code 0
    refine⟨z,g1,fun h=>?_⟩;intro w d;rcases List.mem_cons.1 d with rfl|d
    · exact(g2 h).2
    · exact(g2 h).1 w d
theorem check_tot(a:List bL):∃y,rV a=some y/\(y=0->Good a):=by
  unfold rV;generalize e:(decide (((a.length:Int):Int)=0)||decide ((4:Int)<(a.length:Int)))=C;cases C with
  |true=>exact⟨2,rfl,fun h=>absurd h zq1⟩
  |false=>
    simp only[Bool.or_eq_false_iff,decide_eq_false_iff_not]at e;have d:fM nT (vQ a) 0 a ()=_:=YW (vQ a) a 0;rw[cond_false,d];by_cases b:heads 0 a=0
    · rw[if_neg V];have hp:=YY a 0 b;obtain⟨y,g1,g2⟩:=b37_tot a hp a hp;exact⟨y,g1,fun h=>⟨by omega,fun x c=>⟨(hp x c).2,g2 h x c⟩⟩⟩
    · rw[if_pos b];exact⟨_,Z,fun h=>absurd h b⟩
def Pb(a:List bL):Int:=(rV a).getD 0
theorem YZ(a:List bL):rV a=some (Pb a):=by
 obtain⟨y,h,_⟩:=check_tot a;unfold Pb;rw[h];rfl
def IX(R x:Int):Prop:=0<=x/\x<R
def MS(a:List bL)(R L:Int)(c:Ins):Prop:=
 (c.op=1/\IX R c.a/\(-1000000000<=c.b/\c.b<=1000000000))\/
 (c.op=2/\IX R c.a/\IX R c.b)\/
 (c.op=3/\IX R c.a/\IX R c.b/\IX R c.c/\∃n,c.args=[n]/\1<=n/\n<=5)\/
 ((c.op=4\/c.op=6)/\IX R c.a/\IX R c.b/\(0<=c.c/\c.c<4))\/
 (c.op=5/\IX R c.a/\(1<=c.b/\c.b<=4))\/
 (c.op=7/\IX R c.a/\(∃p,idx a c.b=some p/\(c.args.length:Int)=p.params)/\∀x∈c.args,IX R x)\/
 ((c.op=8\/c.op=9\/c.op=11)/\IX R c.a)\/
 c.op=10\/
 (c.op=12/\(0<=c.b/\c.b<L))\/
 (c.op=13/\IX R c.a/\(0<=c.b/\c.b<L))
theorem each_b8(R:Int):∀l:List Int,each (xJ R) EI l ()=some 0->∀x∈l,IX R x
  |[],_,x,hx=>by cases hx
  |y::l,h,x,hx=>by
    rw[iC]at h;unfold xJ at h;cases e:(!(decide ((0:Int)<=y)&&decide ((y:Int)<R)))with
    |true=>rw[e,cond_true]at h;cases h
    |false=>
      rw[e,cond_false]at h;rcases List.mem_cons.1 hx with rfl|hx
      · simp at e;exact e
      · exact each_b8 R l h x hx
theorem insG_of{c:Ins}{i:Int}{a:List bL}{R L:Int}(h:kH c i a R L=some 0):MS a R L c:=by
  obtain⟨op,v,u,w,args⟩:=c;by_cases m:op=1
  · subst m;simp[kH,fC,gK,jg,jK,iV,dZ,iw,gu,gq,fP,Bool.cond_eq_ite]at h;simp[MS,IX]
    (repeat (split at h;·simp at h))
    omega
  by_cases n:op=2
  · subst n;simp[kH,fC,gK,jg,jK,iV,dZ,iw,gu,gq,fP,Bool.cond_eq_ite]at h;simp[MS,IX]
    (repeat (split at h;·simp at h))
    omega
  by_cases k:op=3
  · subst k;simp[kH,fC,gK,jg,jK,iV,dZ,iw,gu,gq,fP,Bool.cond_eq_ite]at h;simp[MS,IX];by_cases j:args.length=1
    · obtain⟨y,rfl⟩:=len_one.1 j;simp[idx0]at h;split at h
      · simp at h
      split at h
      · simp at h
      refine⟨by omega,by omega,by omega,y,Z,by omega,by omega⟩
    · exfalso;rw[if_neg (show¬((args.length:Int)=1) by omega)]at h;split at h<;>simp at h
  by_cases l:op=4
  · subst l;simp[kH,fC,gK,jg,jK,iV,dZ,iw,gu,gq,fP,Bool.cond_eq_ite]at h;simp[MS,IX]
    (repeat (split at h;·simp at h))
    omega
  by_cases t:op=5
  · subst t;simp[kH,fC,gK,jg,jK,iV,dZ,iw,gu,gq,fP,Bool.cond_eq_ite]at h;simp[MS,IX]
    (repeat (split at h;·simp at h))
    omega
  by_cases g:op=6
  · subst g;simp[kH,fC,gK,jg,jK,iV,dZ,iw,gu,gq,fP,Bool.cond_eq_ite]at h;simp[MS,IX]
    (repeat (split at h;·simp at h))
    omega
  by_cases s:op=7
  · subst s;simp[kH,fC,gK,jg,jK,iV,dZ,iw,gu,gq,fP,Bool.cond_eq_ite]at h;simp[MS,IX];split at h
    · simp at h
    split at h
    · simp at h
    obtain⟨p,hp,h⟩:=az h
    (repeat (split at h;·simp at h))
    refine⟨by omega,⟨p,hp,by omega⟩,fun x q=>each_b8 R args h x q⟩
  by_cases r:op=8
  · subst r;simp[kH,fC,gK,jg,jK,iV,dZ,iw,gu,gq,fP,Bool.cond_eq_ite]at h;simp[MS,IX]
    (repeat (split at h;·simp at h))
    omega
  by_cases o:op=9
  · subst o;simp[kH,fC,gK,jg,jK,iV,dZ,iw,gu,gq,fP,Bool.cond_eq_ite]at h;simp[MS,IX]
    (repeat (split at h;·simp at h))
    omega
  by_cases d:op=10
  · subst d;simp[MS,IX]
  by_cases e:op=11
  · subst e;simp[kH,fC,gK,jg,jK,iV,dZ,iw,gu,gq,fP,Bool.cond_eq_ite]at h;simp[MS,IX]
    (repeat (split at h;·simp at h))
    omega
  by_cases f:op=12
  · subst f;simp[kH,fC,gK,jg,jK,iV,dZ,iw,gu,gq,fP,Bool.cond_eq_ite]at h;simp[MS,IX]
    (repeat (split at h;·simp at h))
    omega
  by_cases b:op=13
  · subst b;simp[kH,fC,gK,jg,jK,iV,dZ,iw,gu,gq,fP,Bool.cond_eq_ite]at h;simp[MS,IX]
    (repeat (split at h;·simp at h))
    omega
  · exfalso;simp[kH,fC,gK,jg,jK,iV,dZ,iw,gu,gq,fP,Bool.cond_eq_ite, *]at h
structure pW(a:List bL):Prop where
 many:1<=a.length/\a.length<=4
 head:∀(i:Nat) x,a[i]? =some x->(0<=x.params/\x.params<=3)/\(1<=x.regs/\x.params<=x.regs/\x.regs<=40)/\¬(i=0/\x.params≠0)/\sU x
 last:∀x∈a,∃c,idx x.code ((x.code.length:Int)-1)=some c/\(c.op=8\/c.op=12)
 ins:∀x∈a,∀c∈x.code,MS a x.regs x.code.length c
theorem heads_all:∀(p:List bL) (j:Nat),heads j p=0->∀(i:Nat) x,p[i]? =some x->JZ (j+i) x=0
  |[],j,_,i,x,hx=>by simp at hx
  |y::p,j,h,i,x,hx=>by
    unfold heads at h;split at h
    · rename_i a;exact absurd h a
    · rename_i a;cases i with
      |zero=>simp at hx;subst hx;exact Decidable.not_not.1 a
      |succ i=>rw[show j+(i+1)=(j+1)+i by omega];exact heads_all p (j+1) h i x (by simpa using hx)
theorem b35_ins(a:List bL)(x:bL)(k:Unit->Option Int):∀(l:List Ins) (i:Int),fM (kz a x) k i l ()=some 0->k ()=some 0/\∀c∈l,MS a x.regs x.code.length c
  |[],i,h=>⟨h,fun c b=>by cases b⟩
  |y::l,i,h=>by
    have g:fM (kz a x) k i (y::l) ()=kz a x i y () (fM (kz a x) k (i+1) l):=rfl;rw[g]at h;unfold kz at h;obtain⟨z,j,h⟩:=az h;by_cases d:z=0
    · subst d;rw[dF zq3,cond_false]at h;obtain⟨e,f⟩:=b35_ins a x k l (i+1) h;refine⟨e,fun c b=>?_⟩;rcases List.mem_cons.1 b with rfl|b
      · exact insG_of j
      · exact f c b
    · rw[dT d,cond_true]at h;exact absurd (osi h) d
theorem b37_ins(a:List bL):∀l:List bL,each (rU a) yT l ()=some 0->∀x∈l,(∃c,idx x.code ((x.code.length:Int)-1)=some c/\(c.op=8\/c.op=12))/\∀c∈x.code,MS a x.regs x.code.length c
  |[],_,x,hx=>by cases hx
  |y::l,h,x,hx=>by
    rw[iC]at h;unfold rU at h;obtain⟨b,d⟩:=b35_ins a y _ y.code 0 h;unfold yS at b;obtain⟨_,b⟩:=bB b;obtain⟨c,f,b⟩:=az b;cases e:(decide ((c.op:Int)≠8)&&decide ((c.op:Int)≠12))with
    |true=>rw[e,cond_true]at b;cases b
    |false=>
      rw[e,cond_false]at b;rcases List.mem_cons.1 hx with rfl|hx
      · exact⟨⟨c,f,by simp only[Bool.and_eq_false_iff,decide_eq_false_iff_not,Decidable.not_not]at e;exact e⟩,d⟩
      · exact b37_ins a l b x hx
theorem pX{a:List bL}(h:Pb a=0):pW a:=by
  have b:=YZ a;rw[h]at b;unfold rV at b;generalize j:(decide (((a.length:Int):Int)=0)||decide ((4:Int)<(a.length:Int)))=C at b;cases C with
  |true=>cases b
  |false=>
    simp only[Bool.or_eq_false_iff,decide_eq_false_iff_not]at j;have f:fM nT (vQ a) 0 a ()=_:=YW (vQ a) a 0;rw[cond_false,f]at b;by_cases d:heads 0 a=0
    · rw[if_neg V]at b;have e:=b37_ins a a b;refine⟨by omega,fun i x c=>?_,fun x c=>(e x c).1,fun x c=>(e x c).2⟩;have:=heads_all a 0 d i x c;rw[Nat.zero_add]at this;unfold JZ at this;split at this
      · rename_i g;split at this
        · rename_i g2;exact⟨g.1,g.2.1,g.2.2,g2⟩
        · cases this
      · cases this
    · rw[if_pos d]at b;exact absurd (osi b) d
theorem wH{α σ ρ:Type}{body:Int->α->σ->(σ->ρ)->ρ}{k:σ->ρ}(i:Int)(x:α)(l:List α)(s:σ):fM body k i (x::l) s=body i x s (fM body k (i+1) l):=rfl
theorem VA{σ ρ:Type}{body:Int->σ->(σ->ρ)->ρ}{k:σ->ρ}(i:Int)(m:Nat)(s:σ):upto body k i (m+1) s=body i s (upto body k (i+1) m):=rfl
theorem GJ{σ β:Type}{body:σ->(σ->Option β)->Option β}{m:Nat}{s:σ}:again body (m+1) s=body s (again body m):=rfl
def jY(n:Nat)(v:Val):Prop:=(v.kind=0/\v.n=0)\/(v.kind=1/\ -1000000000<=v.n/\v.n<=1000000000)\/(v.kind=2/\0<=v.n/\v.n<n)
instance (n:Nat) (v:Val):Decidable (jY n v):=inferInstanceAs (Decidable (_\/_))
theorem wo(n:Nat)(v:Val):iX v (n:Int)=0↔jY n v:=by
  obtain⟨k,m⟩:=v;simp only[iX,jY,Bool.cond_eq_ite,Bool.or_eq_true,decide_eq_true_eq];constructor
  · intro h
    (repeat' split at h)<;>first|omega|(exfalso;omega)
  · intro h;rcases h with⟨h1,h2⟩|⟨h1,h2⟩|⟨h1,h2⟩
    · rw[if_pos h1,if_neg V]
    · rw[if_neg V,if_pos h1,if_neg V]
    · rw[if_neg V,if_neg V,if_pos h1,if_neg V]
theorem value_eq(v:Val)(n:Int):gL v n=iX v n:=by
 obtain⟨k,m⟩:=v;simp only[iX,gL,tY,bz,jQ,bE,Bool.cond_eq_ite,Bool.or_eq_true,Bool.and_eq_true,Bool.not_eq_true',decide_eq_true_eq,decide_eq_false_iff_not,Bool.and_eq_false_iff]
 (repeat' split)<;>first|rfl|(exfalso;omega)
def vv(l:List (List Val)):Prop:=l.length<=24/\∀c∈l,(1<=c.length/\c.length<=4)/\∀v∈c,jY l.length v
theorem cells_eq(a:List (List Val)):qL a=mg a:=by
 unfold qL mg;have k1:∀(l:List Val) (f:Unit->Int),each (nX a) (nY f) l ()=each (lW a) (kP f) l ():=by
  intro l f;induction l with
  |nil=>rfl
  |cons x l ih=>
   show(bif decide ((gL x (a.length:Int):Int)≠0)then gL x (a.length:Int)else each (nX a) (nY f) l ())=(bif decide ((iX x (a.length:Int):Int)≠0)then iX x (a.length:Int)else each (lW a) (kP f) l ());rw[value_eq,ih]
 have k2:∀l:List (List Val),each (nZ a) og l ()=each (nU a) lX l ():=by
  intro l;induction l with
  |nil=>rfl
  |cons x l ih=>
   show(bif (!(bz (x.length:Int) 1 4))then 2 else each (nX a) (nY<|each (nZ a) og l) x ())=(bif (decide (((x.length:Int):Int)=0)||decide ((4:Int)<(x.length:Int)))then 2 else each (lW a) (kP<|each (nU a) lX l) x ());have e:(!(bz (x.length:Int) 1 4))=(decide (((x.length:Int):Int)=0)||decide ((4:Int)<(x.length:Int))):=by
    unfold bz;rw[Bool.eq_iff_iff];simp only[Bool.or_eq_true,Bool.not_eq_true',Bool.and_eq_false_iff,decide_eq_true_eq,decide_eq_false_iff_not];omega
   rw[e,k1];have:each (nZ a) og l=each (nU a) lX l:=by funext u;exact ih
   rw[this]
 rw[k2]
theorem all_ok(a:List (List Val)):mg a=0↔vv a:=by
  have k1:∀(l:List Val) (f:Unit->Int),each (lW a) (kP f) l ()=0↔(∀v∈l,jY a.length v)/\f ()=0:=by
    intro l f;induction l with
    |nil=>simp[qw,kP]
    |cons x l ih=>
      show(bif decide ((iX x (a.length:Int):Int)≠0)then iX x (a.length:Int)else each (lW a) (kP f) l ())=0↔_;by_cases h:iX x (a.length:Int)=0
      · rw[dF V,cond_false,ih];have:=(wo _ _).1 h;simp[this]
      · rw[dT h,cond_true];have b:¬jY a.length x:=fun e=>h ((wo _ _).2 e);simp[h,b]
  have k2:∀l:List (List Val),each (nU a) lX l ()=0↔∀c∈l,(1<=c.length/\c.length<=4)/\∀v∈c,jY a.length v:=by
    intro l;induction l with
    |nil=>simp[qw,lX]
    |cons x l ih=>
      show(bif (decide (((x.length:Int):Int)=0)||decide ((4:Int)<(x.length:Int)))then 2 else each (lW a) (kP<|each (nU a) lX l) x ())=0↔_;by_cases h:1<=x.length/\x.length<=4
      · rw[show(decide (((x.length:Int):Int)=0)||decide ((4:Int)<(x.length:Int)))=false by simp only[Bool.or_eq_false_iff,decide_eq_false_iff_not];omega,cond_false,k1,ih];simp[h]
      · rw[show(decide (((x.length:Int):Int)=0)||decide ((4:Int)<(x.length:Int)))=true by simp only[Bool.or_eq_true,decide_eq_true_eq];omega,cond_true];simp[h]
  unfold mg vv;by_cases h:a.length<=24
  · rw[dF V,cond_false,k2];simp[h]
  · rw[dT V,cond_true];simp[h]
structure J2(a:List bL)(n:Nat)(f:LX.Frame)(x:bL):Prop where
 proc:idx a f.proc=some x
 at_:0<=f.at_/\f.at_<x.code.length
 regs:(f.regs.length:Int)=x.regs
 vals:∀v∈f.regs,jY n v
def mW(a:List bL)(n:Nat):Int->List LX.Frame->Prop
 |_,[]=>True
 |ahead,f::l=>(∃x,J2 a n f x)/\(0<=f.jy/\f.jy<ahead)/\mW a n f.regs.length l
structure yu(a:List bL)(s:LX.State):Prop where
 status:0<=s.status/\s.status<=3
 bP: -1000000000<=s.bP/\s.bP<=1000000000
 stay:s.status≠3->s.bP=0
 ended:s.status=1↔s.frames=[]
 many:s.frames.length<=10
 cells:vv s.cells
 frames:mW a s.cells.length 1 s.frames
def ahead(pre:List LX.Frame):Int:=match pre.getLast? with|none=>1|some f=>f.regs.length
theorem ahead_nil:ahead []=1:=rfl
theorem Re(pre:List LX.Frame)(f:LX.Frame):ahead (pre++[f])=f.regs.length:=by simp[ahead]
theorem VB(b:LX.State)(f:LX.Frame)(c:Unit->Option Int)(a:Int->Option Int)(hn:c ()=a f.regs.length):∀l:List Val,each (wS b) (wT c) l ()=each (sH b) (sI a f) l ()
 |[]=>hn
 |x::l=>by
  show(bif decide ((iX x (b.cells.length:Int):Int)≠0)then some (iX x (b.cells.length:Int))else each (wS b) (wT c) l ())=(bif decide ((gL x (b.cells.length:Int):Int)≠0)then some (gL x (b.cells.length:Int))else each (sH b) (sI a f) l ());rw[value_eq,VB b f c a hn l]
theorem vals_tot(b:LX.State)(a:Unit->Option Int)(Q:Prop)(hn:∃y,a ()=some y/\(y=0↔Q)):∀l:List Val,∃y,each (wS b) (wT a) l ()=some y/\(y=0↔(∀v∈l,jY b.cells.length v)/\Q)
  |[]=>by obtain⟨y,c,d⟩:=hn;exact⟨y,c,by simp[d]⟩
  |x::l=>by
    obtain⟨y,c,d⟩:=vals_tot b a Q hn l;have e:each (wS b) (wT a) (x::l) ()=(bif decide ((iX x (b.cells.length:Int):Int)≠0)then some (iX x (b.cells.length:Int))else each (wS b) (wT a) l ()):=rfl;rw[e];by_cases h:iX x (b.cells.length:Int)=0
    · rw[dF V,cond_false];have:=(wo _ _).1 h;exact⟨y,c,by rw[d];simp[this]⟩
    · rw[dT h,cond_true];refine⟨_,Z,?_⟩;have f:¬jY b.cells.length x:=fun e=>h ((wo _ _).2 e);simp[h,f]
theorem V7(a:List bL)(b:LX.State)(m:b.frames.length<=10):∀(l pre:List LX.Frame),b.frames=pre++l->
    fM (CW a b) Gv (pre.length:Int) l ()=each (iR a b) lG l (ahead pre)
  |[],pre,h=>rfl
  |f::l,pre,h=>by
    have d:=V7 a b m l (pre++[f]) (by simpa using h);rw[Re]at d;have o:(((pre++[f]).length:Nat):Int)=(pre.length:Int)+1:=by simp
    rw[o]at d;rw[wH,iC];generalize fM (CW a b) Gv ((pre.length:Int)+1) l=K1 at d⊢;generalize each (iR a b) lG l=K2 at d⊢;unfold CW iR;have k:pre.length<=10:=by have:=congrArg List.length h;simp at this;omega
    have n:(decide ((f.proc:Int)<0)||decide (((a.length:Int):Int)<=f.proc))= !bE f.proc (a.length:Int):=SY _ _;rw[n];cases hp:bE f.proc (a.length:Int)with
    |false=>rfl
    |true=>
      simp only[Bool.not_true,cond_false];cases hx:idx a f.proc with
      |none=>rfl
      |some x=>
        simp only[bnd];cases ha:bE f.at_ (x.code.length:Int)with
        |false=>
          rw[show(((decide ((f.at_:Int)<0)||decide (((x.code.length:Int):Int)<=f.at_))||decide ((f.jy:Int)<0))||(decide ((pre.length:Int)=0)&&decide ((f.jy:Int)≠0)))=true by
            have:=SY f.at_ (x.code.length:Int);rw[ha]at this;rw[this];rfl]
          rfl
        |true=>
          have j:=SY f.at_ (x.code.length:Int);rw[ha]at j;rw[j];simp only[Bool.not_true,Bool.false_or,cond_false];have i:∀t,zI f x b K1 t=jU a f b K2 t:=by
            intro t;unfold zI jU;rw[hx,bnd,VB b f _ _ d]
          simp only[i];rcases List.eq_nil_or_concat pre with rfl|⟨q,g,rfl⟩
          · rw[ahead_nil];by_cases c:f.jy=0
            · rw[show(decide ((f.jy:Int)<0)||(decide ((([]:List LX.Frame).length:Int)=0)&&decide ((f.jy:Int)≠0)))=false by simp[c],cond_false,dF zq3,cond_false,show(!bE f.jy 1)=false by simp[c,bE]]
            · rw[show(decide ((f.jy:Int)<0)||(decide ((([]:List LX.Frame).length:Int)=0)&&decide ((f.jy:Int)≠0)))=true by simp[c],cond_true,show(!bE f.jy 1)=true by simp[bE];omega]
          · rw[List.concat_eq_append]at*;rw[Re];have e:((q++[g]).length:Int)=(q.length:Int)+1:=by simp
            rw[e,show(decide ((q.length:Int)+1=0))=false from dF V,Bool.false_and,Bool.or_false];by_cases c:f.jy<0
            · rw[dT c,cond_true,show(!bE f.jy (g.regs.length:Int))=true by simp[bE];omega]
            · rw[dF c,cond_false,dT V,cond_true,gI V (by simp at k;omega),show(q.length:Int)+1-1=((q.length:Nat):Int) by omega,kD,h];simp only[List.append_assoc,List.getElem?_append_right (Nat.le_refl _),Nat.sub_self,List.cons_append,List.nil_append,List.getElem?_cons_zero,bnd];congr 1;rw[Bool.eq_iff_iff];simp[bE];omega
theorem Y0(a:List bL)(b:LX.State):HZ a b=wX a b:=by
  unfold HZ wX;have c:(((decide ((b.status:Int)<0)||decide ((3:Int)<b.status))||decide ((b.bP:Int)< -1000000000))||decide ((1000000000:Int)<b.bP))=((!(bz b.status 0 3))||(!(jQ b.bP))):=by
    unfold jQ bz;rw[Bool.eq_iff_iff];simp only[Bool.or_eq_true,Bool.not_eq_true',Bool.and_eq_false_iff,decide_eq_true_eq,decide_eq_false_iff_not];omega
  have i:((decide ((b.status:Int)≠3)&&decide ((b.bP:Int)≠0))||(decide ((b.status:Int)=1) !=decide (((b.frames.length:Int):Int)=0)))=(((decide ((b.bP:Int)≠0)&&decide ((b.status:Int)≠3))||(decide ((b.status:Int)=1)&&decide ((0:Int)<(b.frames.length:Int))))||(decide ((b.status:Int)≠1)&&decide (((b.frames.length:Int):Int)=0))):=by
    by_cases f:b.status=1<;>by_cases g:b.frames.length=0<;>by_cases d:b.status=3<;>by_cases e:b.bP=0<;>simp[f,g,d,e]<;>omega
  rw[c,i,cells_eq];by_cases h:b.frames.length<=10
  · have:=V7 a b h b.frames [] Z;rw[ahead_nil]at this;rw[<-this];rfl
  · rw[show(decide ((10:Int)<(b.frames.length:Int)))=true from dT V];rfl
theorem Y1(a:List bL)(b:LX.State):∀(l:List LX.Frame) (t:Int),∃y,each (iR a b) lG l t=some y/\(y=0↔mW a b.cells.length t l)
  |[],t=>⟨0,rfl,by simp[mW]⟩
  |f::l,t=>by
    obtain⟨y,i,m⟩:=Y1 a b l f.regs.length;rw[iC];generalize each (iR a b) lG l=K2 at i⊢;unfold iR;cases hp:bE f.proc (a.length:Int)with
    |false=>
      refine⟨5,Z,?_⟩;have:¬mW a b.cells.length t (f::l):=by
        rintro⟨⟨x,g⟩,-,-⟩;have:=aF g.proc;have e:=(List.getElem?_eq_some_iff.1 this.2).1;unfold bE at hp;simp only[Bool.and_eq_false_iff,decide_eq_false_iff_not]at hp;omega
      simp[this]
    |true=>
      unfold bE at hp;simp only[Bool.and_eq_true,decide_eq_true_eq]at hp;simp only[Bool.not_true,cond_false];obtain⟨n,hn⟩:=Int.eq_ofNat_of_zero_le hp.1;have d:idx a f.proc=some (a[n]'V):=by rw[hn,wI V]
      generalize a[n]'V=x at d;rw[d,bnd];have kB:∃y,jU a f b K2 true=some y/\y≠0:=⟨3,Z,by decide⟩;have c:∀z,J2 a b.cells.length f z->z=x:=fun z g=>by have:=g.proc;rw[d]at this;exact(osi this).symm
      cases ha:bE f.at_ (x.code.length:Int)with
      |false=>
        obtain⟨y,g1,g2⟩:=kB;refine⟨y,g1,?_⟩;have:¬mW a b.cells.length t (f::l):=by
          rintro⟨⟨z,g⟩,-,-⟩;have:=c z g;subst this;have:=g.at_;unfold bE at ha;simp only[Bool.and_eq_false_iff,decide_eq_false_iff_not]at ha;omega
        simp[this,g2]
      |true=>
        simp only[Bool.not_true,cond_false];cases ht:bE f.jy t with
        |false=>
          obtain⟨y,g1,g2⟩:=kB;refine⟨y,g1,?_⟩;have:¬mW a b.cells.length t (f::l):=by
            rintro⟨⟨z,g⟩,e,-⟩;unfold bE at ht;simp only[Bool.and_eq_false_iff,decide_eq_false_iff_not]at ht;omega
          simp[this,g2]
        |true=>
          simp only[Bool.not_true];unfold jU;rw[d,cond_false,bnd];unfold bE at ha ht;simp only[Bool.and_eq_true,decide_eq_true_eq]at ha ht;by_cases j:(f.regs.length:Int)=x.regs
          · rw[dF V,cond_false,<-VB b f (fun _=>K2 f.regs.length) _ rfl];obtain⟨z,g1,g2⟩:=vals_tot b (fun _=>K2 f.regs.length) _ ⟨y,i,m⟩ f.regs;refine⟨z,g1,g2.trans ⟨fun h=>⟨⟨x,d,ha,j,h.1⟩,ht,h.2⟩,?_⟩⟩;rintro⟨⟨z,g⟩,e,k⟩;exact⟨g.vals,k⟩
          · rw[dT V,cond_true];refine⟨4,Z,?_⟩;have:¬mW a b.cells.length t (f::l):=by
              rintro⟨⟨z,g⟩,-,-⟩;have:=c z g;subst this;exact j g.regs
            simp[this]
theorem Y2(a:List bL)(b:LX.State):∃y,HZ a b=some y/\(y=0↔yu a b):=by
  rw[Y0];unfold wX;cases c1:((!(bz b.status 0 3))||(!(jQ b.bP)))with
  |true=>
    refine⟨3,Z,⟨fun h=>absurd h zq1,fun h=>?_⟩⟩;unfold jQ bz at c1;simp only[Bool.or_eq_true,Bool.not_eq_true',Bool.and_eq_false_iff,decide_eq_false_iff_not]at c1;have:=h.status;have:=h.bP;omega
  |false=>
    unfold jQ bz at c1;simp only[Bool.or_eq_false_iff,Bool.not_eq_false',Bool.and_eq_true,decide_eq_true_eq]at c1;rw[cond_false];cases c2:(((decide ((b.bP:Int)≠0)&&decide ((b.status:Int)≠3))||(decide ((b.status:Int)=1)&&decide ((0:Int)<(b.frames.length:Int))))||(decide ((b.status:Int)≠1)&&decide (((b.frames.length:Int):Int)=0)))with
    |true=>
      refine⟨4,Z,⟨fun h=>absurd h zq1,fun h=>?_⟩⟩;simp only[Bool.or_eq_true,Bool.and_eq_true,decide_eq_true_eq]at c2;rcases c2 with(c2|c2)|c2
      · exact absurd (h.stay c2.2) c2.1
      · have:=h.ended.1 c2.1;rw[this]at c2;simp at c2
      · exact absurd (h.ended.2<|List.eq_nil_of_length_eq_zero V) c2.1
    |false=>
      simp only[Bool.or_eq_false_iff,Bool.and_eq_false_iff,decide_eq_false_iff_not]at c2;rw[cond_false];by_cases e:b.frames.length<=10
      · rw[dF V,cond_false,cells_eq];by_cases c:mg b.cells=0
        · rw[dF V,cond_false];obtain⟨y,f,g⟩:=Y1 a b b.frames 1;refine⟨y,f,g.trans ⟨fun h=>⟨by omega,by omega,fun d=>by omega,⟨fun d=>?_,fun d=>?_⟩,e,(all_ok _).1 c,h⟩,fun h=>h.frames⟩⟩
          · exact List.eq_nil_of_length_eq_zero V
          · rw[d]at c2;simp at c2;omega
        · rw[dT c,cond_true];exact⟨_,Z,⟨fun h=>absurd h c,fun h=>absurd ((all_ok _).2 h.cells) c⟩⟩
      · rw[dT V,cond_true];exact⟨2,Z,⟨fun h=>absurd h zq1,fun h=>absurd h.many e⟩⟩
def ckS(a:List bL)(s:LX.State):Int:=(HZ a s).getD 0
theorem ckS_eq(a:List bL)(s:LX.State):HZ a s=some (ckS a s):=by obtain⟨y,h,-⟩:=Y2 a s;unfold ckS;rw[h];rfl
theorem IY{a:List bL}{s:LX.State}:ckS a s=0↔yu a s:=by obtain⟨y,h,b⟩:=Y2 a s;unfold ckS;rw[h];exact b
theorem Jz(a:List bL)(s:LX.State):Fs a s=some (if Pb a≠0 then Pb a else ckS a s):=by
  unfold Fs;rw[YZ,bnd];by_cases h:Pb a=0
  · rw[dF V,cond_false,ckS_eq,bnd,if_neg V]
  · rw[dT h,cond_true,if_pos h]
theorem eqVals(a b:List Val):oU a b=some (decide (a=b)):=by
  unfold oU;by_cases h:a.length=b.length
  · rw[dF V];simp only[cond_false,Int.toNat_natCast];rw[OB (fun x y=>decide (x=y)) a b h rfl (fun i x y j d f=>by
      unfold xZ;rw[kD,kD,d,f];obtain⟨k,n⟩:=x;obtain⟨k2,c⟩:=y;by_cases e:k=k2<;>by_cases g:n=c<;>simp[e,g]),Cc (fun _ _=>rfl)]
  · rw[dT V];have:a≠b:=fun e=>h (by rw[e]);rw[dF this];rfl
theorem eqCells(a b:List (List Val)):OV a b=some (decide (a=b)):=by
  unfold OV;by_cases h:a.length=b.length
  · rw[dF V,cond_false,Ls (fun x y=>decide (x=y)) a b h rfl (fun i x y d c=>by
      unfold Mg;rw[kD,c,bnd,eqVals,bnd];by_cases e:x=y<;>simp[e]),Cc (fun _ _=>rfl)]
  · rw[dT V];have:a≠b:=fun e=>h (by rw[e]);rw[dF this];rfl
theorem fr_eq(x y:LX.Frame)(a:Unit->Option Bool):(bif ((decide ((x.proc:Int)=y.proc)&&decide ((x.at_:Int)=y.at_))&&decide ((x.jy:Int)=y.jy))then(oU x.regs y.regs).bind fun b=>BF a (!b)else BF a true)=bif decide (x=y)then a ()else some false:=by
 obtain⟨p,t,r,o⟩:=x;obtain⟨d,g,h,o2⟩:=y;simp only[eqVals,bnd,BF];by_cases c:p=d<;>by_cases e:t=g<;>by_cases f:r=h<;>by_cases i:o=o2<;>simp[c,e,f,i]
theorem st_eq(a b:LX.State):decide (a=b)=((decide (a.status=b.status)&&decide (a.bP=b.bP))&&(decide (a.cells=b.cells)&&decide (a.frames=b.frames))):=by
 obtain⟨f,c,s,w⟩:=a;obtain⟨g,c2,e,d⟩:=b;rw[Bool.eq_iff_iff];simp;constructor<;>(intro h;simp[h])
theorem eqState(a b:LX.State):Si a b=some (decide (a=b)):=by
  rw[st_eq];unfold Si;cases (decide ((a.status:Int)=b.status)&&decide ((a.bP:Int)=b.bP))with
  |false=>rfl
  |true=>
    rw[cond_true,eqCells,bnd];cases decide (a.cells=b.cells)with
    |false=>rfl
    |true=>
      rw[cond_true];by_cases h:a.frames.length=b.frames.length
      · rw[dF V,cond_false,Ls (fun x y=>decide (x=y)) a.frames b.frames h rfl (fun i x y c d=>by
          unfold NH;rw[kD,d,bnd];exact fr_eq x y c),Cc (fun _ _=>rfl)];rfl
      · rw[dT V];have:a.frames≠b.frames:=fun e=>h (by rw[e]);rw[dF this];rfl
structure Small(s:LX.State):Prop where
 frames:s.frames.length<=10
 regs:∀f∈s.frames,f.regs.length<=40
 cells:s.cells.length<=24
 fields:∀c∈s.cells,c.length<=4
theorem zQ{a:List bL}{n:Nat}:∀{l:List LX.Frame} {t:Int},mW a n t l->∀f∈l,∃x,J2 a n f x
  |[],_,_,f,hf=>by cases hf
  |g::l,t,h,f,hf=>by
    rcases List.mem_cons.1 hf with rfl|hf
    · exact h.1
    · exact zQ h.2.2 f hf
theorem pW.mem{a:List bL}(h:pW a){k:Int}{x:bL}(c:idx a k=some x):x∈a/\(0<=x.params/\x.params<=3)/\(1<=x.regs/\x.params<=x.regs/\x.regs<=40)/\sU x:=by
 have b:=(aF c).2;have:=h.head _ x b;exact⟨List.mem_of_getElem? b,this.1,this.2.1,this.2.2.2⟩
theorem yu.small{a:List bL}{s:LX.State}(h:yu a s)(ha:pW a):Small s where
 frames:=h.many
 regs f hf:=by
  obtain⟨x,g⟩:=zQ h.frames f hf;have:=(ha.mem g.proc).2.2.1;have:=g.regs;omega
 cells:=h.cells.1
 fields c hc:=(h.cells.2 c hc).1.2
theorem S9{α:Type}{b:Nat}{a:List α}(h:a.length<=400)(c:b<=48):clone b a=some a:=by
 have:a.length*b<=400*48:=Nat.mul_le_mul h c;unfold clone;exact j5 ⟨by simp;omega,by simp;omega⟩
theorem G6{ρ:Type}{body:Int->Unit->(Unit->ρ)->ρ}{k:Unit->ρ}:∀(m:Nat) (i:Nat),(∀j:Nat,i<=j->j<i+m->∀a,body (j:Int) () a=a ())->upto body k (i:Int) m ()=k ()
 |0,i,_=>rfl
 |m+1,i,h=>by
  rw[VA,h i (Nat.le_refl _) V,show((i:Int)+1)=((i+1:Nat):Int) by omega];exact G6 m (i+1) fun j b c=>h j V V
theorem cellCopy_eq{l:List (List Val)}(h:l.length<=24)(a:∀c∈l,c.length<=4):OQ l=some l:=by
 unfold OQ;rw[S9 V zq1,bnd,Int.toNat_natCast];exact G6 (k:=Ma l) l.length 0 (fun j d e b=>by
  unfold L9;rw[wI V,bnd,S9 (by have:=a _ (List.getElem_mem (by omega:j<l.length));omega) zq1,bnd])
theorem copy_eq{s:LX.State}(h:Small s):Mc s=some s:=by
 unfold Mc;rw[S9 (by have:=h.frames;omega) zq1,bnd,cellCopy_eq h.cells h.fields,bnd];unfold Qu;rw[Int.toNat_natCast];exact G6 (k:=Qt s s.cells) s.frames.length 0 (fun j b c a=>by
  unfold Qs;rw[wI V,bnd,S9 (by have:=h.regs _ (List.getElem_mem (by omega:j<s.frames.length));omega) zq1,bnd])
theorem room_le{α:Type}{a:Nat}{l m:List α}(h:l.length+m.length<=100000)(b:a<=48):Room a l m:=by
 have:(l.length+m.length)*a<=100000*48:=Nat.mul_le_mul h b;exact⟨by omega,by omega⟩
def Ta(l:List Int)(v:Val):List Int:=if v.kind=2/\v.n∉l then l++[v.n]else l
def Tc(l:List Int)(vs:List Val):List Int:=vs.foldl Ta l
def cellAt(cells:List (List Val))(k:Int):List Val:=(idx cells k).getD []
def Z4(cells:List (List Val)):Nat->Nat->List Int->List Int
 |0,_,l=>l
 |m+1,k,l=>if h:k<l.length then Z4 cells m (k+1) (Tc l (cellAt cells l[k]))else l
def Ol(cells:List (List Val))(vs:List Val):List Int:=Z4 cells 25 0 (Tc [] vs)
theorem Pf(l:List Int)(v:Val)(vs:List Val):Tc l (v::vs)=Tc (Ta l v) vs:=rfl
theorem metV_pre(l:List Int)(v:Val):l<+:Ta l v:=by
  unfold Ta;split
  · exact List.prefix_append _ _
  · exact List.prefix_refl _
theorem Om:∀(vs:List Val) (l:List Int),l<+:Tc l vs
 |[],l=>List.prefix_refl _
 |v::vs,l=>(metV_pre l v).trans (Om vs _)
theorem bfs_pre(cells:List (List Val)):∀(m k:Nat) (l:List Int),l<+:Z4 cells m k l
  |0,_,l=>List.prefix_refl _
  |m+1,k,l=>by
    unfold Z4;split
    · exact(Om _ _).trans<|bfs_pre cells m _ _
    · exact List.prefix_refl _
theorem nodup_len:∀(n:Nat) (l:List Int),l.Nodup->(∀x∈l,0<=x/\x<n)->l.length<=n
  |0,l,_,h=>by
    cases l with
    |nil=>simp
    |cons x l=>have:=h x zq3;omega
  |n+1,l,hn,h=>by
    have e:=nodup_len n (l.erase (n:Int)) (hn.erase _) (fun x b=>by
      have a:=(hn.mem_erase_iff).1 b;have:=h x a.2;have c:=a.1;constructor
      · omega
      · push_cast at this;omega)
    have d:l.length<=(l.erase (n:Int)).length+1:=by rw[List.length_erase];split<;>omega
    omega
def yn(n:Nat)(l:List Int):Prop:=l.Nodup/\∀x∈l,0<=x/\x<n
theorem yn.len{n:Nat}{l:List Int}(h:yn n l):l.length<=n:=nodup_len n l h.1 h.2
theorem yn.nil{n:Nat}:yn n []:=⟨List.nodup_nil,fun x a=>by cases a⟩
theorem jY.ref{n:Nat}{v:Val}(h:jY n v)(a:v.kind=2):0<=v.n/\v.n<n:=by unfold jY at h;omega
theorem yn.v{n:Nat}{l:List Int}(h:yn n l){v:Val}(g:jY n v):yn n (Ta l v):=by
  unfold Ta;split
  · rename_i f;refine⟨List.nodup_append.2 ⟨h.1,by simp,fun a i b d=>?_⟩,fun x c=>?_⟩
    · simp at d;subst d;intro e;subst e;exact f.2 i
    · rcases List.mem_append.1 c with c|c
      · exact h.2 x c
      · simp at c;subst c;exact g.ref f.1
  · exact h
theorem yn.l{n:Nat}:∀{vs:List Val} {l:List Int},yn n l->(∀v∈vs,jY n v)->yn n (Tc l vs)
 |[],l,h,_=>h
 |v::vs,l,h,hv=>yn.l (vs:=vs) (l:=Ta l v) (h.v (hv v zq3)) (fun w a=>hv w (List.mem_cons_of_mem _ a))
theorem Mt{cells:List (List Val)}{k:Int}(h:0<=k/\k<cells.length):idx cells k=some (cellAt cells k)/\cellAt cells k∈cells:=by
 obtain⟨n,rfl⟩:=Int.eq_ofNat_of_zero_le h.1;unfold cellAt;rw[wI V];exact⟨Z,List.getElem_mem _⟩
theorem vv.at{cells:List (List Val)}(h:vv cells){k:Int}(a:0<=k/\k<cells.length):(1<=(cellAt cells k).length/\(cellAt cells k).length<=4)/\∀v∈cellAt cells k,jY cells.length v:=h.2 _ (Mt a).2
theorem yn.Z4{cells:List (List Val)}(a:vv cells):∀{m k:Nat} {l:List Int},yn cells.length l->yn cells.length (Z4 cells m k l)
  |0,_,l,h=>h
  |m+1,k,l,h=>by
    unfold Proofs.YtodkbibbgakkdaaGreatDoor.Z4;split
    · rename_i b;exact yn.Z4 a<|h.l (a.at<|h.2 _<|List.getElem_mem b).2
    · exact h
def uf(vs:List Val)(l:List Int):Prop:=∀v∈vs,v.kind=2->v.n∈l
theorem uf.pre{vs:List Val}{l m:List Int}(h:uf vs l)(hp:l<+:m):uf vs m:=fun v b a=>hp.subset (h v b a)
theorem metV_in(l:List Int)(v:Val)(a:v.kind=2):v.n∈Ta l v:=by
  unfold Ta;split
  · simp
  · rename_i b;exact Decidable.not_not.1 fun h=>b ⟨a,h⟩
theorem metL_in:∀(vs:List Val) (l:List Int),uf vs (Tc l vs)
  |[],l,v,hv,_=>by cases hv
  |w::vs,l,v,hv,hk=>by
    rw[Pf];rcases List.mem_cons.1 hv with rfl|hv
    · exact(Om vs _).subset<|metV_in l v hk
    · exact metL_in vs _ v hv hk
theorem bfs_in{cells:List (List Val)}(d:vv cells):∀{m k:Nat} {l:List Int},yn cells.length l->cells.length<k+m->(∀j (b:j<l.length),j<k->uf (cellAt cells l[j]) l)->∀x∈Z4 cells m k l,uf (cellAt cells x) (Z4 cells m k l)
  |0,k,l,h,hm,b,x,hx=>by
    have:=h.len;obtain⟨j,a,rfl⟩:=List.getElem_of_mem hx;exact b j a (by have g:j<l.length:=a;omega)
  |m+1,k,l,h,hm,b,x,hx=>by
    unfold Proofs.YtodkbibbgakkdaaGreatDoor.Z4 at hx⊢;split at hx
    · rename_i c;rw[dif_pos c];have n:=(d.at<|h.2 _<|List.getElem_mem c).2;have hp:=Om (cellAt cells l[k]) l;refine bfs_in d (h.l n) V (fun j a o=>?_) x hx;by_cases e:j<l.length
      · have i:(Tc l<|cellAt cells l[k])[j]=l[j]:=(hp.getElem e).symm;rw[i];by_cases f:j<k
        · exact(b j e f).pre hp
        · have:j=k:=by omega
          subst this;exact metL_in _ _
      · omega
    · rename_i c;rw[dif_neg c];obtain⟨j,a,rfl⟩:=List.getElem_of_mem hx;exact b j a V
theorem reach_ok{cells:List (List Val)}(a:vv cells){vs:List Val}(c:∀v∈vs,jY cells.length v):yn cells.length (Ol cells vs)/\uf vs (Ol cells vs)/\∀x∈Ol cells vs,uf (cellAt cells x) (Ol cells vs):=by
 have b:yn cells.length (Tc [] vs):=yn.nil.l c;refine⟨yn.Z4 a b,(metL_in vs []).pre (bfs_pre _ _ _ _),bfs_in a b (by have:=a.1;omega) (fun j e d=>absurd d (Nat.not_lt_zero _))⟩
theorem lk_lput{α:Type}(k a:Int)(v:α):∀l:List (Int×α),lk k (LB a v l)=if k=a then some v else lk k l
  |[]=>by unfold LB lk;by_cases h:k=a<;>simp[h,lk]
  |p::l=>by
    unfold LB;by_cases h:a=p.1
    · rw[if_pos h];show(if k=p.1 then some v else lk k l)=if k=a then some v else(if k=p.1 then some p.2 else lk k l)
      by_cases e:k=p.1
      · rw[if_pos e,if_pos V]
      · rw[if_neg e,if_neg V,if_neg e]
    · rw[if_neg h];show(if k=p.1 then some p.2 else lk k (LB a v l))=if k=a then some v else(if k=p.1 then some p.2 else lk k l)
      by_cases e:k=p.1
      · rw[if_pos e,if_pos e,if_neg V]
      · rw[if_neg e,if_neg e,lk_lput k a v l]
def Seen(l:List Int)(m:List (Int×Bool)):Prop:=∀k,(lk k m).getD false=decide (k∈l)
theorem Seen.nil:Seen [] []:=fun k=>rfl
theorem Seen.put{l:List Int}{m:List (Int×Bool)}(h:Seen l m)(n:Int):Seen (l++[n]) (LB n true m):=by
  intro k;rw[lk_lput];by_cases e:k=n
  · simp[e]
  · rw[if_neg e,h k,Bool.eq_iff_iff];simp[e]
theorem Td{ρ:Type}{body:Val->List Int×List (Int×Bool)->(List Int×List (Int×Bool)->Option ρ)->Option ρ}{K:List Int×List (Int×Bool)->Option ρ}
    (c:∀x l m b,l.length<=1000->body x (l,m) b=bif (decide (x.kind=2)&&(!((lk x.n m).getD false)))then b (l++[x.n],LB x.n true m)else b (l,m)):
    ∀(vs:List Val) (l:List Int) (m:List (Int×Bool)),Seen l m->l.length+vs.length<=1000->∃d,Seen (Tc l vs) d/\each body K vs (l,m)=K (Tc l vs,d)
  |[],l,m,h,_=>⟨m,h,rfl⟩
  |v::vs,l,m,h,hl=>by
    simp only[List.length_cons]at hl;rw[iC,c v l m _ V,h v.n,Pf];unfold Ta;by_cases a:v.kind=2/\v.n∉l
    · rw[if_pos a,dT a.1,dF a.2,Bool.true_and,Bool.not_false,cond_true];exact Td c vs _ _ (h.put v.n) (by simp;omega)
    · rw[if_neg a,show(decide (v.kind=2)&& !decide (v.n∈l))=false by rw[Bool.and_eq_false_iff];simp;simp only[not_and,Decidable.not_not]at a;by_cases e:v.kind=2<;>simp[e,a],cond_false];exact Td c vs _ _ h V
theorem bfs_loop{cells:List (List Val)}(e:vv cells):∀(m N k:Nat) (l:List Int) (s:List (Int×Bool)),yn cells.length l->Seen l s->cells.length<k+m->m<N->k<=l.length->again (si cells) N ((k:Int),l,s)=some (Z4 cells m k l,0)
  |m,0,k,l,s,h,hs,hm,hN,hk=>by omega
  |0,N+1,k,l,s,h,hs,hm,hN,hk=>by have:=h.len;omega
  |m+1,N+1,k,l,s,h,hs,hm,hN,hk=>by
    rw[GJ];unfold si Proofs.YtodkbibbgakkdaaGreatDoor.Z4;simp only;have j:=h.len;have hn:=e.1;by_cases a:k<l.length
    · rw[dT V,cond_true,wI a,bnd,dif_pos a];have g:=h.2 _<|List.getElem_mem a;have i:=e.at g;rw[(Mt g).1,bnd];have o:(fun(s:Int×List Int×List (Int×Bool))(c:Int×List Int×List (Int×Bool)->Option (List Int×Int))=>match s with|(b,OL,GQ)=>bif decide ((b:Int)<(OL.length:Int))then(idx OL b).bind fun f=>(idx cells f).bind fun d=>each yX (yY b c) d (OL,GQ)else some (OL,0))=si cells:=rfl;rw[o];obtain⟨r,p,q⟩:=Td (body:=yX) (K:=yY (k:Int) (again (si cells) N)) (fun x l m t j=>by
        unfold yX;simp only[CY];cases (decide (x.kind=2)&&(!((lk x.n m).getD false)))with
        |false=>rfl
        |true=>rw[cond_true,cond_true,j5 (room_le (by simp;omega) zq1)]) (cellAt cells l[k]) l s hs (by have:=i.1.2;omega)
      rw[q];unfold yY;simp only;rw[gI V V];have hp:=(Om (cellAt cells l[k]) l).length_le;exact bfs_loop e m N (k+1) _ r (h.l i.2) p V V V
    · rw[dF V,cond_false,dif_neg a]
theorem reach_eq{N:Nat}(hN:100<=N){cells:List (List Val)}(b:vv cells){vs:List Val}(a:∀v∈vs,jY cells.length v)(c:vs.length<=400):L8 N cells vs=some (Ol cells vs,0):=by
 unfold L8;rw[(all_ok cells).2 b,dF zq3,cond_false,dF V,cond_false];have k1:∀l:List Val,(∀v∈l,jY cells.length v)->each (C8 cells) (yZ N cells vs) l ()=yZ N cells vs ():=by
  intro l;induction l with
  |nil=>intro _;rfl
  |cons x l ih=>
   intro h;rw[iC];unfold C8;rw[(wo _ _).2 (h x zq3),dF zq3,cond_false];exact ih fun v a=>h v<|List.mem_cons_of_mem _ a
 rw[k1 vs a];unfold yZ;obtain⟨f,d,e⟩:=Td (body:=CZ) (K:=H5 N cells) (fun x l m g c=>by
  unfold CZ;simp only[CX];cases (decide (x.kind=2)&&(!((lk x.n m).getD false)))with
  |false=>rfl
  |true=>rw[cond_true,cond_true,j5 (room_le (by simp;omega) zq1)]) vs [] [] Seen.nil (by simp;omega)
 rw[e];exact bfs_loop b 25 N 0 _ f (yn.nil.l a) d (by have:=b.1;omega) V V
def ren(l:List Int)(v:Val):Val:=if v.kind=2 then⟨v.kind,(l.idxOf v.n:Nat)⟩else v
def PG(l:List Int)(f:LX.Frame):LX.Frame:={f with regs:=f.regs.map (ren l)}
def roots(a:List LX.Frame):List Val:=a.flatMap (·.regs)
def mq(s:LX.State):List Int:=Ol s.cells (roots s.frames)
def jo(s:LX.State):LX.State:=⟨s.frames.map (PG (mq s)),(mq s).map (fun k=>(cellAt s.cells k).map (ren (mq s))),s.status,s.bP⟩
structure VC(s:LX.State):Prop where
 small:Small s
 cells:vv s.cells
 vals:∀f∈s.frames,∀v∈f.regs,jY s.cells.length v
theorem yu.sw{a:List bL}{s:LX.State}(h:yu a s)(ha:pW a):VC s where
 small:=h.small ha
 cells:=h.cells
 vals f hf:=by obtain⟨x,g⟩:=zQ h.frames f hf;exact g.vals
theorem VC.roots{s:LX.State}(h:VC s):∀v∈roots s.frames,jY s.cells.length v:=by
 intro v a;unfold YtodkbibbgakkdaaGreatDoor.roots at a;obtain⟨f,b,a⟩:=List.mem_flatMap.1 a;exact h.vals f b v a
theorem roots_len(a:List LX.Frame)(h:∀f∈a,f.regs.length<=40):(roots a).length<=40*a.length:=by
 induction a with
 |nil=>simp[roots]
 |cons f l ih=>
  have:=h f zq3;have:=ih fun g b=>h g<|List.mem_cons_of_mem _ b;unfold roots at*;rw[List.flatMap_cons,List.length_append,List.length_cons];omega
theorem VC.rlen{s:LX.State}(h:VC s):(YtodkbibbgakkdaaGreatDoor.roots s.frames).length<=400:=by
 have:=roots_len s.frames h.small.regs;have:=h.small.frames;omega
theorem VC.reach{s:LX.State}(h:VC s):yn s.cells.length (mq s)/\uf (YtodkbibbgakkdaaGreatDoor.roots s.frames) (mq s)/\∀x∈mq s,uf (cellAt s.cells x) (mq s):=reach_ok h.cells h.roots
theorem map_loop{α ρ:Type}{body:Int->List α->(List α->Option ρ)->Option ρ}{K:List α->Option ρ}{g:α->α}{P:α->Prop}
  (e:∀(i:Nat) (x:List α) a nx,x[i]? =some a->P a->body (i:Int) x nx=nx (x.set i (g a))):
  ∀(d c:List α),(∀a∈d,P a)->upto body K (c.length:Int) d.length (c++d)=K (c++d.map g)
 |[],c,_=>by simp[upto]
 |a::d,c,h=>by
  rw[List.length_cons,VA,e c.length (c++a::d) a _ zq3 (h a zq3)];have:=map_loop (K:=K) e d (c++[g a]) fun b e=>h b<|List.mem_cons_of_mem _ e;rw[show(c++a::d).set c.length (g a)=(c++[g a])++d by simp,show((c.length:Int)+1)=((c++[g a]).length:Nat) by simp,this];simp
theorem VD{α ρ:Type}{body:Int->List α->(List α->Option ρ)->Option ρ}{K:List α->Option ρ}{g:α->α}{P:α->Prop}
  (b:∀(i:Nat) (x:List α) a nx,x[i]? =some a->P a->body (i:Int) x nx=nx (x.set i (g a))) (l:List α) (hp:∀a∈l,P a):upto body K 0 l.length l=K (l.map g):=by
 have:=map_loop (K:=K) b l [] hp;simpa using this
def Y3(l:List Int)(m:List (Int×Int)):Prop:=∀k,lk k m=if k∈l then some ((l.idxOf k:Nat):Int)else none
theorem turn_eq{l:List Int}{m:List (Int×Int)}(h:Y3 l m)(vs:List Val)(e:uf vs l):XR vs m=some (vs.map (ren l)):=by
  unfold XR;rw[Int.toNat_natCast];refine VD (P:=fun v=>v.kind=2->v.n∈l) (fun i x a g c hp=>?_) vs fun v f=>e v f;unfold Uf OU;rw[kD,c,bnd];by_cases b:a.kind=2
  · rw[dT b,cond_true,h a.n,if_pos (hp b)];simp[ren,b]
  · rw[dF b,cond_false];have:x.set i a=x:=by
      obtain⟨d,rfl⟩:=List.getElem?_eq_some_iff.1 c;exact List.set_getElem_self d
    simp[ren,b,this]
theorem Y4{s:LX.State}(l:vv s.cells){K:List (List Val)×List Int×List (Int×Int)->Option LX.State}:∀(b a:List Int) (m:List (Int×Int)),yn s.cells.length (a++b)->Y3 a m->
    ∃f,Y3 (a++b) f/\fM (zJ s) K (a.length:Int) b (a.map (cellAt s.cells),a,m)=K ((a++b).map (cellAt s.cells),a++b,f)
  |[],a,m,_,h=>⟨m,by simpa using h,by simp[fM]⟩
  |k::b,a,m,hm,h=>by
    have i:a++k::b=(a++[k])++b:=by simp
    have g:k∉a:=by
      intro g;exact(List.nodup_append.1 hm.1).2.2 k g k zq3 Z
    have n:=hm.len;have hn:=l.1;simp only[List.length_append,List.length_cons]at n;have p:=hm.2 k zq3;rw[wH];obtain⟨f,o,j⟩:=Y4 l (K:=K) b (a++[k]) (LB k (a.length:Int) m) (by rw[<-i];exact hm) (fun q=>by
      rw[lk_lput];by_cases e:q=k
      · subst e;rw[if_pos rfl,if_pos zq3,List.idxOf_append,if_neg g];simp
      · rw[if_neg e,h q];by_cases d:q∈a
        · rw[if_pos d,if_pos (by simp[d]),List.idxOf_append,if_pos d]
        · rw[if_neg d,if_neg (by simp[d,e])])
    refine⟨f,by rw[i];exact o,?_⟩;have c:(((a++[k]).length:Nat):Int)=(a.length:Int)+1:=by simp
    rw[c]at j;rw[i,<-j];generalize fM (zJ s) K ((a.length:Int)+1) b=K1;unfold zJ;simp only;rw[(Mt p).1,bnd,j5 g,j5 (room_le (by simp;omega) zq1),List.map_append];rfl
theorem frames_sweep{l:List Int}{m:List (Int×Int)}(h:Y3 l m)(K:List LX.Frame->Option LX.State)(b:List LX.Frame)(c:∀f∈b,uf f.regs l):upto (Gw m) K 0 b.length b=K (b.map (PG l)):=
 VD (P:=fun f=>uf f.regs l) (fun i x a e d hp=>by
  unfold Gw;rw[kD,d,bnd,turn_eq h a.regs hp,bnd];simp[PG]) b c
theorem cells_sweep{l:List Int}{m:List (Int×Int)}(h:Y3 l m)(K:List (List Val)->Option LX.State)(cs:List (List Val))(b:∀c∈cs,uf c l):upto (Jr m) K 0 cs.length cs=K (cs.map (fun c=>c.map (ren l))):=
 VD (P:=fun c=>uf c l) (fun i x a e d hp=>by
  unfold Jr;rw[kD,d,bnd,turn_eq h a hp,bnd];simp) cs b
theorem root_loop{K:List Val->Option LX.State}:∀(b:List LX.Frame) (a:List Val),a.length+(roots b).length<=1000->each Da K b a=K (a++roots b)
 |[],a,_=>by simp[qw,roots]
 |f::b,a,h=>by
  have e:roots (f::b)=f.regs++roots b:=rfl;rw[e,List.length_append]at h;rw[iC];have c:=root_loop (K:=K) b (a++f.regs) (by simp;omega);generalize each Da K b=K1 at c⊢;unfold Da;rw[j5 (room_le V zq1),c,e,List.append_assoc]
theorem Y5{a:List LX.Frame}{l:List Int}(h:uf (roots a) l):∀f∈a,uf f.regs l:=fun f d v b c=>h v (List.mem_flatMap.2 ⟨f,d,b⟩) c
theorem Y6{N:Nat}(hN:100<=N){s:LX.State}(h:VC s):H6 N s=some (jo s):=by
 have d:=h.reach;unfold H6;rw[root_loop s.frames [] (by have:=h.rlen;simp;omega),List.nil_append];unfold Mf;rw[reach_eq hN h.cells h.roots h.rlen,bnd,dF zq3,cond_false,copy_eq h.small,bnd];have e:Ol s.cells (roots s.frames)=mq s:=rfl;simp only[e];obtain⟨j,b,g⟩:=Y4 h.cells (K:=C9 s) (mq s) [] [] (by simpa using d.1) (fun k=>by simp[lk]);have a:fM (zJ s) (C9 s) 0 (mq s) ([],([]:List Int),([]:List (Int×Int)))=_:=g;rw[a];simp only[List.nil_append]at b⊢;unfold C9;simp only[Int.toNat_natCast];rw[frames_sweep b _ _ (Y5 d.2.1)];unfold Me;rw[Int.toNat_natCast,cells_sweep b _ _ (fun c i=>by
  obtain⟨k,f,rfl⟩:=List.mem_map.1 i;exact d.2.2 k f)]
 unfold Md jo;rw[List.map_map];rfl
def tF(r:List Val)(i:Int):Val:=(idx r i).getD ⟨0,0⟩
def opP(k:Int)(b c:Val):Option Val:=
 if k=5 then some ⟨1,if b=c then 1 else 0⟩else if b.kind≠1\/c.kind≠1 then none else if k=4 then some ⟨1,if b.n<c.n then 1 else 0⟩else
 let n:=if k=1 then b.n+c.n else if k=2 then b.n-c.n else b.n*c.n
 if-1000000000<=n/\n<=1000000000 then some ⟨1,n⟩else none
def Z5(f:LX.Frame)(x:bL):LX.Frame:={f with at_:=min (f.at_+1) ((x.code.length:Int)-1)}
def newP(s:LX.State)(c:Ins):Option LX.State:=
 if s.cells.length=24 then none else some ⟨s.frames.dropLast++(s.frames.getLast?.map fun h=>{h with regs:=h.regs.set c.a.toNat ⟨2,s.cells.length⟩}).toList,s.cells++[List.replicate c.b.toNat ⟨0,0⟩],s.status,s.bP⟩
def uW(a:List bL)(pre:List LX.Frame)(f:LX.Frame)(cells:List (List Val))(st wh:Int)(x:bL)(c:Ins):Option (LX.State×Option Int×Bool):=
  let g:=Z5 f x;let r:=tF f.regs;let put:=fun(v:Val)=>(⟨pre++[{g with regs:=f.regs.set c.a.toNat v}],cells,st,wh⟩:LX.State);let d:=(⟨pre++[g],cells,st,wh⟩:LX.State);let jump:=(⟨pre++[{g with at_:=c.b}],cells,st,wh⟩:LX.State);let e:=fun(v:Val)=>v.kind≠2\/((cellAt cells v.n).length:Int)<=c.c
  if c.op=1 then some (put ⟨1,c.b⟩,none,false)else
  if c.op=2 then some (put (r c.b),none,false)else
  if c.op=3 then(opP (c.args.headD 0) (r c.b) (r c.c)).map fun v=>(put v,none,false)else
  if c.op=4 then(if e (r c.b)then none else some (put (tF (cellAt cells (r c.b).n) c.c),none,false))else
  if c.op=6 then(if e (r c.a)then none else some (⟨pre++[g],cells.set (r c.a).n.toNat ((cellAt cells (r c.a).n).set c.c.toNat (r c.b)),st,wh⟩,none,false))else
  if c.op=5 then(newP (if cells.length=24 then jo d else d) c).map fun t=>(t,none,false)else
  if c.op=7 then(if pre.length+1=10 then none else some (⟨pre++[g]++[⟨c.b,0,c.args.map r++List.replicate (((idx a c.b).map (·.regs)).getD 0-c.args.length).toNat ⟨0,0⟩,c.a⟩],cells,st,wh⟩,none,false))else
  if c.op=8 then some (match pre.getLast? with
    |none=>⟨[],cells,1,wh⟩
    |some h=>⟨pre.dropLast++[{h with regs:=h.regs.set f.jy.toNat (r c.a)}],cells,st,wh⟩,none,false)else
  if c.op=9 then(if(r c.a).kind=1 then some (d,some (r c.a).n,false)else none)else
  if c.op=11 then(if(r c.a).kind=1 then some (⟨pre++[g],cells,3,(r c.a).n⟩,none,true)else none)else
  if c.op=12 then some (jump,none,false)else
  if c.op=13 then some (if(r c.a).kind≠2/\(r c.a).n=0 then jump else d,none,false)else
  some (d,none,true)
def R1(r:Option (Qb×Bool×LX.State))(q:Option (LX.State×Option Int×Bool)):Prop:=∃o a b,r=some (o,a,b)/\match q with|none=>a=false|some (t,said,p)=>a=true/\b=t/\o=⟨said.isSome,said.getD 0,p⟩
theorem Oo{R:Int}{r:List Val}(b:(r.length:Int)=R){i:Int}(h:IX R i):idx r i=some (tF r i)/\tF r i∈r:=by
 obtain⟨a,c⟩:=h;obtain⟨n,rfl⟩:=Int.eq_ofNat_of_zero_le a;unfold tF;rw[wI V];exact⟨Z,List.getElem_mem _⟩
theorem Te(pre:List LX.Frame)(f:LX.Frame):idx (pre++[f]) (pre.length:Int)=some f:=by rw[kD];simp
theorem zS(pre:List LX.Frame)(f g:LX.Frame):(pre++[f]).set pre.length g=pre++[g]:=by simp
theorem wY(pre:List LX.Frame)(f:LX.Frame):(((pre++[f]).length:Int)-1)=(pre.length:Int):=by simp
theorem mul_bd{x y:Int}(a: -1000000000<=x/\x<=1000000000)(b: -1000000000<=y/\y<=1000000000): -1000000000000000000<=x*y/\x*y<=1000000000000000000:=by
 have c:(x*y).natAbs<=1000000000*1000000000:=by
  rw[Int.natAbs_mul];exact Nat.mul_le_mul V V
 omega
theorem jY.int{n:Nat}{v:Val}(h:jY n v)(a:v.kind=1): -1000000000<=v.n/\v.n<=1000000000:=by unfold jY at h;omega
theorem op_eq{n:Nat}{k:Int}{b c:Val}(r:1<=k/\k<=5)(i:jY n b)(m:jY n c):∃v,vm_op k b c=some (v,(opP k b c).isSome)/\∀w,opP k b c=some w->v=w:=by
  unfold vm_op opP KU;by_cases f:k=5
  · rw[dT f,cond_true,if_pos f];by_cases e:b=c
    · subst e;simp
    · rw[if_neg e];have:(decide (b.kind=c.kind)&&decide (b.n=c.n))=false:=by
        obtain⟨k1,q⟩:=b;obtain⟨k2,p⟩:=c;rw[Bool.and_eq_false_iff];simp at e⊢;by_cases h:k1=k2
        · right;exact e h
        · left;exact h
      rw[this];simp
  rw[dF f,cond_false,if_neg f];by_cases d:b.kind=1/\c.kind=1
  · rw[show(decide ((b.kind:Int)≠1)||decide ((c.kind:Int)≠1))=false by simp[d.1,d.2],cond_false,if_neg (by simp[d.1,d.2])];have o:=i.int d.1;have c1:=m.int d.2;have m1:=mul_bd o c1;have a:∀z:Int,∃v,some ((⟨1,z⟩:Val),(decide ((-1000000000:Int)<=z)&&decide ((z:Int)<=1000000000)))=some (v,(if-1000000000<=z/\z<=1000000000 then some (⟨1,z⟩:Val)else none).isSome)/\∀w,(if-1000000000<=z/\z<=1000000000 then some (⟨1,z⟩:Val)else none)=some w->v=w:=by
      intro z;by_cases h: -1000000000<=z/\z<=1000000000
      · rw[if_pos h,dT h.1,dT h.2];exact⟨_,Z,fun w e=>by cases e;rfl⟩
      · rw[if_neg h];refine⟨⟨1,z⟩,?_,fun w e=>by cases e⟩
        · congr 2;rw[Option.isSome_none,Bool.and_eq_false_iff];simp only[decide_eq_false_iff_not];omega
    by_cases g:k=4
    · subst g;rw[if_pos rfl];simp only[Int.reduceEq,decide_false,decide_true,cond_false,cond_true];by_cases e:b.n<c.n<;>simp[e]
    rw[if_neg g];by_cases j:k=1
    · subst j;simp only[Int.reduceEq,decide_true,cond_true,if_true];rw[gI V V];exact a _
    by_cases l:k=2
    · subst l;simp only[Int.reduceEq,decide_true,decide_false,cond_true,cond_false,if_true,if_false];rw[gI V V];exact a _
    · obtain rfl:k=3:=by omega
      simp only[Int.reduceEq,decide_true,decide_false,cond_true,cond_false,if_true,if_false];rw[gI V V];exact a _
  · rw[show(decide ((b.kind:Int)≠1)||decide ((c.kind:Int)≠1))=true by simp;omega,cond_true,if_pos V];exact⟨_,Z,fun w e=>by cases e⟩
theorem qV{a:List bL}{n:Nat}{f:LX.Frame}:∀{l:List LX.Frame} {t:Int},mW a n t (l++[f])↔mW a n t l/\(∃x,J2 a n f x)/\(0<=f.jy/\f.jy<(match l.getLast? with|none=>t|some g=>g.regs.length))
 |[],t=>by simp[mW]
 |g::l,t=>by
  show((∃x,J2 a n g x)/\(0<=g.jy/\g.jy<t)/\mW a n g.regs.length (l++[f]))↔_;rw[qV (l:=l)];have e:(match (g::l).getLast? with|none=>t|some g=>((g.regs.length:Int)))=(match l.getLast? with|none=>((g.regs.length:Int))|some g=>(g.regs.length:Int)):=by
   rw[List.getLast?_cons];cases l.getLast?<;>rfl
  rw[e];simp only[mW,and_assoc]
structure zq(a:List bL)(pre:List LX.Frame)(f:LX.Frame)(cells:List (List Val))(x:bL)(c:Ins):Prop where
 fr:J2 a cells.length f x
 ins:idx x.code f.at_=some c
 good:MS a x.regs x.code.length c
 chain:mW a cells.length 1 pre
 jy:0<=f.jy/\f.jy<ahead pre
 many:pre.length+1<=10
 cok:vv cells
 proc:(1<=x.regs/\x.regs<=40)/\sU x
theorem top_ok{a:List bL}(e:pW a){pre:List LX.Frame}{f:LX.Frame}{cells:List (List Val)}{st wh:Int}(h:yu a ⟨pre++[f],cells,st,wh⟩):∃x c,zq a pre f cells x c:=by
 obtain⟨j,⟨x,g⟩,i⟩:=qV.1 h.frames;have d:=e.mem g.proc;have hat:=g.at_;obtain⟨n,hn⟩:=Int.eq_ofNat_of_zero_le hat.1;have b:n<x.code.length:=by omega
 refine⟨x,x.code[n],g,by rw[hn,wI b],e.ins x d.1 _<|List.getElem_mem _,j,i,?_,h.cells,⟨by omega,d.2.2.2⟩⟩;have:=h.many;simpa using this
theorem zq.Z5{a:List bL}{pre:List LX.Frame}{f:LX.Frame}{cells:List (List Val)}{x:bL}{c:Ins}(h:zq a pre f cells x c):J2 a cells.length (Z5 f x) x where
 proc:=h.fr.proc
 at_:=by
  have:=h.fr.at_;have:=h.proc.2;unfold sU at this;simp only[YtodkbibbgakkdaaGreatDoor.Z5];omega
 regs:=h.fr.regs
 vals:=h.fr.vals
theorem zq.reg{a:List bL}{pre:List LX.Frame}{f:LX.Frame}{cells:List (List Val)}{x:bL}{c:Ins}(h:zq a pre f cells x c){i:Int}(b:IX x.regs i):idx f.regs i=some (tF f.regs i)/\jY cells.length (tF f.regs i):=by
 have:=Oo h.fr.regs b;exact⟨this.1,h.fr.vals _ this.2⟩
theorem zq.sw{a:List bL}{pre:List LX.Frame}{f:LX.Frame}{cells:List (List Val)}{x:bL}{c:Ins}(ha:pW a)(h:zq a pre f cells x c){st wh:Int}{g:LX.Frame}(hg:J2 a cells.length g x):VC ⟨pre++[g],cells,st,wh⟩ where
  small:=⟨by have:=h.many;simp;omega,fun k hk=>by
    rcases List.mem_append.1 hk with hk|hk
    · obtain⟨y,hy⟩:=zQ h.chain k hk;have:=hy.regs;have:=(ha.mem hy.proc).2.2.1;omega
    · simp at hk;subst hk;have:=hg.regs;have:=h.proc.1;omega,h.cok.1,fun c hc=>(h.cok.2 c hc).1.2⟩
  cells:=h.cok
  vals k hk:=by
    rcases List.mem_append.1 hk with hk|hk
    · obtain⟨y,hy⟩:=zQ h.chain k hk;exact hy.vals
    · simp at hk;subst hk;exact hg.vals
section
variable{a:List bL}{pre:List LX.Frame}{f:LX.Frame}{cells:List (List Val)}{st wh:Int}{x:bL}{c:Ins}{N:Nat}
theorem DC(h:zq a pre f cells x c):wU N ⟨pre++[f],cells,st,wh⟩ a=(bif decide ((c.op:Int)=1)then(idx f.regs c.a).bind fun l=>qm false (pre++[{Z5 f x with regs:=(f.regs.set (c.a).toNat (⟨1,c.b⟩:Val))}]) cells st wh else bif decide ((c.op:Int)=2)then(idx f.regs c.b).bind fun m=>(idx f.regs c.a).bind fun j=>qm false (pre++[{Z5 f x with regs:=(f.regs.set (c.a).toNat m)}]) cells st wh else bif decide ((c.op:Int)=3)then(idx c.args 0).bind fun n=>(idx f.regs c.b).bind fun g=>(idx f.regs c.c).bind fun e=>(vm_op n g e).bind fun d=>(idx f.regs c.a).bind fun i=>Mr ⟨pre++[f],cells,st,wh⟩ d.2 (pre++[{Z5 f x with regs:=(f.regs.set (c.a).toNat d.1)}])else bif decide ((c.op:Int)=4)then mF N ⟨pre++[f],cells,st,wh⟩ f x c a (decide ((c.op:Int)=4))else mF N ⟨pre++[f],cells,st,wh⟩ f x c a (decide ((c.op:Int)=6))):=by
 have o:=h.many;have hat:=h.fr.at_;have k:=h.proc.2;unfold sU at k;unfold wU;simp only[wY];rw[gI V V,Te,bnd,h.fr.proc,bnd,h.ins,bnd,gI V V,gI V V];simp only[Int.toNat_natCast,zS];rfl
theorem step1(h:zq a pre f cells x c)(b:c.op=1)(d:IX x.regs c.a):R1 (wU N ⟨pre++[f],cells,st,wh⟩ a) (uW a pre f cells st wh x c):=by
 rw[DC h,b];simp only[Int.reduceEq,decide_true,decide_false,cond_true,cond_false];rw[(h.reg d).1,bnd];unfold uW;simp only[b,if_true];exact⟨_,_,_,Z,Z,Z,Z⟩
theorem step2(h:zq a pre f cells x c)(d:c.op=2)(e:IX x.regs c.a)(g:IX x.regs c.b):R1 (wU N ⟨pre++[f],cells,st,wh⟩ a) (uW a pre f cells st wh x c):=by
 rw[DC h,d];simp only[Int.reduceEq,decide_true,decide_false,cond_true,cond_false];rw[(h.reg g).1,bnd,(h.reg e).1,bnd];unfold uW;simp only[d,Int.reduceEq,if_true,if_false];exact⟨_,_,_,Z,Z,Z,Z⟩
theorem step3(h:zq a pre f cells x c)(d:c.op=3)(l:IX x.regs c.a)(i:IX x.regs c.b)(j:IX x.regs c.c){n:Int}(hn:c.args=[n])(g:1<=n/\n<=5):R1 (wU N ⟨pre++[f],cells,st,wh⟩ a) (uW a pre f cells st wh x c):=by
 rw[DC h,d,hn];simp only[Int.reduceEq,decide_true,decide_false,cond_true,cond_false];obtain⟨v,k,m⟩:=op_eq g (h.reg i).2 (h.reg j).2;rw[idx0,bnd,(h.reg i).1,bnd,(h.reg j).1,bnd,k,bnd,(h.reg l).1,bnd];unfold uW Mr;simp only[d,hn,Int.reduceEq,if_true,if_false,List.headD_cons];cases e:opP n (tF f.regs c.b) (tF f.regs c.c)with
 |none=>exact⟨_,_,_,rfl,rfl⟩
 |some w=>rw[m w e];exact⟨_,_,_,Z,Z,Z,Z⟩
theorem idx_cell{v:Val}(c:vv cells)(h:jY cells.length v)(b:v.kind=2):idx cells v.n=some (cellAt cells v.n)/\(1<=(cellAt cells v.n).length/\(cellAt cells v.n).length<=4):=by
 have a:=h.ref b;exact⟨(Mt a).1,(c.at a).1⟩
theorem idx_fld{v:Val}{i:Int}(a:0<=i)(h:i<((cellAt cells v.n).length:Int)):idx (cellAt cells v.n) i=some (tF (cellAt cells v.n) i):=(Oo Z ⟨a,h⟩).1
theorem field_get(h:zq a pre f cells x c)(d:c.op=4)(k:IX x.regs c.a)(m:IX x.regs c.b)(l:0<=c.c/\c.c<4):R1 (wU N ⟨pre++[f],cells,st,wh⟩ a) (uW a pre f cells st wh x c):=by
  rw[DC h,d];simp only[Int.reduceEq,decide_true,decide_false,cond_true,cond_false];unfold mF SA FE FD;simp only[wY,Int.toNat_natCast,zS,d,Int.reduceEq,decide_true,decide_false,cond_true,cond_false];have j:=h.reg m;rw[j.1];simp only[bnd];unfold uW;simp only[d,Int.reduceEq,if_true,if_false];by_cases g:(tF f.regs c.b).kind=2
  · have e:=idx_cell h.cok j.2 g;rw[dF V,cond_false,e.1];simp only[bnd];by_cases i:((cellAt cells (tF f.regs c.b).n).length:Int)<=c.c
    · rw[dT i,cond_true,if_pos V];exact⟨_,_,_,Z,Z⟩
    · rw[dF i,cond_false,if_neg V,idx_fld l.1 V,bnd,(h.reg k).1,bnd];exact⟨_,_,_,Z,Z,Z,Z⟩
  · rw[dT g,cond_true,if_pos (.inl g)];exact⟨_,_,_,Z,Z⟩
theorem field_put(h:zq a pre f cells x c)(d:c.op=6)(k:IX x.regs c.a)(m:IX x.regs c.b)(l:0<=c.c/\c.c<4):R1 (wU N ⟨pre++[f],cells,st,wh⟩ a) (uW a pre f cells st wh x c):=by
  rw[DC h,d];simp only[Int.reduceEq,decide_true,decide_false,cond_true,cond_false];unfold mF SA FE FD;simp only[wY,Int.toNat_natCast,zS,d,Int.reduceEq,decide_true,decide_false,cond_true,cond_false];have j:=h.reg k;rw[j.1];simp only[bnd];unfold uW;simp only[d,Int.reduceEq,if_true,if_false];by_cases g:(tF f.regs c.a).kind=2
  · have e:=idx_cell h.cok j.2 g;rw[dF V,cond_false,e.1];simp only[bnd];by_cases i:((cellAt cells (tF f.regs c.a).n).length:Int)<=c.c
    · rw[dT i,cond_true,if_pos V];exact⟨_,_,_,Z,Z⟩
    · rw[dF i,cond_false,if_neg V,(h.reg m).1,bnd,idx_fld l.1 V,bnd];exact⟨_,_,_,Z,Z,Z,Z⟩
  · rw[dT g,cond_true,if_pos (.inl g)];exact⟨_,_,_,Z,Z⟩
theorem sweep_top(g:LX.Frame):jo ⟨pre++[g],cells,st,wh⟩=⟨pre.map (PG (mq ⟨pre++[g],cells,st,wh⟩))++[PG (mq ⟨pre++[g],cells,st,wh⟩) g],(jo ⟨pre++[g],cells,st,wh⟩).cells,st,wh⟩:=by
 unfold jo;simp
theorem sweep_len{s:LX.State}(h:VC s):(jo s).cells.length<=s.cells.length/\(jo s).cells.length<=24:=by
 have a:=h.reach.1.len;have:=h.cells.1;unfold jo;simp;omega
theorem fresh_j1(d:List LX.Frame)(g:LX.Frame)(cs:List (List Val))(j:d.length<=20)(i:cs.length<=24)(f:IX g.regs.length c.a)(k:1<=c.b/\c.b<=4):∃e t,zh c (d++[g]) cs st wh=some (e,t)/\match newP ⟨d++[g],cs,st,wh⟩ c with|none=>e=false|some u=>e=true/\t=u:=by
  unfold zh newP;simp only[wY];by_cases h:cs.length=24
  · rw[dT V,cond_true,if_pos h];exact⟨_,_,Z,Z⟩
  · rw[dF V,cond_false,if_neg h,gI V V,Te,bnd,(Oo rfl f).1,bnd,j5 V,j5 (room_le (by simp;omega) zq1),Int.toNat_natCast,zS];refine⟨_,_,Z,Z,?_⟩;simp
theorem step5(s:pW a)(hN:100<=N)(h:zq a pre f cells x c)(g:c.op=5)(q:IX x.regs c.a)(o:1<=c.b/\c.b<=4):R1 (wU N ⟨pre++[f],cells,st,wh⟩ a) (uW a pre f cells st wh x c):=by
  rw[DC h,g];simp only[Int.reduceEq,decide_true,decide_false,cond_true,cond_false];unfold mF Yi;simp only[wY,Int.toNat_natCast,zS,g,Int.reduceEq,decide_true,decide_false,cond_true,cond_false];unfold uW;simp only[g,Int.reduceEq,if_true,if_false];have v:=h.many;have k:=zq.sw s h (st:=st) (wh:=wh) h.Z5;have m:IX (Z5 f x).regs.length c.a:=by have:=h.Z5.regs;rw[this];exact q
  have l:∀d:LX.State,(∃n t,zh c d.frames d.cells d.status d.bP=some (n,t)/\match newP d c with|none=>n=false|some u=>n=true/\t=u)->
      R1 ((zh c d.frames d.cells d.status d.bP).bind fun y=>some ((⟨false,0,false⟩:Qb),y.1,y.2)) ((newP d c).map fun t=>(t,none,false)):=by
    rintro d⟨n,t,p,i⟩;rw[p,bnd];cases e:newP d c with
    |none=>rw[e]at i;exact⟨_,_,_,Z,i⟩
    |some u=>rw[e]at i;exact⟨_,_,_,Z,i.1,i.2,Z⟩
  by_cases j:cells.length=24
  · rw[dT V,cond_true,if_pos j];have r:({f with at_:=min (f.at_+1) ((x.code.length:Int)-1)}:LX.Frame)=Z5 f x:=rfl;rw[r,Y6 hN k,bnd];refine l _ ?_;rw[sweep_top];exact fresh_j1 _ _ _ (by simp;omega) (sweep_len k).2 (by simpa[PG]using m) o
  · rw[dF V,cond_false,if_neg j];exact l ⟨pre++[Z5 f x],cells,st,wh⟩<|fresh_j1 _ _ _ V h.cok.1 m o
theorem fill_loop{ρ:Type}{body:Int->Int->List Val->(List Val->Option ρ)->Option ρ}{K:List Val->Option ρ}{r:Int->Val}{P:Int->Prop}
  (b:∀(i:Nat) k y nx,i<y.length->P k->body (i:Int) k y nx=nx (y.set i (r k))):∀(l:List Int) (a rest:List Val),(∀k∈l,P k)->l.length<=rest.length->fM body K (a.length:Int) l (a++rest)=K (a++l.map r++rest.drop l.length)
 |[],a,rest,_,_=>by simp[fM]
 |k::l,a,z::rest,h,hl=>by
  rw[wH,b a.length k (a++z::rest) _ zq3 (h k zq3),show(a++z::rest).set a.length (r k)=(a++[r k])++rest by simp,show((a.length:Int)+1)=((a++[r k]).length:Nat) by simp,fill_loop b l (a++[r k]) rest (fun q c=>h q (List.mem_cons_of_mem _ c)) (by simpa using hl)];simp
 |k::l,a,[],h,hl=>by simp at hl
theorem step7(s:pW a)(h:zq a pre f cells x c)(e:c.op=7)(A:IX x.regs c.a){p:bL}(hp:idx a c.b=some p)(w:(c.args.length:Int)=p.params)(g:∀k∈c.args,IX x.regs k):R1 (wU N ⟨pre++[f],cells,st,wh⟩ a) (uW a pre f cells st wh x c):=by
  rw[DC h,e];simp only[Int.reduceEq,decide_true,decide_false,cond_true,cond_false];unfold mF vm_call;simp only[wY,Int.toNat_natCast,zS,e,Int.reduceEq,decide_true,decide_false,cond_true,cond_false];unfold uW;simp only[e,Int.reduceEq,if_true,if_false];have z:=h.many;have v:=s.mem hp;by_cases l:pre.length+1=10
  · rw[dT (by simp;omega),cond_true,if_pos l];exact⟨_,_,_,Z,Z⟩
  · rw[dF (by simp;omega),cond_false,if_neg l,hp,bnd,j5 V];have j:=fill_loop (K:=Ip ⟨pre++[Z5 f x],cells,st,wh⟩ c a) (body:=Io ⟨pre++[Z5 f x],cells,st,wh⟩) (r:=tF f.regs) (P:=fun k=>IX x.regs k) (fun i k y o u t=>by
      unfold Io;simp only[wY];rw[gI V V,Te,bnd];show((idx f.regs k).bind fun n=>(idx y (i:Int)).bind fun m=>o<|y.set ((i:Int)).toNat n)=_;rw[(h.reg t).1,bnd,wI u,bnd,Int.toNat_natCast]) c.args [] (List.replicate p.regs.toNat ⟨0,0⟩) g (by simp;omega)
    have d:fM (Io ⟨pre++[Z5 f x],cells,st,wh⟩) (Ip ⟨pre++[Z5 f x],cells,st,wh⟩ c a) 0 c.args (List.replicate p.regs.toNat ⟨0,0⟩)=_:=j;have q:({f with at_:=min (f.at_+1) ((x.code.length:Int)-1)}:LX.Frame)=Z5 f x:=rfl;rw[q,d];unfold Ip;simp only;rw[j5 (room_le (by simp;omega) zq1),bnd];refine⟨_,_,_,Z,Z,?_,Z⟩;simp only[List.nil_append,List.drop_replicate,hp,Option.map_some,Option.getD_some];rw[show p.regs.toNat-c.args.length=(p.regs-(c.args.length:Int)).toNat by omega]
theorem step8(j:pW a)(h:zq a pre f cells x c)(b:c.op=8)(i:IX x.regs c.a):R1 (wU N ⟨pre++[f],cells,st,wh⟩ a) (uW a pre f cells st wh x c):=by
  rw[DC h,b];simp only[Int.reduceEq,decide_true,decide_false,cond_true,cond_false];unfold mF vm_back;simp only[wY,Int.toNat_natCast,zS,b,Int.reduceEq,decide_true,decide_false,cond_true,cond_false];unfold uW;simp only[b,Int.reduceEq,if_true,if_false];have e:=h.many;rw[(h.reg i).1,bnd,gI V V];rw[show sub? (pre++[({f with at_:=min (f.at_+1) ((x.code.length:Int)-1)}:LX.Frame)]) 0 (pre.length:Int)=some pre by unfold sub?;rw[if_pos (by simp;omega)];simp[cut],bnd];rw[show(pre++[({f with at_:=min (f.at_+1) ((x.code.length:Int)-1)}:LX.Frame)]).take pre.length=pre by simp];rcases List.eq_nil_or_concat pre with hp|⟨q,g,hp⟩
  · subst hp;exact⟨_,_,_,Z,Z,Z,Z⟩
  · rw[List.concat_eq_append]at hp;subst hp;have d:=h.jy;rw[Re]at d;simp only[List.length_append,List.length_cons,List.length_nil]at e;rw[dF (by simp;omega),cond_false,wY,gI V V,Te,bnd,(Oo Z d).1,bnd,Int.toNat_natCast,zS,bnd];simp only[List.getLast?_append,List.getLast?_singleton,Option.some_or,List.dropLast_concat];exact⟨_,_,_,Z,Z,Z,Z⟩
theorem Ld(h:zq a pre f cells x c)(b:(c.op=9\/c.op=11\/c.op=13)/\IX x.regs c.a\/c.op=10\/c.op=12):R1 (wU N ⟨pre++[f],cells,st,wh⟩ a) (uW a pre f cells st wh x c):=by
  rw[DC h];rcases b with⟨b|b|b,hr⟩|b|b
  · rw[b];simp only[Int.reduceEq,decide_true,decide_false,cond_true,cond_false];unfold mF;simp only[wY,Int.toNat_natCast,zS,b,Int.reduceEq,decide_true,decide_false,cond_true,cond_false];unfold uW;simp only[b,Int.reduceEq,if_true,if_false];rw[(h.reg hr).1,bnd];by_cases d:(tF f.regs c.a).kind=1
    · rw[dT d,if_pos d];exact⟨_,_,_,Z,Z,Z,Z⟩
    · rw[dF d,if_neg d];exact⟨_,_,_,Z,Z⟩
  · rw[b];simp only[Int.reduceEq,decide_true,decide_false,cond_true,cond_false];unfold mF;simp only[wY,Int.toNat_natCast,zS,b,Int.reduceEq,decide_true,decide_false,cond_true,cond_false];unfold uW;simp only[b,Int.reduceEq,if_true,if_false];rw[(h.reg hr).1,bnd];by_cases d:(tF f.regs c.a).kind=1
    · rw[dF V,cond_false,if_pos d];exact⟨_,_,_,Z,Z,Z,Z⟩
    · rw[dT d,cond_true,if_neg d];exact⟨_,_,_,Z,Z⟩
  · rw[b];simp only[Int.reduceEq,decide_true,decide_false,cond_true,cond_false];unfold mF;simp only[wY,Int.toNat_natCast,zS,b,Int.reduceEq,decide_true,decide_false,cond_true,cond_false];unfold uW;simp only[b,Int.reduceEq,if_true,if_false];have g:=h.reg hr;rw[g.1,bnd];have e:=g.2;unfold jY at e;by_cases d:(tF f.regs c.a).kind≠2/\(tF f.regs c.a).n=0
    · rw[if_pos d,show(decide ((tF f.regs c.a).kind=0)||(decide ((tF f.regs c.a).kind=1)&&decide ((tF f.regs c.a).n=0)))=true by simp;omega,cond_true];exact⟨_,_,_,Z,Z,Z,Z⟩
    · rw[if_neg d,show(decide ((tF f.regs c.a).kind=0)||(decide ((tF f.regs c.a).kind=1)&&decide ((tF f.regs c.a).n=0)))=false by rw[Bool.or_eq_false_iff,Bool.and_eq_false_iff];simp only[decide_eq_false_iff_not];omega,cond_false];exact⟨_,_,_,Z,Z,Z,Z⟩
  · rw[b];simp only[Int.reduceEq,decide_true,decide_false,cond_true,cond_false];unfold mF;simp only[wY,Int.toNat_natCast,zS,b,Int.reduceEq,decide_true,decide_false,cond_true,cond_false];unfold uW;simp only[b,Int.reduceEq,if_true,if_false];exact⟨_,_,_,Z,Z,Z,Z⟩
  · rw[b];simp only[Int.reduceEq,decide_true,decide_false,cond_true,cond_false];unfold mF;simp only[wY,Int.toNat_natCast,zS,b,Int.reduceEq,decide_true,decide_false,cond_true,cond_false];unfold uW;simp only[b,Int.reduceEq,if_true,if_false];exact⟨_,_,_,Z,Z,Z,Z⟩
theorem vm_step_ok(i:pW a)(hN:100<=N)(h:zq a pre f cells x c):R1 (wU N ⟨pre++[f],cells,st,wh⟩ a) (uW a pre f cells st wh x c):=by
  rcases h.good with g|g|g|g|g|g|g|g|g|g
  · exact step1 h g.1 g.2.1
  · exact step2 h g.1 g.2.1 g.2.2
  · obtain⟨g1,g2,b,d,n,e,j,k⟩:=g;exact step3 h g1 g2 b d e ⟨j,k⟩
  · obtain⟨g1|g1,g2,b,d⟩:=g
    · exact field_get h g1 g2 b d
    · exact field_put h g1 g2 b d
  · exact step5 i hN h g.1 g.2.1 g.2.2
  · obtain⟨g1,g2,⟨p,b,d⟩,e⟩:=g;exact step7 i h g1 g2 b d e
  · obtain⟨g1|g1|g1,g2⟩:=g
    · exact step8 i h g1 g2
    · exact Ld h<|.inl ⟨.inl g1,g2⟩
    · exact Ld h<|.inl ⟨.inr<|.inl g1,g2⟩
  · exact Ld h<|.inr<|.inl g
  · exact Ld h<|.inr<|.inr g.1
  · exact Ld h<|.inl ⟨.inr<|.inr g.1,g.2.1⟩
end
open Go Go.Proofs Go.LX
theorem jY.up{n m:Nat}{v:Val}(h:jY n v)(a:n<=m):jY m v:=by unfold jY at*;omega
theorem J2.up{a:List bL}{n m:Nat}{f:LX.Frame}{x:bL}(h:J2 a n f x)(b:n<=m):J2 a m f x:=⟨h.proc,h.at_,h.regs,fun v c=>(h.vals v c).up b⟩
theorem Oq{a:List bL}{n m:Nat}(b:n<=m):∀{l:List LX.Frame} {t:Int},mW a n t l->mW a m t l
 |[],_,_=>trivial
 |f::l,t,h=>by obtain⟨⟨x,g⟩,d,c⟩:=h;exact⟨⟨x,g.up b⟩,d,Oq b c⟩
theorem ren_ok{n:Nat}{l:List Int}{v:Val}(h:jY n v)(b:v.kind=2->v.n∈l):jY l.length (ren l v):=by
  unfold ren;by_cases a:v.kind=2
  · rw[if_pos a];have:=List.idxOf_lt_length_of_mem<|b a;unfold jY;simp only;omega
  · rw[if_neg a];unfold jY at*;omega
theorem J2.ren{a:List bL}{n:Nat}{l:List Int}{f:LX.Frame}{x:bL}(h:J2 a n f x)(hr:uf f.regs l):J2 a l.length (PG l f) x where
 proc:=h.proc
 at_:=h.at_
 regs:=by unfold PG;simpa using h.regs
 vals v hv:=by
  unfold PG at hv;simp only[List.mem_map]at hv;obtain⟨w,hw,rfl⟩:=hv;exact ren_ok (h.vals w hw)<|hr w hw
theorem Tf{a:List bL}{n:Nat}{r:List Int}:∀{l:List LX.Frame} {t:Int},mW a n t l->(∀f∈l,uf f.regs r)->mW a r.length t (l.map (PG r))
 |[],_,_,_=>trivial
 |f::l,t,h,hr=>by
  obtain⟨⟨x,g⟩,c,b⟩:=h;refine⟨⟨x,g.ren<|hr f zq3⟩,c,?_⟩;have:=Tf b fun k d=>hr k<|List.mem_cons_of_mem _ d;simpa[PG]using this
theorem sweep_cells{s:LX.State}(h:VC s):vv (jo s).cells:=by
 have b:=h.reach;have i:=b.1.len;have hn:=h.cells.1;refine⟨by simp[jo];omega,fun c d=>?_⟩;unfold jo at d⊢;simp only[List.mem_map,List.length_map]at d⊢;obtain⟨k,f,rfl⟩:=d;have a:=h.cells.at<|b.1.2 k f;refine⟨by simpa using a.1,fun v g=>?_⟩;obtain⟨w,e,rfl⟩:=List.mem_map.1 g;exact ren_ok (a.2 w e)<|b.2.2 k f w e
theorem Tg{a:List bL}(ha:pW a){s:LX.State}(h:yu a s):yu a (jo s) where
 status:=h.status
 bP:=h.bP
 stay:=h.stay
 ended:=by rw[show(jo s).status=s.status from rfl,h.ended];simp[jo]
 many:=by simpa[jo]using h.many
 cells:=sweep_cells (h.sw ha)
 frames:=by
  have hr:=(h.sw ha).reach;have:=Tf h.frames<|Y5 hr.2.1;simpa[jo]using this
theorem set_vals{n:Nat}{r:List Val}{i:Nat}{v:Val}(h:∀w∈r,jY n w)(b:jY n v):∀w∈r.set i v,jY n w:=fun w a=>by
  rcases List.mem_or_eq_of_mem_set a with a|rfl
  · exact h w a
  · exact b
section
variable{a:List bL}{pre:List LX.Frame}{f:LX.Frame}{cells:List (List Val)}{wh:Int}{x:bL}{c:Ins}{N:Nat}
theorem zq.st(h:zq a pre f cells x c){g:LX.Frame}{y:bL}{cs:List (List Val)}{s w:Int}(hg:J2 a cs.length g y)(hto:g.jy=f.jy)(hc:vv cs)(hl:cells.length<=cs.length)(hs:(s=0/\w=0)\/(s=3/\ -1000000000<=w/\w<=1000000000)):yu a ⟨pre++[g],cs,s,w⟩ where
 status:=by simp only;omega
 bP:=by simp only;omega
 stay:=by simp only;omega
 ended:=by simp;omega
 many:=by have:=h.many;simp;omega
 cells:=hc
 frames:=qV.2 ⟨Oq hl h.chain,⟨y,hg⟩,by rw[hto];exact h.jy⟩
theorem opP_ok{n:Nat}{k:Int}{b c v:Val}(d:1<=k/\k<=5)(h:opP k b c=some v):jY n v:=by
  unfold opP at h;split at h
  · cases h;split<;>(unfold jY;simp)
  split at h
  · cases h
  split at h
  · cases h;split<;>(unfold jY;simp)
  simp only at h;generalize (if k=1 then b.n+c.n else if k=2 then b.n-c.n else b.n*c.n)=z at h;split at h
  · rename_i a;cases h;exact .inr (.inl ⟨Z,a.1,a.2⟩)
  · cases h
theorem J2.put{n:Nat}{f:LX.Frame}{x:bL}(h:J2 a n f x){i:Nat}{v:Val}(b:jY n v):J2 a n {f with regs:=f.regs.set i v} x:=⟨h.proc,h.at_,by simpa using h.regs,set_vals h.vals b⟩
theorem J2.jump{n:Nat}{f:LX.Frame}{x:bL}(h:J2 a n f x){b:Int}(c:0<=b/\b<x.code.length):J2 a n {f with at_:=b} x:=⟨h.proc,c,h.regs,h.vals⟩
theorem newP_ok{s t:LX.State}{g:LX.Frame}(h:newP ⟨pre++[g],cells,0,wh⟩ c=some t)(i:yu a ⟨pre++[g],cells,0,wh⟩)(p:1<=c.b/\c.b<=4):yu a t/\t.status=0:=by
  unfold newP at h;split at h
  · cases h
  rename_i j;simp only[List.dropLast_concat,List.getLast?_append,List.getLast?_singleton,Option.some_or,Option.map_some,Option.toList_some]at h j;cases h;obtain⟨n,⟨x,o⟩,m⟩:=qV.1 i.frames;have k:=i.cells;simp only at n o m k;have e:cells.length<=(cells++[List.replicate c.b.toNat (⟨0,0⟩:Val)]).length:=by simp
  refine⟨⟨i.status,i.bP,i.stay,by simp,by simpa using i.many,⟨?_,?_⟩,qV.2 ⟨Oq e n,⟨x,(o.up e).put ?_⟩,m⟩⟩,Z⟩
  · have:=k.1;simp;omega
  · intro d f;rcases List.mem_append.1 f with f|f
    · have:=k.2 d f;exact⟨this.1,fun v l=>(this.2 v l).up e⟩
    · simp at f;subst f;refine⟨by simp;omega,fun v l=>?_⟩;have:=List.eq_of_mem_replicate l;subst this;unfold jY;simp
  · unfold jY;simp;try omega
theorem step_keeps(O:pW a)(h:zq a pre f cells x c)(T:wh=0){t:LX.State}{B:Option Int}{p:Bool}(i:uW a pre f cells 0 wh x c=some (t,B,p)):
    yu a t/\(t.status=0\/t.status=1/\p=false\/t.status=3/\p=true)/\(B.isSome->t.status=0/\c.op=9):=by
  subst T;have l:=h.Z5;have r:∀{v:Val},jY cells.length v->yu a ⟨pre++[{Z5 f x with regs:=f.regs.set c.a.toNat v}],cells,0,0⟩:=fun w=>h.st (l.put w) Z h.cok (Nat.le_refl _)<|.inl ⟨Z,Z⟩;have j:yu a ⟨pre++[Z5 f x],cells,0,0⟩:=h.st l Z h.cok (Nat.le_refl _)<|.inl ⟨Z,Z⟩;have z:(0<=c.b/\c.b<x.code.length)->yu a ⟨pre++[{Z5 f x with at_:=c.b}],cells,0,0⟩:=fun o=>h.st (l.jump o) Z h.cok (Nat.le_refl _)<|.inl ⟨Z,Z⟩;unfold uW at i;rcases h.good with g|g|g|g|g|g|g|g|g|g
  · obtain⟨e,A,o⟩:=g;simp only[e,Int.reduceEq,if_true,if_false]at i;cases i;exact⟨r<|.inr<|.inl ⟨Z,o.1,o.2⟩,.inl Z,by simp⟩
  · obtain⟨e,A,o⟩:=g;simp only[e,Int.reduceEq,if_true,if_false]at i;cases i;exact⟨r (h.reg o).2,.inl Z,by simp⟩
  · obtain⟨e,A,o,P,n,hn,L⟩:=g;simp only[e,hn,Int.reduceEq,if_true,if_false,List.headD_cons]at i;obtain⟨v,w,i⟩:=Option.map_eq_some_iff.1 i;cases i;exact⟨r<|opP_ok L w,.inl Z,by simp⟩
  · obtain⟨e,A,o,P⟩:=g;rcases e with e|e
    · simp only[e,Int.reduceEq,if_true,if_false]at i;split at i
      · cases i
      · rename_i G;cases i;have E:(tF f.regs c.b).kind=2:=by omega
        have w:=(h.reg o).2;have m:=h.cok.at<|w.ref E;exact⟨r<|m.2 _ (Oo Z ⟨P.1,by omega⟩).2,.inl Z,by simp⟩
    · simp only[e,Int.reduceEq,if_true,if_false]at i;split at i
      · cases i
      · rename_i G;cases i;have E:(tF f.regs c.a).kind=2:=by omega
        have w:=(h.reg A).2;have m:=h.cok.at<|w.ref E;refine⟨h.st (by simpa using l) Z ⟨by simpa using h.cok.1,fun d K=>?_⟩ zq3<|.inl ⟨Z,Z⟩,.inl Z,by simp⟩;rw[List.length_set];rcases List.mem_or_eq_of_mem_set K with K|rfl
        · exact h.cok.2 d K
        · exact⟨by simpa using m.1,set_vals m.2 (h.reg o).2⟩
  · obtain⟨e,A,o⟩:=g;simp only[e,Int.reduceEq,if_true,if_false]at i;obtain⟨u,J,i⟩:=Option.map_eq_some_iff.1 i;cases i;split at J
    · have I:=Tg O j;rw[sweep_top]at J I;have:=newP_ok (s:=t) J I o;exact⟨this.1,.inl this.2,by simp⟩
    · have:=newP_ok (s:=t) J j o;exact⟨this.1,.inl this.2,by simp⟩
  · obtain⟨e,A,⟨X,hp,hl⟩,C⟩:=g;simp only[e,Int.reduceEq,if_true,if_false]at i;split at i
    · cases i
    · rename_i S;cases i;have M:=O.mem hp;have N:=h.many;refine⟨⟨by simp,by simp,by simp,by simp,by simp;omega,h.cok,qV.2 ⟨j.frames,⟨X,⟨hp,?_,?_,?_⟩⟩,?_⟩⟩,.inl Z,by simp⟩
      · have:=M.2.2.2;unfold sU at this;simp only;omega
      · simp only[hp,Option.map_some,Option.getD_some,List.length_append,List.length_map,List.length_replicate];omega
      · intro v w;rcases List.mem_append.1 w with w|w
        · obtain⟨k,E,rfl⟩:=List.mem_map.1 w;exact(h.reg<|C k E).2
        · have:=List.eq_of_mem_replicate w;subst this;unfold jY;simp
      · simp only[List.getLast?_append,List.getLast?_singleton,Option.some_or];have Q:=l.regs;rw[Q];exact A
  · obtain⟨e,A⟩:=g;rcases e with e|e|e
    · simp only[e,Int.reduceEq,if_true,if_false]at i;rcases List.eq_nil_or_concat pre with hp|⟨q,g,hp⟩
      · subst hp;simp only[List.getLast?_nil]at i;cases i;exact⟨⟨by simp,by simp,by simp,by simp,by simp,h.cok,U⟩,.inr<|.inl ⟨Z,Z⟩,by simp⟩
      · rw[List.concat_eq_append]at hp;subst hp;simp only[List.getLast?_append,List.getLast?_singleton,Option.some_or,List.dropLast_concat]at i;cases i;obtain⟨c1,⟨y,c2⟩,R⟩:=qV.1 h.chain;have N:=h.many;simp only[List.length_append,List.length_cons,List.length_nil]at N;exact⟨⟨by simp,by simp,by simp,by simp,by simp;omega,h.cok,qV.2 ⟨c1,⟨y,c2.put (h.reg A).2⟩,R⟩⟩,.inl Z,by simp⟩
    · simp only[e,Int.reduceEq,if_true,if_false]at i;split at i
      · cases i;exact⟨j,.inl Z,fun _=>⟨Z,e⟩⟩
      · cases i
    · simp only[e,Int.reduceEq,if_true,if_false]at i;split at i
      · rename_i E;cases i;exact⟨h.st l Z h.cok (Nat.le_refl _)<|.inr ⟨Z,(h.reg A).2.int E⟩,.inr<|.inr ⟨Z,Z⟩,by simp⟩
      · cases i
  · simp only[g,Int.reduceEq,if_true,if_false]at i;cases i;exact⟨j,.inl Z,by simp⟩
  · obtain⟨e,o⟩:=g;simp only[e,Int.reduceEq,if_true,if_false]at i;cases i;exact⟨z o,.inl Z,by simp⟩
  · obtain⟨e,A,o⟩:=g;simp only[e,Int.reduceEq,if_true,if_false]at i;cases i;split
    · exact⟨z o,.inl Z,by simp⟩
    · exact⟨j,.inl Z,by simp⟩
end
open Go Go.Proofs Go.LX
def insOf(a:List bL)(f:LX.Frame):Option (bL×Ins):=(idx a f.proc).bind fun x=>(idx x.code f.at_).map fun c=>(x,c)
def MH(a:List bL)(s:LX.State):Option (LX.State×Option Int×Bool):=
 s.frames.getLast?.bind fun f=>(insOf a f).bind fun q=>uW a s.frames.dropLast f s.cells s.status s.bP q.1 q.2
def PW(a:List bL)(s:LX.State):Int:=((s.frames.getLast?.bind fun f=>insOf a f).map fun q=>q.2.op).getD 0
def zT(a:List bL):Nat->List Int->Nat->LX.State->LX.State×List Int×Nat
 |0,said,n,s=>(s,said,n)
 |m+1,said,n,s=>
  if s.status≠0 then(s,said,n)else
  if said.length=40/\PW a s=9 then(s,said,n)else
  match MH a s with
  |none=>({s with status:=2},said,n+1)
  |some (t,o,p)=>if p then(t,said++o.toList,n+1)else zT a m (said++o.toList) (n+1) t
theorem Pg{a:List bL}(e:pW a){s:LX.State}(h:yu a s)(b:s.status=0):∃pre f x c,s=⟨pre++[f],s.cells,0,0⟩/\zq a pre f s.cells x c/\MH a s=uW a pre f s.cells 0 0 x c/\PW a s=c.op:=by
  obtain⟨i,cells,st,wh⟩:=s;simp only at b;subst b;have d:wh=0:=h.stay zq3;subst d;rcases List.eq_nil_or_concat i with hp|⟨pre,f,hp⟩
  · have:=h.ended.2 hp;simp at this
  · rw[List.concat_eq_append]at hp;subst hp;obtain⟨x,c,g⟩:=top_ok e h;refine⟨pre,f,x,c,Z,g,?_,?_⟩
    · unfold MH insOf;simp only[List.getLast?_append,List.getLast?_singleton,Option.some_or,List.dropLast_concat,bnd,g.fr.proc,g.ins,Option.map_some]
    · unfold PW insOf;simp only[List.getLast?_append,List.getLast?_singleton,Option.some_or,bnd,g.fr.proc,g.ins,Option.map_some,Option.getD_some]
theorem vm_step_P{a:List bL}(b:pW a){s:LX.State}(h:yu a s)(d:s.status=0){N:Nat}(hN:100<=N):R1 (wU N s a) (MH a s):=by
 obtain⟨pre,f,x,c,g,i,e,-⟩:=Pg b h d;rw[e];generalize s.cells=cells at*;subst g;exact vm_step_ok b hN i
theorem JA{a:List bL}(b:pW a){s:LX.State}(h:yu a s)(e:s.status=0){t:LX.State}{o:Option Int}{p:Bool}(d:MH a s=some (t,o,p)):
  yu a t/\(t.status=0\/t.status=1/\p=false\/t.status=3/\p=true)/\(o.isSome->t.status=0/\PW a s=9):=by
 obtain⟨pre,f,x,c,k,j,g,i⟩:=Pg b h e;rw[g]at d;rw[i];exact step_keeps b j Z d
theorem top_reads{a:List bL}(i:pW a){s:LX.State}(h:yu a s)(e:s.status=0):(s.frames.length<=10/\1<=s.frames.length)/\∃f x c,idx s.frames ((s.frames.length:Int)-1)=some f/\idx a f.proc=some x/\idx x.code f.at_=some c/\c.op=PW a s:=by
 obtain⟨pre,f,x,c,b,d,j,g⟩:=Pg i h e;refine⟨⟨h.many,by rw[b];simp⟩,f,x,c,?_,d.fr.proc,d.ins,g.symm⟩;have:s.frames=pre++[f]:=by rw[b]
 rw[this,wY,Te]
theorem fail_ok{a:List bL}{s:LX.State}(h:yu a s)(c:s.status=0):yu a {s with status:=2}:=by
  have b:s.bP=0:=h.stay V;refine⟨by simp,h.bP,fun _=>b,?_,h.many,h.cells,h.frames⟩;constructor
  · intro e;simp at e
  · intro e;have:=h.ended.2 e;omega
theorem run_loop{a:List bL}(v:pW a){N:Nat}(hN:100<=N)(c:Int):∀(m M:Nat) (b:List Int) (n:Nat) (s:LX.State),yu a s->b.length<=40->c=(n:Int)+m->c<=2000->m<M->
    again (Bo N c a) M (b,(n:Int),s.frames,s.cells,s.status,s.bP)=some ((zT a m b n s).1,(zT a m b n s).2.1,((zT a m b n s).2.2:Int),0)
  |m,0,b,n,s,h,hl,hc,hb,hM=>by omega
  |0,M+1,b,n,s,h,hl,hc,hb,hM=>by
    rw[GJ];unfold Bo BO zT;simp only;rw[show(decide ((n:Int)<c)&&decide ((s.status:Int)=0))=false by rw[dF V];rfl,cond_false]
  |m+1,M+1,b,n,s,h,hl,hc,hb,hM=>by
    rw[GJ];have B:=run_loop v hN c m M;generalize again (Bo N c a) M=K at B⊢;unfold Bo zT;simp only;by_cases j:s.status=0
    · rw[dT V,dT j,Bool.true_and,cond_true,if_neg V];obtain⟨G,f,x,i,E,I,J,L⟩:=top_reads v h j;rw[gI V V,E,bnd];have go:IA N b n s.frames s.cells s.status s.bP a K false=some (match MH a s with
          |none=>({s with status:=2},b,((n+1:Nat):Int),0)
          |some (t,o,p)=>if p then(t,b++o.toList,((n+1:Nat):Int),0)else((zT a m (b++o.toList) (n+1) t).1,(zT a m (b++o.toList) (n+1) t).2.1,((zT a m (b++o.toList) (n+1) t).2.2:Int),0))\/(b.length=40/\PW a s=9):=by
        by_cases g:b.length=40/\PW a s=9
        · exact .inr g
        left;unfold IA;rw[cond_false,show(⟨s.frames,s.cells,s.status,s.bP⟩:LX.State)=s from rfl,copy_eq (h.small v),bnd];obtain⟨o,P,k,O,u⟩:=vm_step_P v h j hN;rw[O,bnd,gI V V];cases eq:MH a s with
        |none=>
          rw[eq]at u;simp only at u;subst u;simp only[Bool.not_false,cond_true];unfold BO
          push_cast;rfl
        |some q=>
          obtain⟨t,o2,p⟩:=q;rw[eq]at u;obtain⟨rfl,rfl,rfl⟩:=u;have C:=JA v h j eq;simp only[Bool.not_true,cond_false];have w:∀l,l=b++o2.toList->l.length<=40->Iz (⟨o2.isSome,o2.getD 0,p⟩,true,k) n K l=some (if p then(k,b++o2.toList,((n+1:Nat):Int),0)else((zT a m (b++o2.toList) (n+1) k).1,(zT a m (b++o2.toList) (n+1) k).2.1,((zT a m (b++o2.toList) (n+1) k).2.2:Int),0)):=by
            intro l A y;subst A;unfold Iz BO;simp only;cases p with
            |true=>rw[cond_true,if_pos Z];push_cast;rfl
            |false=>
              rw[cond_false,if_neg zq3];have:=B (b++o2.toList) (n+1) k C.1 y (by push_cast;omega) hb V;rw[<-this];push_cast;rfl
          cases o2 with
          |none=>
            simp only[Option.isSome_none,cond_false];exact w b zq3 hl
          |some z=>
            have r:=(C.2.2 Z).2;simp only[Option.isSome_some,cond_true];rw[j5 (room_le (by simp;omega) zq1)];exact w (b++[z]) zq3 (by simp;omega)
      by_cases d:b.length=40
      · rw[dT V,cond_true,I,bnd,J,bnd,L];by_cases r:PW a s=9
        · rw[if_pos ⟨d,r⟩,dT r];rfl
        · rw[if_neg (fun e=>r e.2),dF r];rcases go with go|go
          · rw[go];cases MH a s with
            |none=>rfl
            |some q=>obtain⟨t,o,p⟩:=q;cases p<;>rfl
          · exact absurd go.2 r
      · rw[dF V,cond_false,if_neg (fun e=>d e.1)];rcases go with go|go
        · rw[go];cases MH a s with
          |none=>rfl
          |some q=>obtain⟨t,o,p⟩:=q;cases p<;>rfl
        · exact absurd go.1 d
    · rw[dF j,Bool.and_false,cond_false,if_pos j];rfl
theorem VE{a:List bL}(i:pW a):∀(m:Nat) (b:List Int) (n:Nat) (s:LX.State),yu a s->b.length<=40->
    yu a (zT a m b n s).1/\(zT a m b n s).2.1.length<=40/\n<=(zT a m b n s).2.2/\(zT a m b n s).2.2<=n+m/\b<+:(zT a m b n s).2.1/\(zT a m b n s).2.1.length<=b.length+((zT a m b n s).2.2-n)/\((zT a m b n s).2.2=n->(zT a m b n s).1=s)
  |0,b,n,s,h,hl=>⟨h,hl,Nat.le_refl _,Nat.le_refl _,List.prefix_refl _,by simp[zT],fun _=>rfl⟩
  |m+1,b,n,s,h,hl=>by
    unfold zT;by_cases f:s.status=0
    · rw[if_neg V];by_cases d:b.length=40/\PW a s=9
      · rw[if_pos d];exact⟨h,hl,Nat.le_refl _,by simp,List.prefix_refl _,by simp,fun _=>rfl⟩
      · rw[if_neg d];cases eq:MH a s with
        |none=>exact⟨fail_ok h f,hl,by simp,by simp,List.prefix_refl _,by simp,fun e=>by simp at e⟩
        |some q=>
          obtain⟨t,o,p⟩:=q;have g:=JA i h f eq;have c:(b++o.toList).length<=40:=by
            cases o with
            |none=>simpa using hl
            |some z=>have x:=(g.2.2 Z).2;simp;omega
          have ho:o.toList.length<=1:=by cases o<;>simp
          simp only;split
          · exact⟨g.1,c,by simp,by simp,List.prefix_append _ _,by show(b++o.toList).length<=b.length+(n+1-n);rw[List.length_append];omega,fun e=>by simp at e⟩
          · obtain⟨l,k,w,v,j,r,u⟩:=VE i m (b++o.toList) (n+1) t g.1 c;refine⟨l,k,by omega,by omega,(List.prefix_append _ _).trans j,?_,fun e=>by omega⟩;rw[List.length_append]at r;omega
    · rw[if_pos f];exact⟨h,hl,Nat.le_refl _,by simp,List.prefix_refl _,by simp,fun _=>rfl⟩
theorem vm_Run_eq(a:List bL)(s:LX.State)(c:Int){N:Nat}(hN:3000<=N):Va N a s c=some (if Pb a≠0 then(⟨[],[],0,0⟩,[],0,Pb a)else if ckS a s≠0 then(⟨[],[],0,0⟩,[],0,ckS a s)else if c<0\/2000<c then(⟨[],[],0,0⟩,[],0,3)else if s.status≠0 then(⟨[],[],0,0⟩,[],0,7)else((zT a c.toNat [] 0 s).1,(zT a c.toNat [] 0 s).2.1,((zT a c.toNat [] 0 s).2.2:Int),0)):=by
  unfold Va;rw[Jz,bnd];by_cases b:Pb a=0
  · rw[if_neg V,if_neg V];by_cases e:ckS a s=0
    · rw[dF V,cond_false,if_neg V];by_cases d:c<0\/2000<c
      · rw[show(decide ((c:Int)<0)||decide ((2000:Int)<c))=true by rw[Bool.or_eq_true];simp only[decide_eq_true_eq];exact d,cond_true,if_pos d]
      · rw[show(decide ((c:Int)<0)||decide ((2000:Int)<c))=false by rw[Bool.or_eq_false_iff];simp only[decide_eq_false_iff_not];omega,cond_false,if_neg d];by_cases h:s.status=0
        · rw[dF V,cond_false,if_neg V];have f:=pX b;have g:=IY.1 e;rw[copy_eq (g.small f),bnd];have:=run_loop f (N:=N) V c c.toNat N [] 0 s g zq3 V V V;exact this
        · rw[dT h,cond_true,if_pos h]
    · rw[dT e,cond_true,if_pos e]
  · rw[if_pos b,if_pos b,dT b,cond_true]
theorem vm_Wake_eq(a:List bL)(s:LX.State):Sz a s=some (if Pb a≠0 then(⟨[],[],0,0⟩,Pb a)else if ckS a s≠0 then(⟨[],[],0,0⟩,ckS a s)else if s.status≠3 then(⟨[],[],0,0⟩,7)else(⟨s.frames,s.cells,0,0⟩,0)):=by
  unfold Sz;rw[Jz,bnd];by_cases b:Pb a=0
  · rw[if_neg V,if_neg V];by_cases c:ckS a s=0
    · rw[dF V,cond_false,if_neg V];by_cases d:s.status=3
      · rw[dF V,cond_false,if_neg V,copy_eq ((IY.1 c).small (pX b)),bnd]
      · rw[dT d,cond_true,if_pos d]
    · rw[dT c,cond_true,if_pos c]
  · rw[if_pos b,if_pos b,dT b,cond_true]
def Bp(a:List bL):LX.State:=⟨[⟨0,0,List.replicate (((idx a 0).map (fun x:bL=>x.regs)).getD 0).toNat ⟨0,0⟩,0⟩],[],0,0⟩
theorem Y7{a:List bL}(b:pW a):∃x,idx a 0=some x:=by
 have:=b.many;cases a with
 |nil=>simp at this
 |cons x l=>exact⟨x,idx0 x l⟩
theorem vm_New_eq(a:List bL):Ye a=some (if Pb a≠0 then(⟨[],[],0,0⟩,Pb a)else(Bp a,0)):=by
  unfold Ye;rw[YZ,bnd];by_cases b:Pb a=0
  · rw[dF V,cond_false,if_neg V];obtain⟨x,c⟩:=Y7<|pX b;have:=((pX b).mem c).2.2.1;rw[c,bnd,j5 V];unfold Bp;rw[c];rfl
  · rw[dT b,cond_true,if_pos b]
theorem begin_ok{a:List bL}(d:pW a):yu a (Bp a):=by
  obtain⟨x,b⟩:=Y7 d;have g:=d.mem b;have f:=g.2.2.2;unfold sU at f;refine⟨by simp[Bp],by simp[Bp],by simp[Bp],by simp[Bp],by simp[Bp],⟨by simp[Bp],fun c h=>by simp[Bp]at h⟩,⟨x,b,by simp only;omega,?_,fun v e=>?_⟩,by simp,trivial⟩
  · simp only[b,Option.map_some,Option.getD_some,List.length_replicate];omega
  · have:=List.eq_of_mem_replicate e;subst this;unfold jY;simp
def Y8(ρ:Int->Int)(v:Val):Val:=if v.kind=2 then⟨v.kind,ρ v.n⟩else v
def renFr(ρ:Int->Int)(f:LX.Frame):LX.Frame:={f with regs:=f.regs.map (Y8 ρ)}
structure Iso(ρ:Int->Int)(R:List Int)(s t:LX.State):Prop where
 frames:t.frames=s.frames.map (renFr ρ)
 status:t.status=s.status
 bP:t.bP=s.bP
 roots:uf (YtodkbibbgakkdaaGreatDoor.roots s.frames) R
 range:∀x∈R,0<=x/\x<s.cells.length
 range':∀x∈R,0<=ρ x/\ρ x<t.cells.length
 inj:∀x∈R,∀y∈R,ρ x=ρ y->x=y
 cells:∀x∈R,cellAt t.cells (ρ x)=(cellAt s.cells x).map (Y8 ρ)/\uf (cellAt s.cells x) R
theorem renV_kind(ρ:Int->Int)(v:Val):(Y8 ρ v).kind=v.kind:=by unfold Y8;split<;>rfl
theorem renV_ref(ρ:Int->Int){v:Val}(h:v.kind=2):Y8 ρ v=⟨v.kind,ρ v.n⟩:=if_pos h
theorem renV_no(ρ:Int->Int){v:Val}(h:v.kind≠2):Y8 ρ v=v:=if_neg h
section
variable{ρ:Int->Int}{R:List Int}{s t:LX.State}
theorem mem_map_inj(d:∀x∈R,∀y∈R,ρ x=ρ y->x=y){l:List Int}(b:∀x∈l,x∈R){x:Int}(c:x∈R):ρ x∈l.map ρ↔x∈l:=by
  constructor
  · intro h;obtain⟨y,a,e⟩:=List.mem_map.1 h;rw[<-d y (b y a) x c e];exact a
  · exact fun h=>List.mem_map_of_mem h
theorem PX(a:∀x∈R,∀y∈R,ρ x=ρ y->x=y):∀{l:List Int},(∀x∈l,x∈R)->∀{x:Int},x∈R->(l.map ρ).idxOf (ρ x)=l.idxOf x
  |[],_,x,_=>rfl
  |y::l,hl,x,hx=>by
    rw[List.map_cons,List.idxOf_cons,List.idxOf_cons,PX a (fun z c=>hl z (List.mem_cons_of_mem _ c)) hx];by_cases e:y=x
    · subst e;simp
    · have b:ρ y≠ρ x:=fun h=>e<|a y (hl y zq3) x hx h;rw[show(ρ y==ρ x)=false by simpa using b,show(y==x)=false by simpa using e]
theorem metV_map(g:∀x∈R,∀y∈R,ρ x=ρ y->x=y){l:List Int}(d:∀x∈l,x∈R){v:Val}(f:v.kind=2->v.n∈R):Ta (l.map ρ) (Y8 ρ v)=(Ta l v).map ρ/\∀x∈Ta l v,x∈R:=by
  unfold Ta;by_cases a:v.kind=2
  · rw[renV_ref ρ a];simp only[a,true_and];have c:=mem_map_inj g d<|f a;by_cases e:v.n∈l
    · rw[if_neg (fun h=>h (c.2 e)),if_neg (fun h=>h e)];exact⟨Z,d⟩
    · rw[if_pos (fun h=>e (c.1 h)),if_pos e];refine⟨by simp,fun x b=>?_⟩;rcases List.mem_append.1 b with b|b
      · exact d x b
      · simp at b;subst b;exact f a
  · rw[renV_no ρ a,if_neg (fun h=>a h.1),if_neg (fun h=>a h.1)];exact⟨Z,d⟩
theorem Y9(a:∀x∈R,∀y∈R,ρ x=ρ y->x=y):∀{vs:List Val} {l:List Int},(∀x∈l,x∈R)->uf vs R->Tc (l.map ρ) (vs.map (Y8 ρ))=(Tc l vs).map ρ/\∀x∈Tc l vs,x∈R
 |[],l,hl,_=>⟨rfl,hl⟩
 |v::vs,l,hl,hv=>by
  obtain⟨c,d⟩:=metV_map a hl<|hv v zq3;rw[List.map_cons,Pf,Pf,c];exact Y9 a d fun w b=>hv w<|List.mem_cons_of_mem _ b
theorem Iso.Z4(h:Iso ρ R s t):∀(m k:Nat) (l:List Int),(∀x∈l,x∈R)->Z4 t.cells m k (l.map ρ)=(Z4 s.cells m k l).map ρ/\∀x∈Z4 s.cells m k l,x∈R
  |0,k,l,hl=>⟨rfl,hl⟩
  |m+1,k,l,hl=>by
    unfold YtodkbibbgakkdaaGreatDoor.Z4;by_cases a:k<l.length
    · rw[dif_pos a,dif_pos (by simpa using a)];have c:=hl _<|List.getElem_mem a;have b:=h.cells _ c;rw[List.getElem_map,b.1];obtain⟨d,e⟩:=Y9 h.inj hl b.2;rw[d];exact Iso.Z4 h m (k+1) _ e
    · rw[dif_neg a,dif_neg (by simpa using a)];exact⟨Z,hl⟩
theorem roots_map(ρ:Int->Int):∀a:List LX.Frame,YtodkbibbgakkdaaGreatDoor.roots (a.map (renFr ρ))=(YtodkbibbgakkdaaGreatDoor.roots a).map (Y8 ρ)
 |[]=>rfl
 |f::a=>by
  have:=roots_map ρ a;unfold YtodkbibbgakkdaaGreatDoor.roots at*;rw[List.map_cons,List.flatMap_cons,List.flatMap_cons,List.map_append,this];rfl
theorem Iso.reach(h:Iso ρ R s t):mq t=(mq s).map ρ/\∀x∈mq s,x∈R:=by
 unfold mq Ol;rw[h.frames,roots_map];obtain⟨a,c⟩:=Y9 h.inj (l:=[]) (fun x b=>by cases b) h.roots;rw[List.map_nil]at a;rw[a];exact h.Z4 25 0 _ c
theorem ren_map(h:Iso ρ R s t){v:Val}(b:v.kind=2->v.n∈R):ren (mq t) (Y8 ρ v)=ren (mq s) v:=by
  unfold ren;rw[renV_kind];by_cases a:v.kind=2
  · rw[if_pos a,if_pos a,renV_ref ρ a,h.reach.1,PX h.inj h.reach.2 (b a)]
  · rw[if_neg a,if_neg a,renV_no ρ a]
theorem Mv{α β:Type}{f g:α->β}:∀{l:List α},(∀x∈l,f x=g x)->l.map f=l.map g:=fun h=>List.map_congr_left h
theorem Iso.sweep(h:Iso ρ R s t):jo t=jo s:=by
 have a:t.frames.map (PG<|mq t)=s.frames.map (PG<|mq s):=by
  rw[h.frames,List.map_map];refine Mv fun f g=>?_;have:(f.regs.map<|Y8 ρ).map (ren<|mq t)=f.regs.map (ren<|mq s):=by
   rw[List.map_map];exact Mv fun v b=>ren_map h<|Y5 h.roots f g v b
  show PG (mq t) (renFr ρ f)=PG (mq s) f;unfold PG renFr;simp only[this]
 have c:(mq t).map (fun k=>(cellAt t.cells k).map<|ren<|mq t)=(mq s).map (fun k=>(cellAt s.cells k).map<|ren<|mq s):=by
  conv=>lhs;rw[h.reach.1]
  rw[List.map_map];refine Mv fun k e=>?_;have d:=h.cells k<|h.reach.2 k e;show(cellAt t.cells<|ρ k).map (ren _)=_;rw[d.1,List.map_map,<-h.reach.1];exact Mv fun v b=>ren_map h<|d.2 v b
 unfold jo;rw[a,c,h.status,h.bP]
end
theorem cellAt_nat{cells:List (List Val)}{i:Nat}(h:i<cells.length):cellAt cells (i:Int)=cells[i]:=by unfold cellAt;rw[wI h];rfl
theorem iso_sweep{s:LX.State}(h:VC s):Iso (fun x=>((mq s).idxOf x:Nat)) (mq s) s (jo s) where
 frames:=rfl
 status:=rfl
 bP:=rfl
 roots:=h.reach.2.1
 range:=h.reach.1.2
 range' x hx:=by
  have:=List.idxOf_lt_length_of_mem hx;simp only[jo,List.length_map];omega
 inj x hx y hy e:=by
  have e':(mq s).idxOf x=(mq s).idxOf y:=by omega
  have h1:=List.getElem_idxOf<|List.idxOf_lt_length_of_mem hx;have h2:=List.getElem_idxOf<|List.idxOf_lt_length_of_mem hy;rw[<-h1,<-h2];simp only[e']
 cells x hx:=by
  have hlt:=List.idxOf_lt_length_of_mem hx;refine⟨?_,h.reach.2.2 x hx⟩;rw[cellAt_nat (by simpa[jo]using hlt)];simp only[jo,List.getElem_map];rw[List.getElem_idxOf hlt];rfl
theorem Za{s:LX.State}(h:VC s):jo (jo s)=jo s:=(iso_sweep h).sweep
open Go Go.Proofs Go.LX
theorem at_eq(k:Int){n:Int}(hn:0<n)(c:n<=1000000000):∃r,Dq k n=some r/\0<=r/\r<n:=by
  unfold Dq;rw[j5 hn];have a:Int.tmod k n<n:=Int.tmod_lt_of_pos k hn;have b: -n<Int.tmod k n:=by
    have:=Int.tmod_lt_of_pos (-k) hn;rw[Int.neg_tmod]at this;omega
  by_cases h:Int.tmod k n<0
  · rw[dT h,cond_true,gI V V];exact⟨_,Z,by omega,by omega⟩
  · rw[dF h,cond_false];exact⟨_,Z,by omega,a⟩
def Zb(l:List Val):List Int:=l.flatMap fun v=>[v.kind,v.n]
def rowP(l:List Val):List Int:=(l.length:Int)::Zb l
def frP(f:LX.Frame):List Int:=f.proc::f.at_::f.jy::rowP f.regs
def Ad(s:LX.State):List Int:=s.status::s.bP::(s.frames.length:Int)::(s.frames.flatMap frP++(s.cells.length:Int)::s.cells.flatMap rowP)
def Rdr(α:Type):=List Int->Option (α×List Int)
def xC{α:Type}(x:α):Rdr α:=fun l=>some (x,l)
def iJ{α β:Type}(R:Rdr α)(f:α->Rdr β):Rdr β:=fun l=>(R l).bind fun q=>f q.1 q.2
def GK:Rdr Int:=fun l=>match l with
 |[]=>none
 |x::r=>some (x,r)
def sJ(m:Int):Rdr Nat:=fun l=>match l with
 |[]=>none
 |x::r=>if 0<=x/\x<=m then some (x.toNat,r)else none
def j6{α:Type}(R:Rdr α):Nat->Rdr (List α)
 |0=>xC []
 |n+1=>iJ R fun x=>iJ (j6 R n) fun l=>xC (x::l)
def WI:Rdr Val:=iJ GK fun k=>iJ GK fun n=>xC ⟨k,n⟩
def DD(m:Int):Rdr (List Val):=iJ (sJ m) fun n=>j6 WI n
def Rf:Rdr LX.Frame:=iJ GK fun p=>iJ GK fun a=>iJ GK fun t=>iJ (DD 40) fun r=>xC ⟨p,a,r,t⟩
def Rh:Rdr LX.State:=iJ GK fun s=>iJ GK fun w=>iJ (sJ 10) fun n=>iJ (j6 Rf n) fun f=>iJ (sJ 24) fun k=>iJ (j6 (DD 4) k) fun c=>xC ⟨f,c,s,w⟩
theorem Mw{α:Type}{R:Rdr α}{g:α->List Int}:∀(l:List α) (t:List Int),(∀x∈l,∀t,R (g x++t)=some (x,t))->j6 R l.length (l.flatMap g++t)=some (l,t)
 |[],t,_=>rfl
 |x::l,t,h=>by
  show(R<|g x++l.flatMap g++t).bind _=_;rw[List.append_assoc,h x zq3,Option.bind_some];show(j6 R l.length<|l.flatMap g++t).bind _=_;rw[Mw l t (fun y a=>h y (List.mem_cons_of_mem _ a)),Option.bind_some];rfl
theorem rRow_row{m:Nat}(l:List Val)(h:l.length<=m)(t:List Int):DD m (rowP l++t)=some (l,t):=by
 unfold DD iJ rowP sJ;simp only[List.cons_append];rw[if_pos V,Option.bind_some,Int.toNat_natCast];exact Mw l t fun v _ t=>rfl
theorem rFr_fr(f:LX.Frame)(h:f.regs.length<=40)(t:List Int):Rf (frP f++t)=some (f,t):=by
 show((DD (40:Nat)<|rowP f.regs++t).bind fun q=>xC (⟨f.proc,f.at_,q.1,f.jy⟩:LX.Frame) q.2)=_;rw[rRow_row f.regs h];rfl
theorem rSt_pack{s:LX.State}(h:Small s)(t:List Int):Rh (Ad s++t)=some (s,t):=by
 have j:=h.frames;have k:=h.cells;show((sJ 10 ((s.frames.length:Int)::((s.frames.flatMap frP++(s.cells.length:Int)::s.cells.flatMap rowP)++t))).bind fun q=>(j6 Rf q.1 q.2).bind fun d=>(sJ 24 d.2).bind fun b=>(j6 (DD 4) b.1 b.2).bind fun a=>xC (⟨d.1,a.1,s.status,s.bP⟩:LX.State) a.2)=_;rw[show sJ 10 ((s.frames.length:Int)::((s.frames.flatMap frP++(s.cells.length:Int)::s.cells.flatMap rowP)++t))=some (s.frames.length,(s.frames.flatMap frP++(s.cells.length:Int)::s.cells.flatMap rowP)++t) by
  show(if _ then _ else _)=_;rw[if_pos V,Int.toNat_natCast],Option.bind_some]
 simp only;rw[List.append_assoc,Mw s.frames _ (fun f i t=>rFr_fr f (h.regs f i) t),Option.bind_some];simp only[List.cons_append];rw[show sJ 24 ((s.cells.length:Int)::(s.cells.flatMap rowP++t))=some (s.cells.length,s.cells.flatMap rowP++t) by
  show(if _ then _ else _)=_;rw[if_pos V,Int.toNat_natCast],Option.bind_some]
 simp only;rw[Mw (R:=DD 4) (g:=rowP) s.cells _ (fun c e t=>rRow_row (m:=4) c (h.fields c e) t),Option.bind_some];rfl
theorem VF(l:List Val):(Zb l).length=2*l.length:=by
 induction l with
 |nil=>rfl
 |cons v l ih=>show([v.kind,v.n]++Zb l).length=_;simp[ih];omega
theorem rows_len(m:Nat):∀l:List (List Val),(∀c∈l,c.length<=m)->(l.flatMap rowP).length<=(2*m+1)*l.length
 |[],_=>by simp
 |c::l,h=>by
  have e:=h c zq3;have b:=rows_len m l fun d a=>h d<|List.mem_cons_of_mem _ a;rw[List.flatMap_cons,List.length_append];unfold rowP;rw[List.length_cons,VF,List.length_cons,Nat.mul_succ];unfold rowP at b;omega
theorem frs_len:∀l:List LX.Frame,(∀f∈l,f.regs.length<=40)->(l.flatMap frP).length<=84*l.length
 |[],_=>by simp
 |f::l,h=>by
  have c:=h f zq3;have b:=frs_len l fun d a=>h d<|List.mem_cons_of_mem _ a;rw[List.flatMap_cons,List.length_append];unfold frP rowP;simp only[List.length_cons,VF];unfold frP rowP at b;omega
theorem Zc{s:LX.State}(h:Small s):(Ad s).length<=1060:=by
 have c:=rows_len 4 s.cells h.fields;have d:=frs_len s.frames h.regs;have a:=h.frames;have b:=h.cells;unfold Ad;simp only[List.length_cons,List.length_append];omega
def wake(s:LX.State):LX.State:=if s.status=3 then⟨s.frames,s.cells,0,0⟩else s
theorem app_loop{α ρ:Type}{body:Int->List Int->(List Int->Option ρ)->Option ρ}{K:List Int->Option ρ}{g:α->List Int}{l:List α}{m B:Nat}(c:∀x∈l,(g x).length<=m)
  (d:∀(i:Nat) (h:i<l.length) a nx,a.length<=B+m*i->body (i:Int) a nx=nx (a++g l[i])):
  ∀(k i:Nat) (a:List Int),i+k=l.length->a.length<=B+m*i->upto body K (i:Int) k a=K (a++(l.drop i).flatMap g)
 |0,i,a,h,_=>by rw[List.drop_eq_nil_of_le V];simp[upto]
 |k+1,i,a,h,hl=>by
  have b:i<l.length:=by omega
  rw[VA,d i b a _ hl,show((i:Int)+1)=((i+1:Nat):Int) by omega,app_loop c d k (i+1) _ V (by
   have:=c _<|List.getElem_mem b;rw[List.length_append,Nat.mul_add];omega),List.drop_eq_getElem_cons b,List.flatMap_cons,List.append_assoc]
theorem app_loop0{α ρ:Type}{body:Int->List Int->(List Int->Option ρ)->Option ρ}{K:List Int->Option ρ}{g:α->List Int}{l:List α}(m B:Nat)(b:∀x∈l,(g x).length<=m)
  (c:∀(i:Nat) (h:i<l.length) a nx,a.length<=B+m*i->body (i:Int) a nx=nx (a++g l[i])) (a:List Int) (d:a.length<=B):upto body K 0 l.length a=K (a++l.flatMap g):=by
 have:=app_loop (K:=K) b c l.length 0 a V V;rw[List.drop_zero]at this;exact this
theorem values_eq:∀(l:List Val) (a:List Int),a.length+2*l.length<=50000->BJ a l=some (a++Zb l)
 |[],a,_=>by simp[BJ,qw,Dj,Zb]
 |v::l,a,h=>by
  simp only[List.length_cons]at h;have b:=values_eq l (a++[v.kind,v.n]) (by simp[-List.length_flatMap];omega);unfold BJ at b⊢;rw[iC];generalize each Di Dj l=K at b⊢;unfold Di;rw[j5 (room_le (by simp[-List.length_flatMap];omega) zq1),b];simp[Zb]
theorem row_len{c:List Val}{m:Nat}(h:c.length<=m):(rowP c).length<=2*m+1:=by
 unfold rowP;rw[List.length_cons,VF];omega
theorem fr_len{f:LX.Frame}(h:f.regs.length<=40):(frP f).length<=84:=by
 unfold frP;have:=row_len h;simp only[List.length_cons];omega
theorem V8{a:List bL}(b:pW a){s:LX.State}(h:yu a s):Small (jo s):=(Tg b h).small b
theorem pack_loop{s:LX.State}(h:Small s):upto (Gz s) (GA s) 0 ((s.frames.length:Int)).toNat [s.status,s.bP,(s.frames.length:Int)]=some (Ad s,0):=by
 have o:=h.frames;have q:=h.cells;have p:=frs_len s.frames h.regs;rw[Int.toNat_natCast,app_loop0 (g:=frP) (l:=s.frames) 84 3 (fun f n=>fr_len (h.regs f n)) (fun i b d j a=>by
  have m:=h.regs _<|List.getElem_mem b;unfold Gz;rw[wI b,bnd,j5 (room_le (by simp[-List.length_flatMap];omega) zq1),values_eq _ _ (by simp[-List.length_flatMap];omega),bnd];unfold frP rowP;simp) _ zq3]
 unfold GA;rw[j5 (room_le (by simp[-List.length_flatMap];omega) zq1),Int.toNat_natCast,app_loop0 (g:=rowP) (l:=s.cells) 9 1000 (fun c k=>row_len (h.fields c k)) (fun i b d j a=>by
  have m:=h.fields _<|List.getElem_mem b;unfold Mo;rw[wI b,bnd,j5 (room_le (by simp[-List.length_flatMap];omega) zq1),values_eq _ _ (by simp[-List.length_flatMap];omega),bnd];unfold rowP;simp) _ (by simp[-List.length_flatMap];omega)]
 unfold Mq;have hp:=Zc h;have e:([s.status,s.bP,(s.frames.length:Int)]++s.frames.flatMap frP++[(s.cells.length:Int)]++s.cells.flatMap rowP)=Ad s:=by
  unfold Ad;simp
 rw[e,dF V,cond_false]
theorem Ti(a:List bL)(s:LX.State){N:Nat}(hN:100<=N):Ew N a s=some (if Pb a≠0 then([],Pb a)else if ckS a s≠0 then([],ckS a s)else(Ad (jo s),0)):=by
  unfold Ew;rw[Jz,bnd];by_cases b:Pb a=0
  · rw[if_neg V,if_neg V];by_cases c:ckS a s=0
    · have d:=pX b;have e:=IY.1 c;rw[dF V,cond_false,Y6 hN (e.sw d),bnd,if_neg V];exact pack_loop<|V8 d e
    · rw[dT c,cond_true,if_pos c]
  · rw[if_pos b,dT b,cond_true,if_pos b]
structure Rel{α:Type}(o:Option (α×List Int))(b:Bool)(x':α)(l':List Int)(b':Bool):Prop where
 stay:b=true->b'=true
 ok:b=false->match o with
  |some (x,r)=>x'=x/\l'=r/\b'=false
  |none=>b'=true
theorem Rel.pure{α:Type}(x:α)(l:List Int)(b:Bool):Rel (xC x l) b x l b:=⟨id,fun h=>⟨rfl,rfl,h⟩⟩
theorem Rel.bind{α β:Type}{R:Rdr α}{f:α->Rdr β}{l j a:List Int}{b b' c:Bool}{x':α}{g:β}(i:Rel (R l) b x' j b')(d:Rel (f x' j) b' g a c):Rel (iJ R f l) b g a c:=by
 refine⟨fun h=>d.stay<|i.stay h,fun h=>?_⟩;have:=i.ok h;unfold iJ;cases e:R l with
 |none=>rw[e]at this;exact d.stay this
 |some q=>
  obtain⟨x,r⟩:=q;rw[e]at this;obtain⟨rfl,rfl,k⟩:=this;exact d.ok k
theorem FK(l:List Int)(b:Bool):∃x c b',jS ⟨l,b⟩=some (x,⟨c,b'⟩)/\Rel (GK l) b x c b':=by
 unfold jS;cases l with
 |nil=>exact⟨0,[],true,rfl,fun _=>rfl,fun _=>rfl⟩
 |cons x l=>
  simp only;rw[dF (by simp;omega),cond_false,show idx (x::l) 0=some x from idx0 x l,bnd,show sub? (x::l) 1 ((x::l).length:Int)=some l by
   have:=VN (l:=x::l) (a:=1) (b:=(x::l).length) zq3<|Nat.le_refl _;rw[List.take_length]at this;exact this,bnd]
  exact⟨x,l,b,Z,id,fun h=>⟨Z,Z,h⟩⟩
theorem Tj(m:Nat)(l:List Int)(b:Bool):∃(x:Nat) (a:List Int) (b':Bool),oQ ⟨l,b⟩ m=some ((x:Int),⟨a,b'⟩)/\x<=m/\Rel (sJ m l) b x a b':=by
  unfold oQ;obtain⟨x,a,b',h,d⟩:=FK l b;rw[h,bnd];simp only;by_cases e:0<=x/\x<=(m:Int)
  · rw[dF V,dF V,Bool.or_self,cond_false];refine⟨x.toNat,a,b',by rw[Int.toNat_of_nonneg e.1],by omega,d.stay,fun f=>?_⟩;have:=d.ok f;cases l with
    |nil=>exact this
    |cons y l=>
      obtain⟨rfl,rfl,c⟩:=this;rw[show sJ (m:Int) (x::a)=some (x.toNat,a)from if_pos e];exact⟨Z,Z,c⟩
  · rw[show(decide (x<0)||decide ((m:Int)<x))=true by
      rw[Bool.or_eq_true,decide_eq_true_eq,decide_eq_true_eq];omega,cond_true]
    refine⟨0,a,true,Z,by omega,fun _=>rfl,fun f=>?_⟩;have:=d.ok f;cases l with
    |nil=>rfl
    |cons y l=>
      obtain⟨rfl,rfl,c⟩:=this;rw[show sJ (m:Int) (x::a)=none from if_neg e]
theorem PY(n:Nat)(hn:n<=100):∀(m M i:Nat) (a:List Val) (l:List Int) (b:Bool),i+m=n->a.length=i->m<M->
    ∃vs d b',again (kJ n) M (a,(i:Int),l,b)=some (a++vs,⟨d,b'⟩)/\vs.length=m/\Rel (j6 WI m l) b vs d b'
  |m,0,i,a,l,b,_,_,hM=>by omega
  |0,M+1,i,a,l,b,hi,_,_=>by
    rw[GJ];unfold kJ;simp only;rw[dF V,cond_false];exact⟨[],l,b,by simp,Z,Rel.pure [] l b⟩
  |m+1,M+1,i,a,l,b,hi,ha,hM=>by
    rw[GJ];have c:=PY n hn m M<|i+1;generalize again (kJ n) M=K at c⊢;unfold kJ;simp only;rw[dT V,cond_true];obtain⟨x,k,u,r,e⟩:=FK l b;rw[r,bnd];simp only;obtain⟨y,t,s,o,h⟩:=FK k u;rw[o,bnd];simp only;rw[j5 (room_le (by simp;omega) zq1),gI V V];obtain⟨vs,f,p,q,g,j⟩:=c (a++[⟨x,y⟩]) t s V (by simp;omega) V;refine⟨⟨x,y⟩::vs,f,p,?_,by simp[g],?_⟩
    · rw[show((i:Int)+1)=((i+1:Nat):Int) by omega,q];simp
    · exact Rel.bind (Rel.bind e<|Rel.bind h<|Rel.pure _ _ _)<|Rel.bind j<|Rel.pure _ _ _
theorem Zd{N n:Nat}(hn:n<=100)(hN:200<=N)(l:List Int)(b:Bool):∃vs a b',rZ N ⟨l,b⟩ n=some (vs,⟨a,b'⟩)/\vs.length=n/\Rel (j6 WI n l) b vs a b':=by
 unfold rZ;obtain⟨vs,a,b',e,c,d⟩:=PY n hn n N 0 [] l b V Z V;exact⟨vs,a,b',by simpa using e,c,d⟩
def none0:LX.State:=⟨[],[],0,0⟩
def Z6(a:List bL)(s:LX.State):LX.State×Int:=
 if Pb a≠0 then(none0,Pb a)else if ckS a s≠0 then(none0,ckS a s)else if jo s=s then(s,0)else(none0,4)
def dV(a:List bL)(l:List Int):LX.State×Int:=
 if 1200<l.length then(none0,2)else match Rh l with
  |some (s,[])=>Z6 a s
  |_=>(none0,8)
theorem un_end(a:List bL)(s:LX.State){N:Nat}(hN:100<=N):((Fs a s).bind fun b=>bif decide ((b:Int)≠0)then some (none0,b)else(H6 N s).bind fun x=>(Si x s).bind fun y=>bif (!y)then some (none0,4)else some (s,0))=some (Z6 a s):=by
  rw[Jz,bnd];unfold Z6;by_cases d:Pb a=0
  · rw[if_neg V,if_neg V];by_cases e:ckS a s=0
    · have f:=pX d;rw[dF V,cond_false,Y6 hN ((IY.1 e).sw f),bnd,eqState,bnd,if_neg V];by_cases c:jo s=s
      · rw[dT c,if_pos c];rfl
      · rw[dF c,if_neg c];rfl
    · rw[dT e,cond_true,if_pos e]
  · rw[if_pos d,dT d,cond_true,if_pos d]
theorem cells_rel{N:Nat}(hN:200<=N)(g:Int×nD)(a:List bL)(d:List LX.Frame)(f e:Int×nD)(n:Nat)(w:g.1=n)(hn:n<=24):
    ∀(m M i:Nat) (c:List (List Val)) (l:List Int) (b:Bool),i+m=n->c.length=i->m<M->
    ∃cs h b',again (sj N g a d f e) M ((i:Int),l,b,c)=(bif (b'||decide ((0:Int)<(h.length:Int)))then some (none0,8)else some (Z6 a ⟨d,c++cs,f.1,e.1⟩))/\Rel (j6 (DD 4) m l) b cs h b'
  |m,0,i,c,l,b,_,_,hM=>by omega
  |0,M+1,i,c,l,b,hi,_,_=>by
    rw[GJ];unfold sj;simp only;rw[dF V,cond_false];refine⟨[],l,b,?_,Rel.pure [] l b⟩;rw[List.append_nil,<-un_end a ⟨d,c,f.1,e.1⟩ (N:=N) V];rfl
  |m+1,M+1,i,c,l,b,hi,ha,hM=>by
    rw[GJ];have j:=cells_rel hN g a d f e n w hn m M<|i+1;generalize again (sj N g a d f e) M=K at j⊢;unfold sj;simp only;rw[dT V,cond_true];obtain⟨x,p,u,k,B,v⟩:=Tj 4 l b;rw[show((4:Nat):Int)=4 from rfl]at k;rw[k,bnd];simp only;obtain⟨vs,t,A,q,C,y⟩:=Zd (N:=N) (n:=x) V hN p u;rw[q,bnd];simp only;rw[j5 (room_le (by simp;omega) zq1)];unfold H7;rw[gI V V];obtain⟨cs,o,r,s,z⟩:=j (c++[vs]) t A V (by simp;omega) V;refine⟨vs::cs,o,r,?_,?_⟩
    · rw[show((i:Int)+1)=((i+1:Nat):Int) by omega,s];simp
    · exact Rel.bind (Rel.bind v y)<|Rel.bind z<|Rel.pure _ _ _
theorem times_bind{α β:Type}{R:Rdr α}{m:Nat}{G:List α->Rdr β}{l:List Int}:iJ (j6 R (m+1)) G l=iJ R (fun x=>iJ (j6 R m) fun a=>G (x::a)) l:=by
 show((iJ R (fun x=>iJ (j6 R m) fun l=>xC<|x::l) l).bind _)=_;unfold iJ;cases R l with
 |none=>rfl
 |some q=>
  rw[Option.bind_some,Option.bind_some];simp only;cases j6 R m q.2 with
  |none=>rfl
  |some q2=>rfl
theorem Ze{N:Nat}(hN:200<=N)(e:Int×nD)(a:List bL)(g h:Int×nD)(n:Nat)(hy:e.1=n)(hn:n<=10):
    ∀(m M i:Nat) (d:List LX.Frame) (l:List Int) (b:Bool),i+m=n->d.length=i->m<M->
    ∃(s:LX.State) (B:List Int) (b':Bool),again (ql N e a g h) M ((i:Int),l,b,d)=(bif (b'||decide ((0:Int)<(B.length:Int)))then some (none0,8)else some (Z6 a s))/\
      Rel (iJ (j6 Rf m) (fun f=>iJ (sJ 24) fun k=>iJ (j6 (DD 4) k) fun c=>xC (⟨d++f,c,g.1,h.1⟩:LX.State)) l) b s B b'
  |m,0,i,d,l,b,_,_,hM=>by omega
  |0,M+1,i,d,l,b,hi,_,_=>by
    rw[GJ];unfold ql;simp only;rw[dF V,cond_false];obtain⟨x,r,j,o,G,w⟩:=Tj 24 l b;rw[show((24:Nat):Int)=24 from rfl]at o;rw[o,bnd];simp only;obtain⟨cs,v,z,u,A⟩:=cells_rel hN ((x:Int),⟨r,j⟩) a d g h x Z G x N 0 [] r j V Z V;refine⟨⟨d++[],[]++cs,g.1,h.1⟩,v,z,?_,?_⟩
    · rw[List.append_nil];exact u
    · exact Rel.bind (Rel.pure [] l b)<|Rel.bind w<|Rel.bind A<|Rel.pure _ _ _
  |m+1,M+1,i,d,l,b,hi,ha,hM=>by
    rw[GJ];have L:=Ze hN e a g h n hy hn m M<|i+1;generalize again (ql N e a g h) M=K at L⊢;unfold ql;simp only;rw[dT V,cond_true];obtain⟨p,r,j,o,w⟩:=FK l b;rw[o,bnd];simp only;obtain⟨q,v,z,u,A⟩:=FK r j;rw[u,bnd];simp only;obtain⟨t,l3,b3,e3,Q⟩:=FK v z;rw[e3,bnd];simp only;obtain⟨x,l4,T,C,G,R⟩:=Tj 40 l3 b3;rw[show((40:Nat):Int)=40 from rfl]at C;rw[C,bnd];simp only;obtain⟨vs,I,E,X,hv,r5⟩:=Zd (N:=N) (n:=x) V hN l4 T;rw[X,bnd];simp only;rw[j5 (room_le (by simp;omega) zq1),gI V V];obtain⟨s,l6,P,S,J⟩:=L (d++[⟨p,q,vs,t⟩]) I E V (by simp;omega) V;refine⟨s,l6,P,?_,?_⟩
    · rw[show((i:Int)+1)=((i+1:Nat):Int) by omega,S]
    · have y:Rel (Rf l) b ⟨p,q,vs,t⟩ I E:=Rel.bind w<|Rel.bind A<|Rel.bind Q<|Rel.bind (Rel.bind R r5)<|Rel.pure _ _ _;simp only[List.append_assoc,List.cons_append,List.nil_append]at J;rw[times_bind];exact Rel.bind (f:=fun x=>iJ (j6 Rf m) fun O=>iJ (sJ 24) fun k=>iJ (j6 (DD 4) k) fun c=>xC (⟨d++x::O,c,g.1,h.1⟩:LX.State)) y J
theorem end_rel{a:List bL}{l b:List Int}{b':Bool}{s:LX.State}{y:Option (LX.State×Int)}(c:¬1200<l.length)(d:Rel (Rh l) false s b b')(h:y=(bif (b'||decide ((0:Int)<(b.length:Int)))then some (none0,8)else some (Z6 a s))):y=some (dV a l):=by
 rw[h];unfold dV;rw[if_neg c];have:=d.ok Z;cases e:Rh l with
 |none=>rw[e]at this;simp only at this;subst this;rfl
 |some q=>
  obtain⟨f,r⟩:=q;rw[e]at this;obtain⟨rfl,rfl,rfl⟩:=this;cases b with
  |nil=>rfl
  |cons x b=>rw[Bool.false_or,dT zq3,cond_true]
theorem DF(a:List bL)(l:List Int){N:Nat}(hN:200<=N):qU N a l=some (dV a l):=by
  unfold qU;by_cases c:1200<l.length
  · rw[dT V,cond_true];unfold dV;rw[if_pos c];rfl
  · rw[dF V,cond_false];obtain⟨st,d,h,r,m⟩:=FK l false;rw[r,bnd];simp only;obtain⟨wh,g,i,j,n⟩:=FK d h;rw[j,bnd];simp only;obtain⟨x,b,f,e,k,o⟩:=Tj 10 g i;rw[show((10:Nat):Int)=10 from rfl]at e;rw[e,bnd];simp only;obtain⟨s,t,u,q,p⟩:=Ze hN ((x:Int),⟨b,f⟩) a (st,⟨d,h⟩) (wh,⟨g,i⟩) x Z k x N 0 [] b f V Z V;exact end_rel c (Rel.bind m<|Rel.bind n<|Rel.bind o p) q
section
variable{I:List Int}(hI:I.length<=1200)
include hI
omit hI in
end
open Go Go.Proofs Go.LX
theorem read_all{s:LX.State}(h:Small s):Rh (Ad s)=some (s,[]):=by
 have:=rSt_pack h [];rw[List.append_nil]at this;exact this
theorem unpack_pack{a:List bL}(d:Pb a=0){s:LX.State}(h:yu a s):dV a (Ad (jo s))=(jo s,0):=by
 have b:=pX d;have c:=V8 b h;unfold dV;rw[if_neg (by have:=Zc c;omega),read_all c];simp only;unfold Z6;rw[if_neg V,if_neg (by rw[IY.2 (Tg b h)];omega),if_pos (Za (h.sw b))]
theorem wake_ok{a:List bL}{s:LX.State}(h:yu a s):yu a (wake s):=by
  unfold wake;by_cases b:s.status=3
  · rw[if_pos b];refine⟨by simp,by simp,fun _=>rfl,?_,h.many,h.cells,h.frames⟩;have:=h.ended;constructor
    · intro e;simp at e
    · intro e;have:=h.ended.2 e;omega
  · rw[if_neg b];exact h
namespace Dk
open Go Go.Proofs Go.LX
theorem eqInt(a b:List Int):slices_Equal_int a b=some (decide (a=b)):=by
  unfold slices_Equal_int;by_cases h:a.length=b.length
  · rw[dF V];simp only[cond_false,Int.toNat_natCast];rw[OB (fun x y=>decide (x=y)) a b h rfl (fun i x y f c d=>by
      unfold vo;rw[kD,kD,c,d];by_cases e:x=y<;>simp[e]),Cc (fun _ _=>rfl)]
  · rw[dT V];have:a≠b:=fun e=>h (by rw[e]);rw[dF this];rfl
theorem rec_eq(r:Rec):dU r=gV r:=by
  unfold dU gV Ac tZ lS eU;have d:(((!(bz r.co 0 2))||(!(bz r.aM 0 100)))||(!(bz r.place 0 2)))=(((((decide ((r.co:Int)<0)||decide ((3:Int)<=r.co))||decide ((r.aM:Int)<0))||decide ((100:Int)<r.aM))||decide ((r.place:Int)<0))||decide ((3:Int)<=r.place)):=by
    unfold bz;rw[Bool.eq_iff_iff];simp;omega
  rw[d];generalize (((((decide ((r.co:Int)<0)||decide ((3:Int)<=r.co))||decide ((r.aM:Int)<0))||decide ((100:Int)<r.aM))||decide ((r.place:Int)<0))||decide ((3:Int)<=r.place))=C1;generalize (decide ((40:Int)<(r.says.length:Int))||decide ((1200:Int)<(r.image.length:Int)))=C2;generalize decide ((r.place:Int)≠0)=p0;generalize decide ((0:Int)<(r.says.length:Int))=s1;generalize decide ((0:Int)<(r.image.length:Int))=i1;generalize decide ((r.aM:Int)=0)=e0;have e:∀l:Str,(hasB l 73=true\/hasB l 73=false):=fun l=>by cases hasB l 73<;>simp
  by_cases k1:r.kind=1
  · rw[k1,show hasB ((lk (1:Int) ([(1,[73]),(2,[83,73]),(3,[80]),(4,[73]),(5,[])]:List (Int×Str))).getD []) 80=false by decide,show hasB ((lk (1:Int) ([(1,[73]),(2,[83,73]),(3,[80]),(4,[73]),(5,[])]:List (Int×Str))).getD []) 83=false by decide,show hasB ((lk (1:Int) ([(1,[73]),(2,[83,73]),(3,[80]),(4,[73]),(5,[])]:List (Int×Str))).getD []) 73=true by decide];cases C1<;>cases C2<;>cases p0<;>cases s1<;>cases i1<;>cases e0<;>rfl
  by_cases k2:r.kind=2
  · rw[k2,show hasB ((lk (2:Int) ([(1,[73]),(2,[83,73]),(3,[80]),(4,[73]),(5,[])]:List (Int×Str))).getD []) 80=false by decide,show hasB ((lk (2:Int) ([(1,[73]),(2,[83,73]),(3,[80]),(4,[73]),(5,[])]:List (Int×Str))).getD []) 83=true by decide,show hasB ((lk (2:Int) ([(1,[73]),(2,[83,73]),(3,[80]),(4,[73]),(5,[])]:List (Int×Str))).getD []) 73=true by decide];cases C1<;>cases C2<;>cases p0<;>cases s1<;>cases i1<;>cases e0<;>rfl
  by_cases b:r.kind=3
  · rw[b,show hasB ((lk (3:Int) ([(1,[73]),(2,[83,73]),(3,[80]),(4,[73]),(5,[])]:List (Int×Str))).getD []) 80=true by decide,show hasB ((lk (3:Int) ([(1,[73]),(2,[83,73]),(3,[80]),(4,[73]),(5,[])]:List (Int×Str))).getD []) 83=false by decide,show hasB ((lk (3:Int) ([(1,[73]),(2,[83,73]),(3,[80]),(4,[73]),(5,[])]:List (Int×Str))).getD []) 73=false by decide];cases C1<;>cases C2<;>cases p0<;>cases s1<;>cases i1<;>cases e0<;>rfl
  by_cases a:r.kind=4
  · rw[a,show hasB ((lk (4:Int) ([(1,[73]),(2,[83,73]),(3,[80]),(4,[73]),(5,[])]:List (Int×Str))).getD []) 80=false by decide,show hasB ((lk (4:Int) ([(1,[73]),(2,[83,73]),(3,[80]),(4,[73]),(5,[])]:List (Int×Str))).getD []) 83=false by decide,show hasB ((lk (4:Int) ([(1,[73]),(2,[83,73]),(3,[80]),(4,[73]),(5,[])]:List (Int×Str))).getD []) 73=true by decide];cases C1<;>cases C2<;>cases p0<;>cases s1<;>cases i1<;>cases e0<;>rfl
  by_cases c:r.kind=5
  · rw[c,show hasB ((lk (5:Int) ([(1,[73]),(2,[83,73]),(3,[80]),(4,[73]),(5,[])]:List (Int×Str))).getD []) 80=false by decide,show hasB ((lk (5:Int) ([(1,[73]),(2,[83,73]),(3,[80]),(4,[73]),(5,[])]:List (Int×Str))).getD []) 83=false by decide,show hasB ((lk (5:Int) ([(1,[73]),(2,[83,73]),(3,[80]),(4,[73]),(5,[])]:List (Int×Str))).getD []) 73=false by decide];cases C1<;>cases C2<;>cases p0<;>cases s1<;>cases i1<;>cases e0<;>rfl
  rw[show lk r.kind ([(1,[73]),(2,[83,73]),(3,[80]),(4,[73]),(5,[])]:List (Int×Str))=none by simp[lk,k1,k2,b,a,c]];rw[show(decide ((r.kind:Int)<1)||decide ((5:Int)<r.kind))=true by simp;omega];rfl
structure GoodR(r:Rec):Prop where
 kind:1<=r.kind/\r.kind<=5
 co:0<=r.co/\r.co<=2
 aM:1<=r.aM/\r.aM<=100
 place:0<=r.place/\r.place<=2
 says:r.says.length<=40
 image:r.image.length<=1200
 has:(r.kind=1\/r.kind=2\/r.kind=4)->1<=r.image.length
theorem goodR(r:Rec)(h:gV r=0):GoodR r:=by
 rw[<-rec_eq]at h;unfold dU at h;have hn:0<=(r.image.length:Int):=by omega
 generalize c:(decide ((r.kind:Int)<1)||decide ((5:Int)<r.kind))=A at h;cases A with
 |true=>simp only[cond_true]at h;exact absurd h zq1
 |false=>
 simp only[cond_false]at h;generalize f:(((((decide ((r.co:Int)<0)||decide ((3:Int)<=r.co))||decide ((r.aM:Int)<0))||decide ((100:Int)<r.aM))||decide ((r.place:Int)<0))||decide ((3:Int)<=r.place))=B at h;cases B with
 |true=>simp only[cond_true]at h;exact absurd h zq1
 |false=>
 simp only[cond_false]at h;generalize e:(decide ((40:Int)<(r.says.length:Int))||decide ((1200:Int)<(r.image.length:Int)))=C at h;cases C with
 |true=>simp only[cond_true]at h;exact absurd h zq1
 |false=>
 simp only[cond_false]at h;generalize b:((((decide ((r.kind:Int)≠3)&&decide ((r.place:Int)≠0))||(decide ((r.kind:Int)≠2)&&decide ((0:Int)<(r.says.length:Int))))||(((decide ((r.kind:Int)=1)||decide ((r.kind:Int)=2))||decide ((r.kind:Int)=4)) !=decide ((0:Int)<(r.image.length:Int))))||decide ((r.aM:Int)=0))=D at h;cases D with
 |true=>simp only[cond_true]at h;exact absurd h zq1
 |false=>
 simp only[Bool.or_eq_false_iff,decide_eq_false_iff_not,bne_eq_false_iff_eq]at c f e b;obtain⟨⟨⟨_,_⟩,a⟩,i⟩:=b;refine⟨by omega,by omega,by omega,by omega,by omega,by omega,fun g=>?_⟩;have:((decide ((r.kind:Int)=1)||decide ((r.kind:Int)=2))||decide ((r.kind:Int)=4))=true:=by
  simp;omega
 rw[this]at a;have d:decide ((0:Int)<(r.image.length:Int))=true:=by
  cases hq:decide ((0:Int)<(r.image.length:Int))with
  |true=>rfl
  |false=>rw[hq]at a;cases a
 have:=Xi d;omega
def PH(r:Rec):Prop:=ku r.kind/\ku r.co/\ku r.aM/\ku r.place/\(∀x∈r.says,ku x)/\(∀x∈r.image,ku x)
def nl(r:Rec):List Int:=[r.kind,r.co,r.aM,r.place,(r.says.length:Int)]++r.says++r.image
def zR:Rec:=⟨0,0,0,0,[],[]⟩
def wZ(r:Rec):Str×Int:=if dU r=0 then(vG 32 ((nl r).map Lib.itoa),0)else([],dU r)
def Ot(l:List Int)(n:Nat):Rec:=⟨l.getD 0 0,l.getD 1 0,l.getD 2 0,l.getD 3 0,(l.take (5+n)).drop 5,l.drop (5+n)⟩
def Le(l:List Int):Rec×Int:=
 if l.length<5 then(zR,1)else if l.getD 4 0<0\/(l.length:Int)-5<l.getD 4 0 then(zR,1)else
 if dU (Ot l (l.getD 4 0).toNat)=0 then(Ot l (l.getD 4 0).toNat,0)else(zR,dU (Ot l (l.getD 4 0).toNat))
def nu(s:Str):Rec×Int:=match VP 32 s with|none=>(zR,1)|some l=>Le l
def Tk(s:Str):Rec×Int:=if(60000:Int)<(s.length:Int)then(zR,2)else nu s
theorem concat5:∀(l:List (List Int)) (a:List Int),a.length+(l.map List.length).sum<=1000000->each uA uB l a=some (a++l.flatten)
 |[],a,_=>by simp[qw,uB]
 |x::l,a,h=>by
  simp only[List.map_cons,List.sum_cons]at h;rw[iC,uA,j5 ⟨by omega,by omega⟩,concat5 l (a++x) (by rw[List.length_append];omega)];simp
theorem concat7(a:List (List Int)):∀(l:List (List Int)) (n:Nat),n+(l.map List.length).sum<=1000000->each uC (pR a) l (n:Int)=pR a ((n+(l.map List.length).sum:Nat):Int)
 |[],n,_=>by simp[qw]
 |x::l,n,h=>by
  simp only[List.map_cons,List.sum_cons]at h⊢;rw[iC,uC,gI,dF V,cond_false,show((n:Int)+(x.length:Int))=((n+x.length:Nat):Int) by omega,concat7 a l (n+x.length) V,Nat.add_assoc]
theorem concat_eq(a:List (List Int))(h:(a.map List.length).sum<=1000000):uD a=some a.flatten:=by
 unfold uD;have:=concat7 a a 0 V;rw[show((0:Nat):Int)=0 from rfl]at this;rw[this];unfold pR;rw[show Kb 8 ((0+(a.map List.length).sum:Nat):Int)=some ([]:List Int) by unfold Kb;rw[j5 ⟨by omega,by omega⟩],bnd,concat5 a [] (by simpa using h)];simp
theorem concat3(a b c:List Int)(h:a.length+b.length+c.length<=1000000):uD [a,b,c]=some (a++b++c):=by
 rw[concat_eq _ (by simp;omega)];simp
theorem nl_len(r:Rec):(nl r).length=5+r.says.length+r.image.length:=by simp[nl];omega
theorem nl_ok{r:Rec}(g:GoodR r)(w:PH r):∀x∈nl r,ku x:=by
  obtain⟨d,e,b,c,h,f⟩:=w;have i:=g.says;intro x a;simp only[nl,List.mem_append,List.mem_cons,List.not_mem_nil,or_false]at a;rcases a with((rfl|rfl|rfl|rfl|rfl)|a)|a
  · exact d
  · exact e
  · exact b
  · exact c
  · exact ku.mk V V
  · exact h x a
  · exact f x a
theorem Zf{r:Rec}(g:GoodR r):(nl r).length<=1245:=by rw[nl_len];have:=g.says;have:=g.image;omega
theorem nl_ne(r:Rec):nl r≠[]:=by simp[nl]
theorem Zg:∀(l:List Int) (pre:List Str),(∀x∈l,ku x)->fM xz uk (pre.length:Int) l (pre++List.replicate l.length ([]:Str))=uk (pre++l.map Lib.itoa)
 |[],pre,_=>by simp[Ox]
 |x::l,pre,h=>by
  rw[wH,xz,Xa (h x zq3),bnd,kD];have a:(pre++List.replicate (x::l).length ([]:Str))[pre.length]? =some []:=by rw[List.getElem?_append_right (Nat.le_refl _)];simp
  rw[a,bnd,Int.toNat_natCast];have c:(pre++List.replicate (x::l).length ([]:Str)).set pre.length (Lib.itoa x)=(pre++[Lib.itoa x])++List.replicate l.length ([]:Str):=by
   rw[List.set_append_right _ _ (Nat.le_refl _)];simp[List.replicate_succ]
  have d:((pre.length:Int)+1)=((pre++[Lib.itoa x]).length:Int):=by simp
  rw[c,d,Zg l (pre++[Lib.itoa x]) (fun y b=>h y (List.mem_cons_of_mem _ b))];simp
theorem join_ok{l:List Int}(h:∀x∈l,ku x)(d:l.length<=1245):WZ (l.map Lib.itoa) [32]=some (vG 32 (l.map Lib.itoa)):=by
 have c:=TD 32 21 (l.map Lib.itoa) (by intro x a;obtain⟨y,b,rfl⟩:=List.mem_map.1 a;exact itoa_len (h y b));rw[List.length_map]at c;exact joinS_eq 32 (by rw[List.length_map];omega) V
theorem print_eq(r:Rec)(b:dU r=0->PH r):Gx r=some (wZ r):=by
  unfold Gx wZ;by_cases h:dU r=0
  · have g:=goodR r (by rw[<-rec_eq];exact h);have e:=g.says;have f:=g.image;rw[dF V,cond_false,if_pos h,concat3 _ _ _ (by simp;omega),bnd];have d:=Zf g;have a:=nl_ok g<|b h;show iF _ (fM xz uk 0 (nl r)<|List.replicate ((nl r).length:Int).toNat ([]:Str))=_;have c:(r.kind::r.co::r.aM::r.place::(r.says.length:Int)::(r.says++r.image)).length=(nl r).length:=by simp[nl]
    rw[j5 (by
      refine⟨by omega,?_⟩;have:([r.kind,r.co,r.aM,r.place,(r.says.length:Int)]++r.says++r.image).length=(nl r).length:=rfl;rw[this];omega),Int.toNat_natCast]
    have:=Zg (nl r) [] a;simp only[List.length_nil,List.nil_append]at this;rw[show((0:Nat):Int)=0 from rfl]at this;rw[this];unfold uk;rw[join_ok a d,bnd]
  · rw[dT h,cond_true,if_neg h]
theorem numbers_each:∀(w:List Str) (a:List Int),(∀x∈w,x.length<=60000)->a.length+w.length<=1000000->
    each BR BU w a=some (match w.mapM numOf with|some v=>(a++v,true)|none=>([],false))
  |[],a,_,_=>by simp[qw,BU]
  |x::w,a,h,hl=>by
    have g:=h x zq3;simp only[List.length_cons]at hl;have c:=fun y=>numbers_each w (a++[y]) (fun z f=>h z (List.mem_cons_of_mem _ f)) (by simp;omega);rw[iC,BR,parseS_eq V,bnd,List.mapM_cons];cases e:Lib.atoiAll x with
    |ok v=>
      have d:ku v:=Lib.atoiAll_bounds e;simp only[cond_false];rw[Xa d,bnd,vZ];by_cases b:Lib.itoa v=x
      · rw[dF (by simpa using b),cond_false,j5 ⟨by simp;omega,by simp;omega⟩,c];have:numOf x=some v:=by simp[numOf,e,b]
        rw[this];cases e2:w.mapM numOf with
        |none=>rfl
        |some m=>simp
      · rw[dT b,cond_true];have:numOf x=none:=by simp[numOf,e,b]
        rw[this];rfl
    |range=>
      have:numOf x=none:=by simp[numOf,e]
      rw[this];rfl
    |_=>
      have:numOf x=none:=by simp[numOf,e]
      rw[this];rfl
theorem Zh:∀(w:List Str) (a:List Int),(∀x∈w,x.length<=60000)->a.length+w.length<=1000000->
    each zG qZ w a=match w.mapM numOf with|some v=>qZ (a++v)|none=>some (zR,1)
  |[],a,_,_=>by simp[qw]
  |x::w,a,h,hl=>by
    have g:=h x zq3;simp only[List.length_cons]at hl;have c:=fun y=>Zh w (a++[y]) (fun z f=>h z (List.mem_cons_of_mem _ f)) (by simp;omega);rw[iC,zG,atoiS_eq V,bnd,List.mapM_cons];cases e:Lib.atoiAll x with
    |ok v=>
      have d:ku v:=Lib.atoiAll_bounds e;simp only[cond_false];rw[Xa d,bnd,zF];by_cases b:Lib.itoa v=x
      · rw[dF (by simpa using b),cond_false,j5 ⟨by simp;omega,by simp;omega⟩,c];have:numOf x=some v:=by simp[numOf,e,b]
        rw[this];cases e2:w.mapM numOf with
        |none=>rfl
        |some m=>simp
      · rw[dT b,cond_true];have:numOf x=none:=by simp[numOf,e,b]
        rw[this];rfl
    |range=>
      have:numOf x=none:=by simp[numOf,e]
      rw[this];rfl
    |_=>
      have:numOf x=none:=by simp[numOf,e]
      rw[this];rfl
theorem five{l:List Int}(h:¬l.length<5):∃a b c d n r,l=a::b::c::d::n::r:=by
 match l,h with
 |a::b::c::d::n::r,_=>exact⟨a,b,c,d,n,r,rfl⟩
 |[],h=>simp at h
 |[a],h=>simp at h
 |[a,b],h=>simp at h
 |[a,b,c],h=>simp at h
 |[a,b,c,d],h=>simp at h
theorem parse_k31(l:List Int)(j:l.length<=1000000)(hI:∀x∈l,ku x):qZ l=some (Le l):=by
  unfold qZ Le;by_cases h:l.length<5
  · rw[dT V,if_pos h];rfl
  · rw[dF V,if_neg h,cond_false];obtain⟨a,b,c,d,n,r,rfl⟩:=five h;have hn:ku n:=hI n zq3;have k:idx (a::b::c::d::n::r) 4=some n:=rfl;rw[k,bnd];have i:(a::b::c::d::n::r).getD 4 0=n:=rfl;rw[i];by_cases g:n<0
    · rw[dT g,if_pos (.inl g)];rfl
    · rw[dF g,cond_false];simp only[List.length_cons]at j⊢;rw[gI];by_cases e:((r.length+1+1+1+1+1:Nat):Int)-5<n
      · rw[dT e,if_pos (.inr e)];rfl
      · rw[dF e,if_neg V];unfold vR;obtain⟨m,rfl⟩:=Int.eq_ofNat_of_zero_le (show 0<=n by omega);rw[cond_false,show idx (a::b::c::d::(m:Int)::r) 0=some a from rfl,bnd,show idx (a::b::c::d::(m:Int)::r) 1=some b from rfl,bnd,show idx (a::b::c::d::(m:Int)::r) 2=some c from rfl,bnd,show idx (a::b::c::d::(m:Int)::r) 3=some d from rfl,bnd,show idx (a::b::c::d::(m:Int)::r) 4=some (m:Int)from rfl,bnd,gI];rw[show(5+(m:Int))=((5+m:Nat):Int) by omega,show(5:Int)=((5:Nat):Int)from rfl,VN V (by simp;omega),bnd,gI,VN (by simp;omega) (Nat.le_refl _),bnd,qF (by simp;omega) (by simp;omega),bnd,qF (by simp;omega) (by simp;omega),bnd];have o:((a::b::c::d::(m:Int)::r).take (a::b::c::d::(m:Int)::r).length).drop (5+m)=(a::b::c::d::(m:Int)::r).drop (5+m):=by rw[List.take_length]
        rw[o];unfold Ec;show(bif decide ((dU (Ot (a::b::c::d::(m:Int)::r) m):Int)≠0)then some (zR,dU<|Ot (a::b::c::d::(m:Int)::r) m)else some (Ot (a::b::c::d::(m:Int)::r) m,0))=_;rw[Int.toNat_natCast];by_cases f:dU (Ot (a::b::c::d::(m:Int)::r) m)=0
        · rw[dF V,if_pos f];rfl
        · rw[dT f,if_neg f];rfl
theorem parse_eq(s:Str):Gt s=some (Tk s):=by
  unfold Gt Tk;by_cases h:(60000:Int)<(s.length:Int)
  · rw[dT h,if_pos h];rfl
  · rw[dF h,if_neg h,cond_false];have d:=Lt 32 s;rw[splitS_eq 32 V,bnd,Zh _ [] (fun x a=>by have:=DY 32 s x a;omega) (by simp;omega)];unfold nu;cases e:VP 32 s with
    |none=>unfold VP at e;rw[e]
    |some l=>
      have:=JD (show(jF 32 s).mapM numOf=some l from e);unfold VP at e;rw[e];have b:l.length<=1000000:=by
        have c:=congrArg List.length this.1;rw[List.length_map]at c;omega
      simp only[List.nil_append];exact parse_k31 l b this.2
theorem mkRec_nl(r:Rec):Ot (nl r) r.says.length=r:=by
 obtain⟨k,c,e,p,s,i⟩:=r;unfold Ot nl;have a:((([k,c,e,p,(s.length:Int)]++s++i).take (5+s.length)).drop 5)=s:=by
  rw[List.append_assoc,show 5+s.length=([k,c,e,p,(s.length:Int)]).length+s.length from rfl,List.take_length_add_append,List.take_left];rfl
 have b:([k,c,e,p,(s.length:Int)]++s++i).drop (5+s.length)=i:=by
  rw[show 5+s.length=([k,c,e,p,(s.length:Int)]++s).length by simp;omega,List.drop_left]
 simp only[a,b];rfl
theorem fromNums_nl{r:Rec}(h:dU r=0):Le (nl r)=(r,0):=by
 have a:=nl_len r;unfold Le;rw[if_neg V,show(nl r).getD 4 0=(r.says.length:Int)from rfl,if_neg V,Int.toNat_natCast,mkRec_nl,if_pos h]
theorem Zi{r:Rec}(h:dU r=0)(w:PH r):nu (vG 32 ((nl r).map Lib.itoa))=(r,0):=by
 unfold nu;rw[nums_join zq1 (nl_ne r) (nl_ok (goodR r (by rw[<-rec_eq];exact h)) w)];exact fromNums_nl h
theorem nl_mk{l:List Int}{n:Nat}(e:5+n<=l.length)(g:l.getD 4 0=n):nl (Ot l n)=l:=by
 obtain⟨a,b,c,d,m,r,rfl⟩:=five (l:=l) V;have f:m=n:=g;subst f;simp only[List.length_cons]at e;have h:((a::b::c::d::(n:Int)::r).take (5+n)).drop 5=r.take n:=by
  rw[show 5+n=n+1+1+1+1+1 by omega];rfl
 have i:(a::b::c::d::(n:Int)::r).drop (5+n)=r.drop n:=by
  rw[show 5+n=n+1+1+1+1+1 by omega];rfl
 show [a,b,c,d,((((a::b::c::d::(n:Int)::r).take (5+n)).drop 5).length:Int)]++((a::b::c::d::(n:Int)::r).take (5+n)).drop 5++(a::b::c::d::(n:Int)::r).drop (5+n)=_;rw[h,i,List.length_take,show min n r.length=n by omega,List.append_assoc,List.take_append_drop];rfl
theorem read_ok{s:Str}{r:Rec}(h:nu s=(r,0)):dU r=0/\PH r/\s=vG 32 ((nl r).map Lib.itoa):=by
  unfold nu at h;cases e:VP 32 s with
  |none=>rw[e]at h;cases h
  |some l=>
    rw[e]at h;obtain⟨g,k,p⟩:=join_nums e;simp only at h;unfold Le at h;split at h
    · cases h
    · rename_i o;split at h
      · cases h
      · rename_i i;split at h
        · rename_i c;obtain⟨m,f⟩:=Int.eq_ofNat_of_zero_le (show 0<=l.getD 4 0 by omega);rw[f]at h c i;simp only[Int.toNat_natCast]at h c;have j:Ot l m=r:=by injection h
          have b:=nl_mk (l:=l) (n:=m) V f;rw[j]at b c;refine⟨c,?_,by rw[b];exact g⟩;have a:∀x∈nl r,ku x:=by rw[b];exact k
          refine⟨a _ (by simp[nl]),a _ (by simp[nl]),a _ (by simp[nl]),a _ (by simp[nl]),fun x d=>a x (by simp[nl,d]),fun x d=>a x (by simp[nl,d])⟩
        · rename_i c;exact absurd (congrArg Prod.snd h) c
theorem text_ok{r:Rec}(h:dU r=0):wZ r=(vG 32 ((nl r).map Lib.itoa),0):=by unfold wZ;rw[if_pos h]
def r0:Rec:=⟨2,1,2,0,[7,-8],[1]⟩
def Rm(most:Int):List Str->List Rec->Int->List Rec×Int×Int
 |[],l,n=>(l,n,0)
 |[x],l,n=>if x=[]then(l,n,0)else(l,n,8)
 |x::y::r,l,n=>if(nu x).2≠0 then(l,n,(nu x).2)else if most<=(l.length:Int)then(l,n,2)else Rm most (y::r) (l++[(nu x).1]) (n+(x.length:Int)+1)
def ln(most:Int)(s:Str):List Rec×Int×Int:=Rm most (jF 10 s) [] 0
theorem lnP_cons{most:Int}{x:Str}{q:List Str}{l:List Rec}{n:Int}(a:q≠[]):Rm most (x::q) l n=if(nu x).2≠0 then(l,n,(nu x).2)else if most<=(l.length:Int)then(l,n,2)else Rm most q (l++[(nu x).1]) (n+(x.length:Int)+1):=by
 cases q with
 |nil=>exact absurd Z a
 |cons y r=>rfl
theorem joinC_len2(c:UInt8)(x y:Str)(l:List Str):(vG c (x::y::l)).length=x.length+1+(vG c (y::l)).length:=by
 rw[yC,List.length_append,List.length_cons];omega
theorem lnP_len(most:Int):∀(p:List Str) (l:List Rec) (n:Int),0<=n->n<=(Rm most p l n).2.1/\(Rm most p l n).2.1<=n+(vG 10 p).length/\(Rm most p l n).1.length+0<=l.length+p.length/\l.length<=(Rm most p l n).1.length/\((l.length:Int)<=most->((Rm most p l n).1.length:Int)<=most)
  |[],l,n,hn=>by simp[Rm];omega
  |[x],l,n,hn=>by
    unfold Rm;split<;>simp<;>omega
  |x::y::r,l,n,hn=>by
    have b:=joinC_len2 10 x y r;unfold Rm;split
    · simp;omega
    · split
      · simp;omega
      · have a:=lnP_len most (y::r) (l++[(nu x).1]) (n+(x.length:Int)+1) V;simp only[List.length_append,List.length_cons,List.length_nil]at a⊢;omega
theorem lines_loop(a:Str)(b:Int)(m:a.length<=60000):∀(p:List Str) (s:Str) (l:List Rec) (N:Nat),jF 10 s=p->s.length<=a.length->p.length<=N->l.length+p.length<=60001->(l.length:Int)<=b->
    again (Ar a b) N (s,l)=some (Rm b p l ((a.length:Int)-(s.length:Int))):=by
  intro p;induction p with
  |nil=>intro s l N hp;exact absurd hp (GN 10 s)
  |cons x q ih=>
    intro s l N hp k hN j n;cases N with
    |zero=>simp at hN
    |succ N=>
    rw[again,Ar];cases q with
    |nil=>
      obtain⟨rfl,d⟩:=ZE hp;by_cases e:s=[]
      · subst e;rw[dF zq3,cond_false];simp[Rm]
      · rw[dT e,cond_true,cutS_free d V,bnd];simp only[Bool.not_false,cond_true];rw[gI];simp[Rm,e]
    |cons y r=>
      obtain⟨t,rfl,i,d⟩:=splitC_cons hp;have f:(x++10::t).length=x.length+1+t.length:=by simp;omega
      rw[dT zq3,cond_true,cutS_hit d V,bnd];simp only[Bool.not_true,cond_false];have c:Tk x=nu x:=by unfold Tk;rw[if_neg V]
      rw[parse_eq,bnd,c,lnP_cons zq3];by_cases g:(nu x).2=0
      · rw[dF V,cond_false,if_neg V];by_cases h:(l.length:Int)=b
        · rw[dT h,cond_true,gI,if_pos V]
        · rw[dF h,cond_false,if_neg V];simp only[List.length_cons]at hN j;rw[j5 ⟨by simp;omega,by simp;omega⟩,ih t (l++[(nu x).1]) N i V (by simp;omega) (by simp;omega) (by simp;omega)];congr 2;omega
      · rw[dT g,cond_true,gI,if_pos g]
theorem Zj(N:Nat)(a:Str)(b:Int)(hN:60002<=N)(c:a.length<=60000)(d:0<=b):Ed N a b=some (ln b a):=by
 unfold Ed ln;have e:=Lt 10 a;rw[lines_loop a b c (jF 10 a) a [] N rfl (Nat.le_refl _) V (by simp;omega) (by simpa using d)];congr 2;omega
theorem eqByte(a b:Str):uI a b=some (decide (a=b)):=by
  unfold uI;by_cases h:a.length=b.length
  · rw[dF V];simp only[cond_false,Int.toNat_natCast];rw[OB (fun x y=>decide (x=y)) a b h rfl (fun i x y f c d=>by
      unfold zl;rw[kD,kD,c,d];by_cases e:x=y
      · subst e;simp
      · have:¬((x.toNat:Int)=(y.toNat:Int)):=fun h=>e<|UInt8.toNat_inj.1 V;simp[e,this]),Cc (fun _ _=>rfl)]
  · rw[dT V];have:a≠b:=fun e=>h (by rw[e]);rw[dF this];rfl
theorem diskSame(a b:gZ):O8 a b=some (decide (a=b)):=by
 unfold O8;rw[eqByte,eqByte];obtain⟨f,c⟩:=a;obtain⟨h,d⟩:=b;simp only[gZ.mk.injEq,bnd];by_cases e:f=h<;>by_cases g:c=d<;>simp[e,g]
theorem bcat5:∀(l:List Str) (a:Str),a.length+(l.map List.length).sum<=1000000->each sP sQ l a=some (a++l.flatten)
 |[],a,_=>by simp[qw,sQ]
 |x::l,a,h=>by
  simp only[List.map_cons,List.sum_cons]at h;rw[iC,sP,j5 ⟨by omega,by omega⟩,bcat5 l (a++x) (by rw[List.length_append];omega)];simp
theorem bcat7(a:List Str):∀(l:List Str) (n:Nat),n+(l.map List.length).sum<=1000000->each sS (oH a) l (n:Int)=oH a ((n+(l.map List.length).sum:Nat):Int)
 |[],n,_=>by simp[qw]
 |x::l,n,h=>by
  simp only[List.map_cons,List.sum_cons]at h⊢;rw[iC,sS,gI,dF V,cond_false,show((n:Int)+(x.length:Int))=((n+x.length:Nat):Int) by omega,bcat7 a l (n+x.length) V,Nat.add_assoc]
theorem bcat(a b:Str)(h:a.length+b.length<=1000000):rW [a,b]=some (a++b):=by
 unfold rW;have:=bcat7 [a,b] [a,b] 0 (by simp;omega);rw[show((0:Nat):Int)=0 from rfl]at this;rw[this];unfold oH;rw[show Kb 1 ((0+([a,b].map List.length).sum:Nat):Int)=some ([]:Str) by unfold Kb;rw[j5 ⟨by omega,by simp;omega⟩],bnd,bcat5 [a,b] [] (by simp;omega)];simp
def zD:gZ:=⟨[],[]⟩
def jB(d:gZ):Int:=if 60000<d.safe.length\/60000<d.safe.length+d.wait.length then 2 else(ln 120 d.safe).2.2
theorem Lf(N:Nat)(hN:60002<=N)(d:gZ)(b:d.wait.length<=9223372036854775807):uO N d=some (jB d):=by
  unfold uO jB;by_cases h:60000<d.safe.length
  · rw[dT V,cond_true,if_pos (.inl h)];rfl
  · rw[dF V,cond_false,gI];by_cases a:60000<d.safe.length+d.wait.length
    · rw[dT V,if_pos (.inr a)];rfl
    · rw[dF V,if_neg V];unfold EK;rw[cond_false,Zj N d.safe 120 hN V V,bnd]
theorem wo{d:gZ}(h:jB d=0):d.safe.length+d.wait.length<=60000/\(ln 120 d.safe).2.2=0:=by
  unfold jB at h;split at h
  · cases h
  · exact⟨by omega,h⟩
def putT(d:gZ)(r:Rec):gZ×Int:=
 if(wZ r).2≠0 then(zD,(wZ r).2)else if 60000<d.safe.length+d.wait.length+(wZ r).1.length+1 then(zD,2)else(⟨d.safe,d.wait++(wZ r).1++[10]⟩,0)
def wu(d:gZ)(r:Rec):gZ×Int:=if jB d≠0 then(zD,jB d)else putT d r
theorem text_len{r:Rec}(w:PH r):(wZ r).1.length<=27390:=by
  unfold wZ;split
  · rename_i h;have g:=goodR r (by rw[<-rec_eq];exact h);have c:=TD 32 21 ((nl r).map Lib.itoa) (by intro x a;obtain⟨y,b,rfl⟩:=List.mem_map.1 a;exact itoa_len (nl_ok g w y b));have d:=Zf g;rw[List.length_map]at c;show(vG 32 ((nl r).map Lib.itoa)).length<=_;omega
  · simp
theorem put_eq(N:Nat)(hN:60002<=N)(d:gZ)(r:Rec)(c:d.wait.length<=9223372036854775807)(w:PH r):Ig N d r=some (wu d r):=by
  unfold Ig wu putT;rw[Lf N hN d c,bnd];by_cases h:jB d=0
  · obtain⟨f,_⟩:=wo h;have e:=text_len w;rw[dF V,cond_false,if_neg V,print_eq r (fun _=>w),bnd];by_cases b:(wZ r).2=0
    · rw[dF V,cond_false,if_neg V,gI,gI,gI];by_cases a:60000<d.safe.length+d.wait.length+(wZ r).1.length+1
      · rw[dT V,cond_true,if_pos a];rfl
      · rw[dF V,cond_false,if_neg a,qF V V,bnd,qF V V,bnd,j5 ⟨by omega,by omega⟩,j5 ⟨by simp;omega,by simp;omega⟩]
    · rw[dT b,cond_true,if_pos b];rfl
  · rw[dT h,cond_true,if_pos h];rfl
def syncT(d:gZ):gZ×Int:=if jB ⟨d.safe++d.wait,[]⟩≠0 then(zD,jB ⟨d.safe++d.wait,[]⟩)else(⟨d.safe++d.wait,[]⟩,0)
def Gc(d:gZ):gZ×Int:=if jB d≠0 then(zD,jB d)else syncT d
theorem sync_eq(N:Nat)(hN:60002<=N)(d:gZ)(b:d.wait.length<=9223372036854775807):KT N d=some (Gc d):=by
  unfold KT Gc syncT;rw[Lf N hN d b,bnd];by_cases h:jB d=0
  · obtain⟨c,_⟩:=wo h;rw[dF V,cond_false,if_neg V,bcat _ _ V,bnd,Lf N hN _ zq3,bnd];by_cases a:jB ⟨d.safe++d.wait,[]⟩=0
    · rw[dF V,cond_false,if_neg V]
    · rw[dT a,cond_true,if_pos a];rfl
  · rw[dT h,cond_true,if_pos h];rfl
def J3(d:gZ)(n:Int):gZ×Int:=if jB d≠0 then(zD,jB d)else if n<0\/(d.wait.length:Int)<n then(zD,3)else(⟨d.safe,d.wait.take n.toNat⟩,0)
theorem crash_eq(N:Nat)(hN:60002<=N)(d:gZ)(n:Int)(b:d.wait.length<=9223372036854775807):IC N d n=some (J3 d n):=by
  unfold IC J3;rw[Lf N hN d b,bnd];by_cases h:jB d=0
  · obtain⟨c,_⟩:=wo h;rw[dF V,cond_false,if_neg V];by_cases a:n<0\/(d.wait.length:Int)<n
    · rw[show(decide (n<0)||decide ((d.wait.length:Int)<n))=true by simpa using a,cond_true,if_pos a];rfl
    · rw[show(decide (n<0)||decide ((d.wait.length:Int)<n))=false by simp;omega,cond_false,if_neg a];obtain⟨m,rfl⟩:=Int.eq_ofNat_of_zero_le (show 0<=n by omega);rw[show(0:Int)=((0:Nat):Int)from rfl,VN V V,bnd,qF V V,bnd,qF (by simp;omega) (by simp;omega),bnd,List.drop_zero,Int.toNat_natCast]
  · rw[dT h,cond_true,if_pos h];rfl
def Ri(d:gZ):gZ×List Rec:=
 (⟨d.safe++d.wait.take (ln (120-((ln 120 d.safe).1.length:Int)) d.wait).2.1.toNat,[]⟩,(ln 120 d.safe).1++(ln (120-((ln 120 d.safe).1.length:Int)) d.wait).1)
def Zk(d:gZ):gZ×List Rec×Int:=if jB d≠0 then(zD,[],jB d)else((Ri d).1,(Ri d).2,0)
theorem Zl(most:Int)(s:Str):0<=(ln most s).2.1/\(ln most s).2.1<=s.length/\(ln most s).1.length<=s.length+1/\(0<=most->((ln most s).1.length:Int)<=most):=by
 have h:=lnP_len most (jF 10 s) [] 0<|Int.le_refl 0;have a:=Lt 10 s;rw[Bu]at h;unfold ln;simp only[List.length_nil]at h;omega
theorem recover_eq(N:Nat)(hN:60002<=N)(d:gZ)(a:d.wait.length<=9223372036854775807):qJ N d=some (Zk d):=by
  unfold qJ Zk Ri;rw[Lf N hN d a,bnd];by_cases h:jB d=0
  · obtain⟨c,_⟩:=wo h;have k1:=Zl 120 d.safe;rw[dF V,cond_false,if_neg V,Zj N d.safe 120 hN V V,bnd,gI,Zj N d.wait _ hN V V,bnd];have k2:=Zl (120-((ln 120 d.safe).1.length:Int)) d.wait;generalize ln (120-((ln 120 d.safe).1.length:Int)) d.wait=y at*;obtain⟨e,f,b⟩:=y;simp only at k2⊢;obtain⟨m,rfl⟩:=Int.eq_ofNat_of_zero_le k2.1;rw[show(0:Int)=((0:Nat):Int)from rfl,VN V V,bnd,List.drop_zero,bcat _ _ (by simp;omega),bnd,j5 ⟨by omega,by omega⟩,Int.toNat_natCast]
  · rw[dT h,cond_true,if_pos h];rfl
def zt(r:Rec):Str:=vG 32 ((nl r).map Lib.itoa)
def FL(l:List Rec):Prop:=∀r∈l,dU r=0/\PH r
def txt:List Rec->Str
 |[]=>[]
 |r::l=>zt r++10::txt l
theorem Mx:∀(a b:List Rec),txt (a++b)=txt a++txt b
 |[],b=>rfl
 |r::a,b=>by simp[txt,Mx a b]
theorem mem_joinC(c:UInt8):∀(l:List Str) (x:UInt8),x∈vG c l->x=c\/∃w∈l,x∈w
  |[],x,h=>by simp[vG,Lib.join_nil]at h
  |[y],x,h=>by rw[Bt]at h;exact .inr ⟨y,by simp,h⟩
  |y::z::l,x,h=>by
    rw[yC]at h;rcases List.mem_append.1 h with h|h
    · exact .inr ⟨y,by simp,h⟩
    · rcases List.mem_cons.1 h with h|h
      · exact .inl h
      · rcases mem_joinC c (z::l) x h with h|⟨w,hw,h⟩
        · exact .inl h
        · exact .inr ⟨w,List.mem_cons_of_mem _ hw,h⟩
theorem line_free(r:Rec):(10:UInt8)∉zt r:=by
  intro h;rcases mem_joinC 32 _ _ h with h|⟨w,hw,h⟩
  · exact absurd h zq1
  · obtain⟨n,_,rfl⟩:=List.mem_map.1 hw;exact aad zq1 h
theorem VG:∀(l:List Rec) (t:Str),jF 10 (txt l++t)=l.map zt++jF 10 t
 |[],t=>rfl
 |r::l,t=>by
  rw[txt,List.append_assoc,List.cons_append,Bc (line_free r),VG l t];rfl
theorem lnP_txt(most:Int):∀(rs:List Rec) (q:List Str) (l:List Rec) (n:Int),FL rs->q≠[]->((l.length+rs.length:Nat):Int)<=most->Rm most (rs.map zt++q) l n=Rm most q (l++rs) (n+((txt rs).length:Int))
 |[],q,l,n,_,_,_=>by simp[txt]
 |r::rs,q,l,n,h,hq,hl=>by
  obtain⟨a,c⟩:=h r zq3;simp only[List.length_cons]at hl;have b:nu (zt r)=(r,0):=Zi a c;rw[List.map_cons,List.cons_append,lnP_cons (by simp[hq]),b,if_neg zq3,if_neg V,lnP_txt most rs q (l++[r]) _ (fun x d=>h x (List.mem_cons_of_mem _ d)) hq (by simp;omega)];simp only[txt,List.length_append,List.length_cons,List.append_assoc,List.cons_append,List.nil_append];congr 1;omega
theorem ln_txt{most:Int}{rs:List Rec}(t:Str)(h:FL rs)(a:(rs.length:Int)<=most):ln most (txt rs++t)=Rm most (jF 10 t) rs ((txt rs).length:Int):=by
 unfold ln;rw[VG,lnP_txt most rs _ [] 0 h (GN 10 t) (by simpa using a)];simp
theorem ln_all{most:Int}{rs:List Rec}(h:FL rs)(a:(rs.length:Int)<=most):ln most (txt rs)=(rs,((txt rs).length:Int),0):=by
 have:=ln_txt (most:=most) [] h a;rw[List.append_nil]at this;rw[this];simp[jF,Rm]
theorem ln_torn{most:Int}{rs:List Rec}{t:Str}(h:FL rs)(b:(rs.length:Int)<=most)(a:(10:UInt8)∉t):(ln most (txt rs++t)).1=rs/\(ln most (txt rs++t)).2.1=((txt rs).length:Int):=by
 rw[ln_txt t h b,Jd a];unfold Rm;split<;>simp
theorem G7{a:List Rec}{w:Str}(h:FL a)(c:a.length<=120)(b:(txt a).length+w.length<=60000):jB ⟨txt a,w⟩=0:=by
 unfold jB;show(if 60000<(txt a).length\/60000<(txt a).length+w.length then(2:Int)else(ln 120<|txt a).2.2)=0;rw[if_neg V,ln_all h V]
theorem put_txt{a b:List Rec}{r:Rec}(i:FL a)(g:a.length<=120)(f:(txt a).length+(txt b).length<=60000)(w:PH r):
    (wu ⟨txt a,txt b⟩ r).2≠0\/(wu ⟨txt a,txt b⟩ r=(⟨txt a,txt (b++[r])⟩,0)/\dU r=0/\(txt a).length+(txt (b++[r])).length<=60000):=by
  unfold wu putT;rw[if_neg (by rw[G7 i g f];simp)];by_cases h:dU r=0
  · have e:wZ r=(zt r,0):=text_ok h;rw[e];simp only[ne_eq,not_true_eq_false,if_false];by_cases c:60000<(txt a).length+(txt b).length+(zt r).length+1
    · rw[if_pos c];left;simp
    · rw[if_neg c];right;have d:txt (b++[r])=txt b++zt r++[10]:=by rw[Mx];simp[txt]
      refine⟨by rw[d],h,by rw[d];simp;omega⟩
  · have e:wZ r=([],dU r):=by unfold wZ;rw[if_neg h]
    rw[e,if_pos h];exact .inl h
theorem sync_txt{a b:List Rec}(c:FL a)(h:FL b)(f:a.length+b.length<=120)(d:(txt a).length+(txt b).length<=60000):Gc ⟨txt a,txt b⟩=(⟨txt (a++b),[]⟩,0):=by
 have e:FL (a++b):=fun r g=>(List.mem_append.1 g).elim (c r)<|h r;unfold Gc syncT;rw[if_neg (by rw[G7 c V d];simp)];show(if jB ⟨txt a++txt b,[]⟩≠0 then _ else _)=_;rw[<-Mx,if_neg (by rw[G7 e (by simpa using f) (by rw[Mx];simp;omega)];simp)]
theorem take_txt:∀(b:List Rec) (m:Nat),∃k t,(txt b).take m=txt (b.take k)++t/\(10:UInt8)∉t
  |[],m=>⟨0,[],by simp[txt],by simp⟩
  |r::b,m=>by
    by_cases h:m<=(zt r).length
    · refine⟨0,(zt r).take m,?_,fun a=>line_free r<|List.mem_of_mem_take a⟩;simp only[List.take_zero,txt,List.nil_append];rw[List.take_append_of_le_length h]
    · obtain⟨k,t,c,d⟩:=take_txt b<|m-(zt r).length-1;refine⟨k+1,t,?_,d⟩;rw[List.take_succ_cons,txt,txt,List.take_append,List.take_of_length_le V,List.append_assoc,List.cons_append,<-c];congr 1;rw[show m-(zt r).length=(m-(zt r).length-1)+1 by omega,List.take_succ_cons];simp
theorem Lg:FL []:=fun r h=>by cases h
theorem coSame(a b:List Co):HY a b=some (decide (a=b)):=by
  unfold HY;by_cases h:a.length=b.length
  · rw[dF V];simp only[cond_false];rw[Ls (fun x y=>decide (x=y)) a b h rfl (fun i x y j c=>by
      unfold HV CV;rw[kD,c];simp only[bnd,eqInt];have e:(((decide (x.lI=y.lI)&&decide (x.aM=y.aM))&&decide (x.offered=y.offered))&&decide (x.image=y.image))=decide (x=y):=by
        cases x;cases y;rw[Bool.eq_iff_iff];simp;exact⟨fun⟨⟨⟨f,c⟩,d⟩,g⟩=>⟨f,c,g,d⟩,fun⟨f,c,g,d⟩=>⟨⟨⟨f,c⟩,d⟩,g⟩⟩
      rw[<-e];cases ((decide (x.lI=y.lI)&&decide (x.aM=y.aM))&&decide (x.offered=y.offered))<;>cases decide (x.image=y.image)<;>rfl),Cc (fun _ _=>rfl)]
  · rw[dT V];have:a≠b:=fun e=>h (by rw[e]);rw[dF this];rfl
def coOk(x:Co):Prop:=0<=x.lI/\x.lI<=2/\1<=x.aM/\x.aM<=100/\ -1<=x.offered/\x.offered<=2/\1<=x.image.length/\x.image.length<=1200
def rg(x:Co):Bool:=(((((decide ((x.lI:Int)<0)||decide ((3:Int)<=x.lI))||decide ((x.aM:Int)<1))||decide ((100:Int)<x.aM))||decide ((x.offered:Int)< -1))||decide ((3:Int)<=x.offered))
def mn(x:Co):Bool:=(decide (((x.image.length:Int):Int)=0)||decide ((1200:Int)<(x.image.length:Int)))
theorem rg_eq(x:Co):(((!(bz x.lI 0 2))||(!(bz x.aM 1 100)))||(!(bz x.offered (-1) 2)))=rg x:=by
 unfold bz rg;rw[Bool.eq_iff_iff];simp;omega
theorem mn_eq(x:Co):(!(bz (x.image.length:Int) 1 1200))=mn x:=by
 have hn:0<=(x.image.length:Int):=by omega
 unfold bz mn;generalize (x.image.length:Int)=n at hn⊢;rw[Bool.eq_iff_iff];simp;omega
theorem coOk_iff(x:Co):coOk x↔rg x=false/\mn x=false:=by
 have hn:0<=(x.image.length:Int):=by omega
 unfold coOk rg mn;rw[show(1<=x.image.length)=(1<=(x.image.length:Int)) by simp;omega,show(x.image.length<=1200)=((x.image.length:Int)<=1200) by simp;omega];generalize (x.image.length:Int)=n at hn⊢;simp;omega
theorem chkEq(a:List Co):Jq a=some (gW a):=by
  unfold Jq gW;by_cases h:(3:Int)<(a.length:Int)
  · rw[dT h];rfl
  · rw[dF h];simp only[cond_false];have g:∀(k:List Co) (i:Nat) (b:Int),(∀j,k[j]? =a[i+j]?)->(i=0->b= -1)->(∀j,i=j+1->∃y,a[j]? =some y/\y.lI=b)->i<=a.length->fM (xy a) AY (i:Int) k ()=some (each jV kU k b):=by
      intro k;induction k with
      |nil=>intro i b _ _ _ _;rfl
      |cons x k ih=>
        intro i b l o m r;rw[wH,iC];have f:a[i]? =some x:=by have:=l 0;simpa using this.symm
        have n:i<a.length:=by
          rcases Nat.lt_or_ge i a.length with h|h
          · exact h
          · rw[List.getElem?_eq_none h]at f;cases f
        have c:=ih (i+1) x.lI (fun j=>by have:=l (j+1);simpa[Nat.add_assoc,Nat.add_comm 1 j]using this) V (fun j p=>⟨x,by rw[show j=i by omega];exact f,Z⟩) V;rw[show((i+1:Nat):Int)=(i:Int)+1 from rfl]at c;generalize fM (xy a) AY ((i:Int)+1) k=nx at c⊢;generalize each jV kU k=nx2 at c⊢;unfold xy jV;rw[rg_eq,mn_eq,<-rg,<-mn];cases hr:rg x with
        |true=>rfl
        |false=>
        cases hm:mn x with
        |true=>rfl
        |false=>
        have d:=(coOk_iff x).2 ⟨hr,hm⟩;simp only[cond_false];unfold AX;cases i with
        |zero=>
          rw[o rfl,dF (show¬x.lI<= -1 by have:=d.1;omega)];simpa using c
        |succ j=>
          obtain⟨y,q,e⟩:=m j Z;rw[dT (show(0:Int)<((j+1:Nat):Int) by omega),show((j+1:Nat):Int)-1=(j:Int) by omega,gI,kD,q];simp only[cond_true,bnd,e];cases decide (x.lI<=b)with
          |true=>rfl
          |false=>exact c
    exact g a 0 (-1) (fun j=>by simp) (fun _=>rfl) (fun j p=>by omega) V
abbrev Up(l:List Co):Prop:=l.Pairwise (fun x y=>x.lI<y.lI)
theorem each_ok:∀(l:List Co) (a:Int),each jV kU l a=0↔(∀x∈l,coOk x)/\Up l/\∀x∈l,a<x.lI
  |[],a=>by simp[qw,kU]
  |x::r,a=>by
    rw[iC];have g:=each_ok r x.lI;generalize each jV kU r=nx at g⊢;unfold jV;rw[rg_eq,mn_eq];have c:=coOk_iff x;cases hr:rg x with
    |true=>
      simp only[cond_true];constructor
      · intro h;exact absurd h zq1
      · intro h;have:=(c.1<|h.1 x List.mem_cons_self).1;rw[hr]at this;cases this
    |false=>
    cases hm:mn x with
    |true=>
      simp only[cond_true,cond_false];constructor
      · intro h;exact absurd h zq1
      · intro h;have:=(c.1<|h.1 x List.mem_cons_self).2;rw[hm]at this;cases this
    |false=>
    have ho:=c.2 ⟨hr,hm⟩;simp only[cond_false];by_cases i:x.lI<=a
    · rw[dT i];simp only[cond_true];constructor
      · intro h;exact absurd h zq1
      · intro h;have:=h.2.2 x List.mem_cons_self;omega
    · rw[dF i];simp only[cond_false];rw[g];show _↔_/\List.Pairwise _ (x::r)/\_;rw[List.pairwise_cons];constructor
      · rintro⟨e,f,d⟩;refine⟨?_,⟨d,f⟩,?_⟩
        · intro y b;rcases List.mem_cons.1 b with rfl|b
          · exact ho
          · exact e y b
        · intro y b;rcases List.mem_cons.1 b with rfl|b
          · omega
          · have:=d y b;omega
      · rintro⟨e,⟨f,d⟩,j⟩;exact⟨fun y b=>e y<|List.mem_cons_of_mem _ b,d,f⟩
structure Good(l:List Co):Prop where
 len:l.length<=3
 ok:∀x∈l,coOk x
 up:Up l
theorem good_iff(l:List Co):gW l=0↔Good l:=by
  unfold gW;by_cases h:(3:Int)<(l.length:Int)
  · rw[dT h];simp only[cond_true];exact⟨fun h=>absurd h zq1,fun g=>by have:=g.len;omega⟩
  · rw[dF h];simp only[cond_false];rw[each_ok];exact⟨fun⟨b,c,_⟩=>⟨by omega,b,c⟩,fun g=>⟨g.ok,g.up,fun x a=>by have:=(g.ok x a).1;omega⟩⟩
def GL(c:Co):List Co->List Co
 |[]=>[c]
 |x::r=>if x.lI<c.lI then x::GL c r else c::x::r
def MZ(b:Rec)(l:List Co):List Co:=l.filter fun x=>decide (x.lI≠b.co)
def Rj(b:Rec)(l:List Co):Option Co:=l.find? fun x=>decide (x.lI=b.co)
def kV(a:List Co)(b:Rec):List Co×Int:=
 if gW a≠0 then([],gW a)else if gV b≠0 then([],gV b)else
 match Rj b a with
 |none=>if b.kind=1\/b.kind=4 then(if(decide (b.aM=1) !=decide (b.kind=1))=true then([],7)else(GL ⟨b.co,b.aM,b.image,-1⟩ (MZ b a),0))else([],5)
 |some c=>if b.kind=1\/b.kind=4 then([],6)else if(decide (b.aM≠c.aM)||(decide (c.offered≠ -1) !=decide (b.kind=5)))=true then([],7)else
  if b.kind=5 then(MZ b a,0)else if b.kind=2 then(GL ⟨c.lI,c.aM,b.image,c.offered⟩ (MZ b a),0)else if c.aM=100 then([],2)else(GL ⟨c.lI,c.aM,c.image,b.place⟩ (MZ b a),0)
theorem oth_up(b:Rec){l:List Co}(h:Up l):Up (MZ b l):=h.filter _
theorem WJ{b:Rec}{l:List Co}{x:Co}(h:x∈MZ b l):x∈l/\x.lI≠b.co:=by
 unfold MZ at h;rw[List.mem_filter]at h;exact⟨h.1,by simpa using h.2⟩
theorem coCopy{a:List Co}(h:a.length<=3)(e:∀x∈a,x.image.length<=1200):Hy a=some a:=by
 unfold Hy;rw[qF V V];simp only[bnd,Int.toNat_natCast];have c:∀(m i:Nat),i+m=a.length->upto uP Au (i:Int) m a=some a:=by
  intro m;induction m with
  |zero=>intro i _;rfl
  |succ m ih=>
   intro i f;have d:i<a.length:=by omega
   show uP (i:Int) a (upto uP Au ((i:Int)+1) m)=_;have b:=ih (i+1) V;rw[show((i+1:Nat):Int)=(i:Int)+1 from rfl]at b;generalize upto uP Au ((i:Int)+1) m=nx at b⊢;unfold uP;rw[wI d];have:=e a[i]<|List.getElem_mem d;simp only[bnd];rw[qF V V];simp only[bnd,Int.toNat_natCast];rw[show({a[i]with image:=a[i].image}:Co)=a[i]from rfl,List.set_getElem_self];exact b
 simpa using c a.length 0 V
theorem findEq(a:List Co)(k:Int):qj a k=some (match a.findIdx? (fun x=>decide (x.lI=k))with|some n=>(n:Int)|none=> -1):=by
 unfold qj;simp only[Int.toNat_natCast];rw[TA (fun x=>decide (x.lI=k)) (fun i=>some i) a (fun i x c b=>by
  unfold JM;rw[kD,b];rfl)]
 cases a.findIdx? (fun x=>decide (x.lI=k))<;>rfl
theorem Tm(b:Rec):∀(a:List Co),(Rj b a=none/\a.findIdx? (fun x=>decide (x.lI=b.co))=none/\MZ b a=a)\/
    ∃n x,Rj b a=some x/\a.findIdx? (fun x=>decide (x.lI=b.co))=some n/\a[n]? =some x/\x.lI=b.co
  |[]=>.inl ⟨rfl,rfl,rfl⟩
  |x::r=>by
    unfold Rj MZ;rw[List.find?_cons,List.findIdx?_cons,List.filter_cons];by_cases h:x.lI=b.co
    · exact .inr ⟨0,x,by simp[h],by simp[h],Z,h⟩
    · simp only[h,decide_false,Bool.false_eq_true,if_false,ne_eq,not_false_eq_true,decide_true,if_true];rcases Tm b r with⟨h1,h2,h3⟩|⟨n,y,h1,h2,h3,h4⟩
      · exact .inl ⟨h1,by rw[h2];rfl,by unfold MZ at h3;rw[h3]⟩
      · exact .inr ⟨n+1,y,h1,by rw[h2];rfl,by simpa using h3,h4⟩
theorem WM(b:Rec):∀(a:List Co) (n:Nat) (x y:Co),Up a->a[n]? =some x->x.lI=b.co->y.lI=b.co->a.set n y=GL y (MZ b a)
 |[],n,x,y,_,h,_,_=>by simp at h
 |z::r,0,x,y,hu,h,hx,hy=>by
  simp only[List.getElem?_cons_zero,Option.some.injEq]at h;subst h;rw[Up,List.pairwise_cons]at hu;have c:MZ b (z::r)=r:=by
   unfold MZ;rw[List.filter_cons,if_neg (by simp[hx]),List.filter_eq_self];intro u d;have:=hu.1 u d;simp;omega
  rw[c,List.set_cons_zero];cases r with
  |nil=>rfl
  |cons u r=>
   have:=hu.1 u List.mem_cons_self;simp only[GL];rw[if_neg V]
 |z::r,n+1,x,y,hu,h,hx,hy=>by
  simp only[List.getElem?_cons_succ]at h;rw[Up,List.pairwise_cons]at hu;have e:=hu.1 x<|List.mem_of_getElem? h;have c:MZ b (z::r)=z::MZ b r:=by unfold MZ;rw[List.filter_cons,if_pos (by simp;omega)]
  rw[c,List.set_cons_succ,WM b r n x y hu.2 h hx hy];simp only[GL];rw[if_pos V]
theorem del_oth(b:Rec):∀(a:List Co) (n:Nat) (x:Co),Up a->a[n]? =some x->x.lI=b.co->a.take n++a.drop (n+1)=MZ b a
 |[],n,x,_,h,_=>by simp at h
 |z::r,0,x,hu,h,hx=>by
  simp only[List.getElem?_cons_zero,Option.some.injEq]at h;subst h;rw[Up,List.pairwise_cons]at hu;unfold MZ;rw[List.filter_cons,if_neg (by simp[hx])];have:r.filter (fun x=>decide<|x.lI≠b.co)=r:=by
   rw[List.filter_eq_self];intro u c;have:=hu.1 u c;simp;omega
  rw[this];simp
 |z::r,n+1,x,hu,h,hx=>by
  simp only[List.getElem?_cons_succ]at h;rw[Up,List.pairwise_cons]at hu;have e:=hu.1 x<|List.mem_of_getElem? h;have d:MZ b (z::r)=z::MZ b r:=by unfold MZ;rw[List.filter_cons,if_pos (by simp;omega)]
  rw[d,<-del_oth b r n x hu.2 h hx];simp
theorem ins_loop(b:Rec)(a:List Co)(f:a.length<=3)(g:b.image.length<=1200):∀(k i N:Nat),i+k=a.length->k<N->again (kC a b) N (i:Int)=some (a.take i++GL ⟨b.co,b.aM,b.image,-1⟩ (a.drop i),0)
  |0,i,N+1,h,_=>by
    show kC a b (i:Int) (again (kC a b) N)=_;generalize again (kC a b) N=nx;unfold kC yV;rw[dF V];simp only[cond_false];rw[qF V V];simp only[bnd];rw[j5 (Room.mk (by simp;omega) (by simp;omega)),ins1,if_pos ⟨by omega,by omega⟩];rw[List.drop_eq_nil_of_le (show a.length<=i by omega)];simp[GL,show a.drop i=[]from List.drop_eq_nil_of_le V]
  |k+1,i,N+1,h,hN=>by
    have d:i<a.length:=by omega
    have e:=ins_loop b a f g k (i+1) N V V;rw[show((i+1:Nat):Int)=(i:Int)+1 from rfl]at e;show kC a b (i:Int) (again (kC a b) N)=_;generalize again (kC a b) N=nx at e⊢;unfold kC yV;rw[dT V,wI d];simp only[cond_true,bnd];by_cases c:a[i].lI<b.co
    · rw[dT c];simp only[cond_true];rw[gI,e,List.drop_eq_getElem_cons d];simp only[GL];rw[if_pos c,List.take_succ_eq_append_getElem d,List.append_assoc,List.singleton_append]
    · rw[dF c];simp only[cond_false];rw[qF V V];simp only[bnd];rw[j5 (Room.mk (by simp;omega) (by simp;omega)),ins1,if_pos ⟨by omega,by omega⟩];simp only[bnd,Int.toNat_natCast];rw[List.drop_eq_getElem_cons d];simp only[GL];rw[if_neg c,List.append_assoc,List.singleton_append]
theorem next_eq(N:Nat)(hN:5<N)(a:List Co)(b:Rec):Ee N a b=some (kV a b):=by
  unfold Ee kV;rw[chkEq];simp only[bnd];by_cases e:gW a=0
  · rw[rec_eq];by_cases j:gV b=0
    · have g:=(good_iff a).1 e;have gr:=goodR b j;have gl:=g.len;rw[e,j];simp only[ne_eq,not_true_eq_false,decide_false,cond_false,if_false];rw[coCopy g.len (fun x p=>(g.ok x p).2.2.2.2.2.2.2)];simp only[bnd];rw[findEq];simp only[bnd];have t:=gr.kind;have f:(decide ((b.kind:Int)=1)||decide ((b.kind:Int)=4))=decide (b.kind=1\/b.kind=4):=by simp
      rw[f];rcases Tm b a with⟨e1,e2,e3⟩|⟨n,c,e1,e2,e3,e4⟩
      · rw[e1,e2];simp only;by_cases d:b.kind=1\/b.kind=4
        · rw[dT d,if_pos d];simp only[cond_true];rw[show decide ((0:Int)<= -1)=false by decide];simp only[cond_false];have r:((decide ((b.kind:Int)=1)&&decide ((b.aM:Int)≠1))||(decide ((b.kind:Int)=4)&&decide ((b.aM:Int)=1)))=(decide (b.aM=1) !=decide (b.kind=1)):=by
            by_cases q:b.aM=1
            · rcases d with k|k<;>simp[q,k]
            · rcases d with k|k<;>simp[q,k]
          rw[r];cases (decide (b.aM=1) !=decide (b.kind=1))with
          |true=>rfl
          |false=>
            simp only[cond_false,Bool.false_eq_true,if_false];have:=ins_loop b a g.len gr.image a.length 0 N V V;simp only[Int.natCast_zero,List.take_zero,List.drop_zero,List.nil_append]at this;rw[this,e3]
        · rw[dF d,if_neg d];simp only[cond_false];rw[show decide ((-1:Int)<0)=true by decide];rfl
      · have hn:n<a.length:=by
          rcases Nat.lt_or_ge n a.length with h|h
          · exact h
          · rw[List.getElem?_eq_none h]at e3;cases e3
        have l:=g.ok c<|List.mem_of_getElem? e3;rw[e1,e2];simp only;by_cases d:b.kind=1\/b.kind=4
        · rw[dT d,if_pos d];simp only[cond_true];rw[dT (show(0:Int)<=(n:Int) by omega)];rfl
        · rw[dF d,if_neg d];simp only[cond_false];rw[dF (show¬(n:Int)<0 by omega),kD,e3];simp only[cond_false,bnd];have ho:decide ((0:Int)<=c.offered)=decide (c.offered≠ -1):=by
            rw[decide_eq_decide];have:=l.2.2.2.2.1;omega
          have s:(bif decide (c.aM≠b.aM)then rX b a (n:Int) c true else rX b a (n:Int) c (decide (b.kind=5) !=decide ((0:Int)<=c.offered)))=rX b a (n:Int) c (decide (b.aM≠c.aM)||(decide (c.offered≠ -1) !=decide (b.kind=5))):=by
            rw[ho];by_cases q:b.aM=c.aM
            · rw[q];simp only[ne_eq,not_true_eq_false,decide_false,cond_false,Bool.false_or];cases decide (b.kind=5)<;>cases decide (¬c.offered= -1)<;>rfl
            · rw[show decide (c.aM≠b.aM)=true from dT (fun h=>q h.symm),show decide (b.aM≠c.aM)=true from dT q];rfl
          refine s.trans ?_;unfold rX;cases (decide (b.aM≠c.aM)||(decide (c.offered≠ -1) !=decide (b.kind=5)))with
          |true=>rfl
          |false=>
            simp only[cond_false,Bool.false_eq_true,if_false];by_cases k2:b.kind=2
            · rw[dT k2,if_neg V,if_pos k2];simp only[cond_true];rw[qF (by have:=gr.image;omega) (by have:=gr.image;omega)];simp only[bnd,Int.toNat_natCast];rw[WM b a n c {c with image:=b.image} g.up e3 e4 e4]
            · rw[dF k2,if_neg k2];simp only[cond_false];by_cases m:b.kind=3
              · rw[dT m,if_neg V];simp only[cond_true];by_cases i:c.aM=100
                · rw[dT i,if_pos i];rfl
                · rw[dF i,if_neg i];simp only[cond_false,Int.toNat_natCast];rw[WM b a n c {c with offered:=b.place} g.up e3 e4 e4]
              · have o:b.kind=5:=by omega
                rw[dF m,dT o,if_pos o];simp only[cond_false,cond_true];rw[gI,del_s1 hn];simp only[bnd];rw[del_oth b a n c g.up e3 e4]
    · rw[e];simp only[ne_eq,not_true_eq_false,decide_false,cond_false,if_false];rw[show decide (¬gV b=0)=true from dT j,if_pos j];rfl
  · rw[show decide (gW a≠0)=true from dT e,if_pos e];rfl
def sK:List Co->List Rec->List Co×Int
 |s,[]=>(s,0)
 |s,r::l=>if(kV s r).2≠0 then([],(kV s r).2)else sK (kV s r).1 l
theorem rep_each(N:Nat)(hN:5<N):∀(l:List Rec) (s:List Co),each (AZ N) A7 l s=some (sK s l)
  |[],s=>by simp[qw,A7,sK]
  |r::l,s=>by
    rw[iC,AZ,next_eq N hN,bnd,sK];by_cases h:(kV s r).2=0
    · rw[dF V,cond_false,if_neg V,rep_each N hN l]
    · rw[dT h,cond_true,if_pos h]
theorem replay_eq(N:Nat)(hN:5<N)(l:List Rec):CU N l=some (if 120<l.length then([],2)else sK [] l):=by
  unfold CU;by_cases h:120<l.length
  · rw[dT V,cond_true,if_pos h]
  · rw[dF V,cond_false,if_neg h,rep_each N hN]
theorem pRep_app:∀(a b:List Rec) (s:List Co),sK s (a++b)=if(sK s a).2≠0 then([],(sK s a).2)else sK (sK s a).1 b
  |[],b,s=>by simp[sK]
  |r::a,b,s=>by
    rw[List.cons_append,sK,sK];by_cases h:(kV s r).2=0
    · simp only[h,ne_eq,not_true_eq_false,if_false];exact pRep_app a b _
    · simp[h]
theorem Ou{c y:Co}:∀{l:List Co},y∈GL c l↔y=c\/y∈l
  |[]=>by simp[GL]
  |x::r=>by
    unfold GL;split
    · rw[List.mem_cons,Ou,List.mem_cons];constructor
      · rintro(h|h|h)
        · exact .inr<|.inl h
        · exact .inl h
        · exact .inr<|.inr h
      · rintro(h|h|h)
        · exact .inr<|.inl h
        · exact .inl h
        · exact .inr<|.inr h
    · rw[List.mem_cons]
theorem FM{c:Co}:∀{l:List Co},(GL c l).length=l.length+1
  |[]=>rfl
  |x::r=>by
    unfold GL;split
    · rw[List.length_cons,FM,List.length_cons]
    · rfl
theorem insC_up{c:Co}:∀{l:List Co},Up l->(∀x∈l,x.lI≠c.lI)->Up (GL c l)
  |[],_,_=>by simp[GL,Up]
  |x::r,h,hn=>by
    rw[Up,List.pairwise_cons]at h;have b:=hn x List.mem_cons_self;unfold GL;split
    · next hl=>
      show List.Pairwise _ _;rw[List.pairwise_cons];refine⟨fun y a=>?_,insC_up h.2 fun y a=>hn y<|List.mem_cons_of_mem _ a⟩;rcases Ou.1 a with rfl|a
      · exact hl
      · exact h.1 y a
    · next hl=>
      show List.Pairwise _ _;rw[List.pairwise_cons,List.pairwise_cons];refine⟨fun y a=>?_,h.1,h.2⟩;rcases List.mem_cons.1 a with rfl|a
      · omega
      · have:=h.1 y a;omega
theorem find_of{l:List Co}(b:Up l){x:Co}(a:x∈l):∃n,l.findIdx? (fun y=>decide (y.lI=x.lI))=some n/\l[n]? =some x/\n<l.length:=by
  induction l with
  |nil=>cases a
  |cons z r ih=>
    rw[Up,List.pairwise_cons]at b;rw[List.findIdx?_cons];rcases List.mem_cons.1 a with rfl|a
    · exact⟨0,by simp,Z,by simp⟩
    · have:=b.1 x a;obtain⟨n,c,d,e⟩:=ih b.2 a;exact⟨n+1,by rw[if_neg (by simp;omega),c];rfl,by simpa using d,by simp;omega⟩
theorem next_ok(a:List Co)(b:Rec)(h:(kV a b).2=0):Good a/\Good (kV a b).1/\a.length<=(kV a b).1.length+1/\(kV a b).1.length<=a.length+1/\(∀x∈a,x.lI≠b.co->x∈(kV a b).1)/\(∀x∈a,x.lI=b.co->0<=x.offered->b.kind=5):=by
  unfold kV at h⊢;by_cases q:gW a=0
  · by_cases t:gV b=0
    · have g:=(good_iff a).1 q;have gr:=goodR b t;have gl:=g.len;have B:=gr.co;rw[if_neg (by simpa using q),if_neg (by simpa using t)]at h⊢;have i:∀x∈a,x.lI≠b.co->x∈MZ b a:=fun x f hn=>by unfold MZ;rw[List.mem_filter];exact⟨f,by simpa using hn⟩
      have k:∀c:Co,coOk c->c.lI=b.co->(MZ b a).length<=2->Good (GL c (MZ b a)):=fun c K M O=>⟨by rw[FM];omega,fun x f=>by
        rcases Ou.1 f with rfl|f
        · exact K
        · exact g.ok x (WJ f).1,insC_up (oth_up b g.up) (fun x f=>by have:=(WJ f).2;omega)⟩
      rcases Tm b a with⟨e1,e2,e3⟩|⟨n,c,e1,e2,e3,e4⟩
      · rw[e1]at h⊢;simp only at h⊢;have hno:∀x∈a,x.lI≠b.co:=fun x f e=>by
          unfold Rj at e1;rw[List.find?_eq_none]at e1;exact e1 x f (by simpa using e)
        by_cases s:b.kind=1\/b.kind=4
        · rw[if_pos s]at h⊢;cases hq:(decide (b.aM=1) !=decide (b.kind=1))with
          |true=>rw[hq,if_pos Z]at h;exact absurd h zq1
          |false=>
            rw[hq]at h;simp only[Bool.false_eq_true,if_false]at h⊢;have w:a.length<=2:=by
              match a,g,hno with
              |[],_,_=>simp
              |[x],_,_=>simp
              |[x,y],_,_=>simp
              |[x,y,z],g,hno=>
                have J:=g.up;simp[Up]at J;have o1:=g.ok x zq3;have o2:=g.ok y zq3;have L:=g.ok z zq3;have S:=hno x zq3;have R:=hno y zq3;have Q:=hno z zq3;unfold coOk at o1 o2 L;omega
              |x::y::z::u::r,g,_=>have:=g.len;simp at this
            have A:=gr.has V;refine⟨g,k _ ⟨B.1,B.2,gr.aM.1,gr.aM.2,by simp,by simp,A,gr.image⟩ Z (by rw[e3];exact w),?_,?_,fun x f hn=>Ou.2 (.inr (i x f hn)),fun x f e=>absurd e (hno x f)⟩
            · rw[FM,e3];omega
            · rw[FM,e3];omega
        · rw[if_neg s]at h;exact absurd h zq1
      · rw[e1]at h⊢;simp only at h⊢;have hn:n<a.length:=by
          rcases Nat.lt_or_ge n a.length with h|h
          · exact h
          · rw[List.getElem?_eq_none h]at e3;cases e3
        have N:(MZ b a).length+1=a.length:=by
          rw[<-del_oth b a n c g.up e3 e4];simp;omega
        have d:=g.ok c<|List.mem_of_getElem? e3;have o:∀x∈a,x.lI=b.co->x=c:=by
          intro x f p;obtain⟨m,E,I,_⟩:=find_of g.up f;rw[p,e2]at E;cases E;rw[e3]at I;exact(osi I).symm
        by_cases s:b.kind=1\/b.kind=4
        · rw[if_pos s]at h;exact absurd h zq1
        · rw[if_neg s]at h⊢;cases hq:(decide (b.aM≠c.aM)||(decide (c.offered≠ -1) !=decide (b.kind=5)))with
          |true=>rw[hq,if_pos Z]at h;exact absurd h zq1
          |false=>
            rw[hq]at h;simp only[Bool.false_eq_true,if_false]at h⊢;have j:∀x∈a,x.lI=b.co->0<=x.offered->b.kind=5:=by
              intro x f p P;have:=o x f p;subst this;rw[Bool.or_eq_false_iff]at hq;have v:=hq.2;rw[show decide (x.offered≠ -1)=true from dT V]at v;cases h5:decide (b.kind=5)with
              |true=>exact Xi h5
              |false=>rw[h5]at v;cases v
            have l:∀(C:Co) x,x∈a->x.lI≠b.co->x∈GL C (MZ b a):=fun C x f hn=>Ou.2<|.inr<|i x f hn;by_cases G:b.kind=5
            · rw[if_pos G]at h⊢;exact⟨g,⟨by show(MZ b a).length<=3;omega,fun x f=>g.ok x (WJ f).1,oth_up b g.up⟩,by show a.length<=(MZ b a).length+1;omega,by show(MZ b a).length<=a.length+1;omega,i,j⟩
            · rw[if_neg G]at h⊢;by_cases k2:b.kind=2
              · rw[if_pos k2]at h⊢;have A:=gr.has V;refine⟨g,k _ ⟨d.1,d.2.1,d.2.2.1,d.2.2.2.1,d.2.2.2.2.1,d.2.2.2.2.2.1,A,gr.image⟩ e4 V,?_,?_,l _,j⟩
                · rw[FM];omega
                · rw[FM];omega
              · rw[if_neg k2]at h⊢;by_cases p:c.aM=100
                · rw[if_pos p]at h;exact absurd h zq1
                · rw[if_neg p]at h⊢;have hp:=gr.place;refine⟨g,k _ ⟨d.1,d.2.1,d.2.2.1,d.2.2.2.1,by show-1<=b.place;omega,hp.2,d.2.2.2.2.2.2.1,d.2.2.2.2.2.2.2⟩ e4 V,?_,?_,l _,j⟩
                  · rw[FM];omega
                  · rw[FM];omega
    · rw[if_neg (by simpa using q),if_pos t]at h;exact absurd h t
  · rw[if_pos q]at h;exact absurd h q
theorem mailEq(x y:gM):((((((decide (x.from_=y.from_)&&decide (x.jy=y.jy))&&decide (x.co=y.co))&&decide (x.aM=y.aM))&&(x.taken==y.taken)))&&decide (x.image=y.image))=decide (x=y):=by
 cases x;cases y;rw[Bool.eq_iff_iff];simp[and_assoc]
theorem wSame(a b:List gM):SQ a b=some (decide (a=b)):=by
  unfold SQ;by_cases h:a.length=b.length
  · rw[show decide (((a.length:Int):Int)≠(b.length:Int))=false by simp[h]];simp only[cond_false];rw[Ls (fun x y=>decide (x=y)) a b h rfl (fun i x y d c=>by
      unfold Ms GH;rw[kD,c,<-mailEq];simp only[bnd,eqInt];cases ((((decide (x.from_=y.from_)&&decide (x.jy=y.jy))&&decide (x.co=y.co))&&decide (x.aM=y.aM))&&(x.taken==y.taken))<;>cases decide (x.image=y.image)<;>rfl),Cc (fun _ _=>rfl)]
  · rw[show decide (((a.length:Int):Int)≠(b.length:Int))=true by simp;omega];have:a≠b:=fun e=>h (by rw[e]);simp[this]
theorem VH{a:List gM}(h:dO a=0):a.length<=40/\∀x∈a,x.image.length<=1200:=by
  unfold dO at h;by_cases c:(40:Int)<(a.length:Int)
  · rw[decide_eq_true c]at h;cases h
  · rw[decide_eq_false c]at h;refine⟨by omega,?_⟩;simp only[cond_false]at h;clear c;induction a with
    |nil=>intro x b;cases b
    |cons y r ih=>
      rw[iC]at h;unfold zC at h;generalize e:(((((((decide ((y.from_:Int)<0)||decide ((3:Int)<=y.from_))||decide ((y.jy:Int)<0))||decide ((3:Int)<=y.jy))||decide ((y.co:Int)<0))||decide ((3:Int)<=y.co))||decide ((y.aM:Int)<2))||decide ((100:Int)<y.aM))=A at h;cases A with
      |true=>cases h
      |false=>
        simp only[cond_false]at h;generalize d:((y.taken !=decide (((y.image.length:Int):Int)=0))||decide ((1200:Int)<(y.image.length:Int)))=B at h;cases B with
        |true=>cases h
        |false=>
          simp only[cond_false]at h;intro x b;rcases List.mem_cons.1 b with rfl|b
          · simp only[Bool.or_eq_false_iff,decide_eq_false_iff_not]at d;omega
          · exact ih h x b
theorem wCopy{a:List gM}(h:a.length<=40)(d:∀x∈a,x.image.length<=1200):De a=some a:=by
 unfold De;rw[qF V V];simp only[bnd,Int.toNat_natCast];have b:∀(m i:Nat),i+m=a.length->upto BI Jt (i:Int) m a=some a:=by
  intro m;induction m with
  |zero=>intro i _;rfl
  |succ m ih=>
   intro i e;have c:i<a.length:=by omega
   show BI (i:Int) a (upto BI Jt ((i:Int)+1) m)=_;unfold BI;rw[wI c];have:=d a[i]<|List.getElem_mem c;simp only[bnd];rw[qF V V];simp only[bnd,Int.toNat_natCast];rw[show({a[i]with image:=a[i].image}:gM)=a[i]from rfl,List.set_getElem_self];exact ih (i+1) V
 simpa using b a.length 0 V
theorem b_t{p:Prop} [Decidable p](h:p):decide p=true:=decide_eq_true h
theorem b_f{p:Prop} [Decidable p](h:¬p):decide p=false:=decide_eq_false h
theorem wSend(a:List gM)(b:gM):NR a b=some (if dO a≠0 then([],dO a)else if dO [b]≠0 then([],dO [b])else(if a.length<40 then a++[b]else a,0)):=by
  unfold NR;by_cases c:dO a≠0
  · rw[b_t c,if_pos c];rfl
  · rw[b_f c,if_neg c];by_cases d:dO [b]≠0
    · rw[b_t d,if_pos d];rfl
    · rw[b_f d,if_neg d];have c1:=VH<|Decidable.not_not.1 c;have c2:=VH<|Decidable.not_not.1 d;simp only[cond_false,wCopy c1.1 c1.2,wCopy c2.1 c2.2,bnd];by_cases e:(a.length:Int)<40
      · rw[b_t e,if_pos V];simp only[cond_true];exact j5 (Room.mk (by simp;omega) (by simp;omega))
      · rw[b_f e,if_neg V];rfl
def zMail:gM:=⟨0,0,0,0,false,[]⟩
theorem wTake(a:List gM)(k:Int)(t:Bool):Ie a k t=some (if dO a≠0 then([],zMail,dO a)else if k<0\/(a.length:Int)<=k then([],zMail,5)else(if t then a else a.take k.toNat++a.drop (k.toNat+1),(a[k.toNat]?).getD zMail,0)):=by
  unfold Ie Ju;by_cases b:dO a≠0
  · rw[b_t b,if_pos b];rfl
  · rw[b_f b,if_neg b];have c1:=VH<|Decidable.not_not.1 b;by_cases c:k<0\/(a.length:Int)<=k
    · rw[show(decide (k<0)||decide ((a.length:Int)<=k))=true by simpa using c,if_pos c];rfl
    · rw[show(decide (k<0)||decide ((a.length:Int)<=k))=false by simpa using c,if_neg c];obtain⟨n,rfl⟩:=Int.eq_ofNat_of_zero_le (show 0<=k by omega);have hn:n<a.length:=by omega
      simp only[cond_false,wCopy c1.1 c1.2,bnd,Int.toNat_natCast];have g1:ku ((n:Int)+1):=ku.mk V V;rw[j5 g1];have e:(n:Int)+1=((n+1:Nat):Int):=rfl;rw[e,VN V V];have f:=one_at hn;rw[f];simp only[bnd];rw[wCopy zq3 (by intro x d;simp at d;subst d;exact c1.2 _ (List.getElem_mem hn))];simp only[bnd];rw[show idx [a[n]] 0=some a[n]from rfl];simp only[bnd,List.getElem?_eq_getElem hn,Option.getD_some];cases t with
      |true=>simp only[Bool.not_true,cond_false,if_true]
      |false=>
        simp only[Bool.not_false,cond_true];rw[j5 (show ku (((n+1:Nat):Int))from ku.mk V V),del_s V V];simp only[bnd,Bool.false_eq_true,if_false]
end Dk
open Go Go.Proofs Go.LX
namespace Pw
open Dk
theorem lnP_inv(most:Int):∀(p:List Str) (l:List Rec) (n:Int),∃rs,(Rm most p l n).1=l++rs/\FL rs/\(Rm most p l n).2.1=n+((txt rs).length:Int)/\∃t,vG 10 p=txt rs++t/\((Rm most p l n).2.2=0->t=[])
  |[],l,n=>⟨[],by simp[Rm],Lg,by simp[Rm,txt],[],by simp[vG,Lib.join_nil,txt],fun _=>rfl⟩
  |[x],l,n=>by
    unfold Rm;by_cases h:x=[]
    · rw[if_pos h];subst h;exact⟨[],by simp,Lg,by simp[txt],[],by rw[Bt];rfl,fun _=>rfl⟩
    · rw[if_neg h];exact⟨[],by simp,Lg,by simp[txt],x,by rw[Bt];rfl,fun h=>by simp at h⟩
  |x::y::r,l,n=>by
    unfold Rm;by_cases a:(nu x).2=0
    · rw[if_neg V];by_cases c:most<=(l.length:Int)
      · rw[if_pos c];exact⟨[],by simp,Lg,by simp[txt],_,Z,fun h=>by simp at h⟩
      · rw[if_neg c];obtain⟨rs,i,e,f,t,g,j⟩:=lnP_inv most (y::r) (l++[(nu x).1])<|n+(x.length:Int)+1;obtain⟨k1,k2,d⟩:=read_ok (s:=x) (r:=(nu x).1) (by rw[<-a]);refine⟨(nu x).1::rs,by rw[i];simp,?_,?_,t,?_,j⟩
        · intro z b;rcases List.mem_cons.1 b with rfl|b
          · exact⟨k1,k2⟩
          · exact e z b
        · rw[f];have:(zt (nu x).1)=x:=d.symm;simp only[txt,List.length_append,List.length_cons,this];omega
        · rw[yC,g];have:(zt (nu x).1)=x:=d.symm;simp[txt,this]
    · rw[if_pos a];exact⟨[],by simp,Lg,by simp[txt],_,Z,fun h=>absurd h a⟩
theorem ln_inv(most:Int)(s:Str):FL (ln most s).1/\(ln most s).2.1=((txt (ln most s).1).length:Int)/\∃t,s=txt (ln most s).1++t/\((ln most s).2.2=0->t=[]):=by
 obtain⟨rs,a,c,e,t,b,d⟩:=lnP_inv most (jF 10 s) [] 0;rw[List.nil_append]at a;rw[Bu]at b;unfold ln;rw[a];exact⟨c,by rw[e];omega,t,b,d⟩
def GM(d:gZ):List Rec:=(ln 120 d.safe).1
def mG(d:gZ):List Rec:=(Ri d).2
structure DOk(d:gZ):Prop where
 safe:d.safe=txt (GM d)
 good:FL (mG d)
 len:(mG d).length<=120
 room:d.safe.length+d.wait.length<=60000
 pre:GM d<+:mG d
 whole:(Ri d).1=⟨txt (mG d),[]⟩
 rroom:(txt (mG d)).length<=60000
 still:d.wait=[]->mG d=GM d
theorem dOk{d:gZ}(h:jB d=0):DOk d:=by
  obtain⟨g,l⟩:=Dk.wo h;obtain⟨g1,g2,t,c,j⟩:=ln_inv 120 d.safe;have m:=j l;subst m;rw[List.append_nil]at c;have o:((ln 120 d.safe).1.length:Int)<=120:=(Zl 120 d.safe).2.2.2 V;obtain⟨k1,k2,u,f,q⟩:=ln_inv (120-((ln 120 d.safe).1.length:Int)) d.wait;have i:=(Zl (120-((ln 120 d.safe).1.length:Int)) d.wait).2.2.2 V;have a:mG d=(ln 120 d.safe).1++(ln (120-((ln 120 d.safe).1.length:Int)) d.wait).1:=rfl;have b:d.wait.take (ln (120-((ln 120 d.safe).1.length:Int)) d.wait).2.1.toNat=txt (ln (120-((ln 120 d.safe).1.length:Int)) d.wait).1:=by
    generalize p:txt (ln (120-((ln 120 d.safe).1.length:Int)) d.wait).1=T at k2 f;rw[k2,Int.toNat_natCast,f,List.take_left]
  have n:(txt (ln (120-((ln 120 d.safe).1.length:Int)) d.wait).1).length<=d.wait.length:=by
    rw[<-b,List.length_take];omega
  refine⟨c,?_,?_,g,?_,?_,?_,?_⟩
  · rw[a];exact fun r k=>(List.mem_append.1 k).elim (g1 r)<|k1 r
  · rw[a,List.length_append];omega
  · rw[a];exact List.prefix_append _ _
  · show(⟨d.safe++d.wait.take (ln (120-((ln 120 d.safe).1.length:Int)) d.wait).2.1.toNat,[]⟩:gZ)=_;rw[b,a,Mx,<-c]
  · rw[a,Mx,List.length_append,<-c];omega
  · intro e;rw[a,e];show _++(Rm _ (jF 10 []) [] 0).1=_;simp[jF,Rm,GM]
theorem dOk_mk{a:List Rec}{w:Str}(h:FL a)(c:a.length<=120)(b:(txt a).length+w.length<=60000):jB ⟨txt a,w⟩=0/\GM ⟨txt a,w⟩=a:=by
 refine⟨G7 h c b,?_⟩;unfold GM;rw[ln_all h V]
theorem note_disk{d:gZ}(h:jB d=0)(q:d.wait=[]){r:Rec}(w:PH r){d1 d2:gZ}(t:wu d r=(d1,0))(g:Gc d1=(d2,0)):
    dU r=0/\d2=⟨txt (GM d++[r]),[]⟩/\jB d2=0/\GM d2=GM d++[r]/\mG d2=GM d++[r]/\(GM d).length+1<=120:=by
  have j:=dOk h;obtain⟨u,y⟩:=d;simp only at q;subst q;have s:=j.safe;simp only at s;have c:=j.room;simp only[List.length_nil]at c;have m:=j.len;rw[j.still rfl]at m;have i:=j.good;rw[j.still rfl]at i;generalize z:GM ⟨u,[]⟩=a at*;subst s;have e:=put_txt (a:=a) (b:=[]) (r:=r) i m (by simpa[txt]using c) w;rw[show txt ([]:List Rec)=[]from rfl,t]at e;rcases e with e|⟨e,er,el⟩
  · exact absurd Z e
  · rw[List.nil_append]at e el;obtain rfl:=congrArg Prod.fst e;simp only at g;have k:FL [r]:=fun x l=>by rw[List.mem_singleton]at l;subst l;exact⟨er,w⟩
    have o:FL (a++[r]):=fun x l=>(List.mem_append.1 l).elim (i x)<|k x;by_cases f:a.length+1<=120
    · rw[sync_txt i k (by simpa using f) el]at g;obtain rfl:=congrArg Prod.fst g;obtain⟨k1,k2⟩:=dOk_mk (a:=a++[r]) (w:=[]) o (by simpa using f) (by rw[Mx];simp;omega);exact⟨er,Z,k1,k2,by rw[(dOk k1).still Z,k2],f⟩
    · exfalso;unfold Gc syncT at g;rw[if_neg (by rw[G7 i m el];simp)]at g;simp only at g;have p:a.length=120:=by omega
      have:jB ⟨txt a++txt [r],[]⟩=2:=by
        unfold jB;simp only[List.length_nil,List.length_append];rw[if_neg V];rw[ln_txt (txt [r]) i V];have n:jF 10 (txt [r])=[zt r,[]]:=by
          have:=VG [r] [];rw[List.append_nil]at this;rw[this];simp[jF]
        rw[n];unfold Rm;have v:nu (zt r)=(r,0):=Zi er w;rw[v,if_neg zq3,if_pos V]
      rw[this]at g;simp at g
theorem tear_disk{d:gZ}(h:jB d=0)(m:d.wait=[]){r:Rec}(w:PH r){d1:gZ}(u:wu d r=(d1,0)){n:Int}(hn:0<=n/\n<=d1.wait.length):
    dU r=0/\(J3 d1 n).2=0/\jB (J3 d1 n).1=0/\GM (J3 d1 n).1=GM d/\(mG (J3 d1 n).1=GM d\/mG (J3 d1 n).1=GM d++[r]):=by
  have f:=dOk h;obtain⟨A,C⟩:=d;simp only at m;subst m;have o:=f.safe;simp only at o;have c:=f.room;simp only[List.length_nil]at c;have i:=f.len;rw[f.still rfl]at i;have g:=f.good;rw[f.still rfl]at g;generalize E:GM ⟨A,[]⟩=a at*;subst o;have e:=put_txt (a:=a) (b:=[]) (r:=r) g i (by simpa[txt]using c) w;rw[show txt ([]:List Rec)=[]from rfl,u]at e;rcases e with e|⟨e,er,el⟩
  · exact absurd Z e
  · rw[List.nil_append]at e el;obtain rfl:=congrArg Prod.fst e;have B:jB ⟨txt a,txt [r]⟩=0:=G7 g i el;simp only at hn;have y:J3 ⟨txt a,txt [r]⟩ n=(⟨txt a,(txt [r]).take n.toNat⟩,0):=by
      unfold J3;simp only;rw[if_neg (by rw[B];simp),if_neg V]
    rw[y];obtain⟨k1,k2⟩:=dOk_mk (a:=a) (w:=(txt [r]).take n.toNat) g i (by rw[List.length_take];omega);refine⟨er,Z,k1,k2,?_⟩;have v:mG ⟨txt a,(txt [r]).take n.toNat⟩=a++(ln (120-(a.length:Int)) ((txt [r]).take n.toNat)).1:=by
      show(ln 120<|txt a).1++_=_;rw[ln_all g V]
    simp only;rw[v];obtain⟨j,t,z,q⟩:=take_txt [r] n.toNat;have l:FL [r]:=fun x p=>by rw[List.mem_singleton]at p;subst p;exact⟨er,w⟩
    rw[z];cases j with
    |zero=>
      left;have:=(ln_torn (most:=120-(a.length:Int)) (rs:=[]) (t:=t) Lg (by simp;omega) q).1;simp only[List.take_zero];rw[this,List.append_nil]
    |succ j=>
      simp only[List.take_succ_cons,List.take_nil];by_cases s:a.length+1<=120
      · right;rw[(ln_torn (most:=120-(a.length:Int)) l (by simp;omega) q).1]
      · left;have k:(120-(a.length:Int))=0:=by omega
        rw[k];have:=(Zl 0<|txt [r]++t).2.2.2 V;have:(ln 0<|txt [r]++t).1=[]:=List.eq_nil_of_length_eq_zero V;rw[this,List.append_nil]
end Pw
open Go Go.Proofs Go.LX
namespace Pw
open Dk
theorem Ph{α:Type}{R:Rdr α}{g:α->List Int}(h:∀l x r,R l=some (x,r)->l=g x++r):∀(n:Nat) (l:List Int) (xs:List α) (r:List Int),j6 R n l=some (xs,r)->l=xs.flatMap g++r/\xs.length=n
 |0,l,xs,r,e=>by
  have a:some (([]:List α),l)=some (xs,r):=e;cases a;exact⟨Z,Z⟩
 |n+1,l,xs,r,e=>by
  have a:(R l).bind (fun q=>(j6 R n q.2).bind fun b=>some (q.1::b.1,b.2))=some (xs,r):=e;cases h1:R l with
  |none=>rw[h1]at a;cases a
  |some q=>
   rw[h1,Option.bind_some]at a;cases h2:j6 R n q.2 with
   |none=>rw[h2]at a;cases a
   |some b=>
    rw[h2,Option.bind_some]at a;cases a;obtain⟨k1,k2⟩:=Ph h n q.2 b.1 b.2 h2;refine⟨?_,by simp[k2]⟩;rw[h l q.1 q.2 h1,List.flatMap_cons,List.append_assoc,<-k1]
theorem num_inv{l:List Int}{x:Int}{r:List Int}(h:GK l=some (x,r)):l=x::r:=by
 cases l with
 |nil=>cases h
 |cons a l=>cases h;rfl
theorem Zm{m:Int}{l:List Int}{x:Nat}{r:List Int}(h:sJ m l=some (x,r)):l=(x:Int)::r/\(x:Int)<=m:=by
  cases l with
  |nil=>cases h
  |cons a l=>
    unfold sJ at h;simp only at h;by_cases b:0<=a/\a<=m
    · rw[if_pos b]at h;cases h;rw[Int.toNat_of_nonneg b.1];exact⟨Z,b.2⟩
    · rw[if_neg b]at h;cases h
theorem wy{α β:Type}{R:Rdr α}{f:α->Rdr β}{l:List Int}{y:β}{r:List Int}(h:iJ R f l=some (y,r)):∃x a,R l=some (x,a)/\f x a=some (y,r):=by
 unfold iJ at h;cases e:R l with
 |none=>rw[e]at h;cases h
 |some q=>rw[e,Option.bind_some]at h;exact⟨q.1,q.2,Z,h⟩
theorem Zn{α:Type}{x y:α}{l r:List Int}(h:xC x l=some (y,r)):x=y/\l=r:=by cases h;exact⟨Z,Z⟩
theorem val_inv{l:List Int}{x:Val}{r:List Int}(h:WI l=some (x,r)):l=[x.kind,x.n]++r:=by
 obtain⟨k,c,a,h⟩:=wy h;obtain⟨n,d,b,h⟩:=wy h;obtain⟨rfl,rfl⟩:=Zn h;rw[num_inv a,num_inv b];rfl
theorem row_inv{m:Int}{l:List Int}{x:List Val}{r:List Int}(h:DD m l=some (x,r)):l=rowP x++r:=by
 obtain⟨k,a,b,h⟩:=wy h;obtain⟨d,c⟩:=Ph (fun l x r=>val_inv) k a x r h;rw[(Zm b).1,d,<-c];rfl
theorem fr_inv{l:List Int}{x:LX.Frame}{r:List Int}(h:Rf l=some (x,r)):l=frP x++r:=by
 obtain⟨a,j,f,h⟩:=wy h;obtain⟨b,k,g,h⟩:=wy h;obtain⟨c,m,e,h⟩:=wy h;obtain⟨d,n,i,h⟩:=wy h;obtain⟨rfl,rfl⟩:=Zn h;rw[num_inv f,num_inv g,num_inv e,row_inv i];rfl
theorem st_inv{l:List Int}{s:LX.State}{r:List Int}(h:Rh l=some (s,r)):l=Ad s++r:=by
 obtain⟨a,z,g,h⟩:=wy h;obtain⟨b,A,u,h⟩:=wy h;obtain⟨n,q,e,h⟩:=wy h;obtain⟨f,t,p,h⟩:=wy h;obtain⟨k,o,y,h⟩:=wy h;obtain⟨c,m,d,h⟩:=wy h;obtain⟨rfl,rfl⟩:=Zn h;obtain⟨w,i⟩:=Ph (fun l x r=>fr_inv) n q f t p;obtain⟨j,v⟩:=Ph (fun l x r=>row_inv) k o c m d;rw[num_inv g,num_inv u,(Zm e).1,w,(Zm y).1,j,<-i,<-v];unfold Ad;simp
structure Img(p:List bL)(l:List Int)(s:LX.State):Prop where
 un:dV p l=(s,0)
 st:yu p s
 idem:jo s=s
 eq:l=Ad s
theorem img_of{p:List bL}(hp:Pb p=0){l:List Int}(h:(dV p l).2=0):Img p l (dV p l).1:=by
  have g:dV p l=((dV p l).1,0):=by rw[<-h]
  have a:=g;unfold dV at h;by_cases c:1200<l.length
  · rw[if_pos c]at h;simp at h
  · rw[if_neg c]at h;cases e:Rh l with
    |none=>rw[e]at h;simp at h
    |some q=>
      obtain⟨s,r⟩:=q;rw[e]at h;cases r with
      |cons x r=>simp at h
      |nil=>
        simp only at h;have f:dV p l=Z6 p s:=by unfold dV;rw[if_neg c,e]
        rw[f]at a⊢;unfold Z6 at h a⊢;rw[if_neg V]at h a⊢;by_cases d:ckS p s=0
        · rw[if_neg V]at h a⊢;by_cases b:jo s=s
          · rw[if_pos b]at h a⊢;refine⟨?_,IY.1 d,b,?_⟩
            · rw[f];unfold Z6;rw[if_neg V,if_neg V,if_pos b]
            · have:=st_inv e;rw[List.append_nil]at this;exact this
          · rw[if_neg b]at h;simp at h
        · rw[if_pos d]at h;exact absurd h d
theorem img_pack{p:List bL}(hp:Pb p=0){s:LX.State}(h:yu p s):Img p (Ad (jo s)) (jo s):=
 ⟨unpack_pack hp h,Tg (pX hp) h,Za (h.sw (pX hp)),rfl⟩
theorem valsP_mem{l:List Val}{x:Int}(h:x∈Zb l):∃v∈l,x=v.kind\/x=v.n:=by
 obtain⟨v,b,a⟩:=List.mem_flatMap.1 h;simp at a;exact⟨v,b,a⟩
theorem J4{x:Int}(h: -2000000000<=x/\x<=2000000000):ku x:=⟨by omega,by omega⟩
theorem val_b{n:Nat}{v:Val}(h:jY n v)(hn:n<=24):(-2000000000<=v.kind/\v.kind<=2000000000)/\ -2000000000<=v.n/\v.n<=2000000000:=by unfold jY at h;omega
theorem row_b{n:Nat}{l:List Val}(h:∀v∈l,jY n v)(hn:n<=24)(c:l.length<=40):∀x∈rowP l,-2000000000<=x/\x<=2000000000:=by
  intro x a;rcases List.mem_cons.1 a with rfl|a
  · omega
  · obtain⟨v,b,e⟩:=valsP_mem a;have:=val_b (h v b) hn;rcases e with rfl|rfl
    · exact this.1
    · exact this.2
theorem pack_b{p:List bL}(hp:pW p){s:LX.State}(h:yu p s):∀x∈Ad s,ku x:=by
  have d:=h.small hp;have C:=d.frames;have m:=d.cells;have v:=h.status;have u:=h.bP;intro x a;refine J4 ?_;unfold Ad at a;rcases List.mem_cons.1 a with rfl|a
  · omega
  rcases List.mem_cons.1 a with rfl|a
  · omega
  rcases List.mem_cons.1 a with rfl|a
  · omega
  rcases List.mem_append.1 a with a|a
  · obtain⟨f,b,a⟩:=List.mem_flatMap.1 a;obtain⟨q,g⟩:=zQ h.frames f b;have w:=(hp.mem g.proc).2.2.2;have A:=(aF g.proc).1;have r:f.proc.toNat<p.length:=by
      have:=(aF g.proc).2;exact(List.getElem?_eq_some_iff.1 this).1
    have o:=hp.many;have hat:=g.at_;unfold sU at w;have i: -2000000000<=f.jy/\f.jy<=2000000000:=by
      have j:∀(l:List LX.Frame) (t:Int),t<=40->(∀f∈l,f.regs.length<=40)->mW p s.cells.length t l->∀f∈l,0<=f.jy/\f.jy<40:=by
        intro l;induction l with
        |nil=>intro t _ _ _ f b;cases b
        |cons g l ih=>
          intro t B k e f b;rcases List.mem_cons.1 b with rfl|b
          · have:=e.2.1;omega
          · exact ih _ (by have:=k g zq3;omega) (fun z y=>k z (List.mem_cons_of_mem _ y)) e.2.2 f b
      have:=j s.frames 1 V d.regs h.frames f b;omega
    unfold frP at a;rcases List.mem_cons.1 a with rfl|a
    · omega
    rcases List.mem_cons.1 a with rfl|a
    · omega
    rcases List.mem_cons.1 a with rfl|a
    · exact i
    · exact row_b g.vals m (d.regs f b) x a
  · rcases List.mem_cons.1 a with rfl|a
    · omega
    · obtain⟨c,n,a⟩:=List.mem_flatMap.1 a;exact row_b (h.cells.2 c n).2 m (by have:=d.fields c n;omega) x a
theorem img_b{p:List bL}(hp:pW p){l:List Int}{s:LX.State}(h:Img p l s):(∀x∈l,ku x)/\1<=l.length/\l.length<=1200:=by
 rw[h.eq];have:=Zc<|h.st.small hp;refine⟨pack_b hp h.st,?_,by omega⟩;unfold Ad;simp
def pY(i:Int)(l:List Co):Option Co:=l.find? fun x=>decide (x.lI=i)
theorem FN{i:Int}{l:List Co}{c:Co}(h:pY i l=some c):c.lI=i/\c∈l:=by
 have a:=List.find?_some h;exact⟨by simpa using a,List.mem_of_find?_eq_some h⟩
theorem EB{c:Co}{i:Int}:∀{l:List Co},(∀x∈l,x.lI≠c.lI)->pY i (GL c l)=if i=c.lI then some c else pY i l
  |[],_=>by
    unfold GL pY;rw[List.find?_cons];by_cases h:i=c.lI
    · rw[if_pos h,dT h.symm]
    · rw[if_neg h,dF (fun e=>h e.symm)]
  |x::r,hx=>by
    unfold GL;by_cases a:x.lI<c.lI
    · rw[if_pos a];have b:=EB (c:=c) (i:=i) (l:=r) fun y d=>hx y<|List.mem_cons_of_mem _ d;unfold pY at b⊢;rw[List.find?_cons,List.find?_cons,b];by_cases h:x.lI=i
      · rw[dT h];show some x=_;rw[if_neg (by have:=hx x zq3;omega)]
      · rw[dF h]
    · rw[if_neg a];unfold pY;rw[List.find?_cons];by_cases h:i=c.lI
      · rw[if_pos h,dT h.symm]
      · rw[if_neg h,dF (fun e=>h e.symm)]
theorem G8{b:Rec}{i:Int}:∀{l:List Co},pY i (MZ b l)=if i=b.co then none else pY i l
  |[]=>by simp[pY,MZ]
  |x::r=>by
    have c:=G8 (b:=b) (i:=i) (l:=r);unfold pY MZ at c⊢;rw[List.filter_cons];by_cases h:x.lI=b.co
    · rw[dF V];simp only[Bool.false_eq_true,if_false];rw[c,List.find?_cons];by_cases a:i=b.co
      · rw[if_pos a,if_pos a]
      · rw[if_neg a,if_neg a,dF V]
    · rw[dT h];simp only[if_true];rw[List.find?_cons,List.find?_cons,c];by_cases a:x.lI=i
      · rw[dT a];show some x=_;rw[if_neg V]
      · rw[dF a]
inductive Did (r:Rec) (o n:Option Co):Prop
 |begin (h:r.kind=1/\r.aM=1) (ho:o=none) (hn:n=some ⟨r.co,r.aM,r.image,-1⟩)
 |take (h:r.kind=4/\r.aM≠1) (ho:o=none) (hn:n=some ⟨r.co,r.aM,r.image,-1⟩)
 |slice (c:Co) (h:r.kind=2) (ho:o=some c) (he:c.aM=r.aM) (hf:c.offered= -1) (hn:n=some ⟨c.lI,c.aM,r.image,-1⟩)
 |offer (c:Co) (h:r.kind=3) (ho:o=some c) (he:c.aM=r.aM) (hf:c.offered= -1) (hx:c.aM≠100) (hn:n=some ⟨c.lI,c.aM,c.image,r.place⟩)
 |gone (c:Co) (h:r.kind=5) (ho:o=some c) (he:c.aM=r.aM) (hf:c.offered≠ -1) (hn:n=none)
theorem next_find{a:List Co}{r:Rec}(h:(kV a r).2=0):(∀i,i≠r.co->pY i (kV a r).1=pY i a)/\Did r (pY r.co a) (pY r.co (kV a r).1)/\gV r=0:=by
  have w:=(next_ok a r h).1;unfold kV at h⊢;by_cases q:gW a=0
  · by_cases o:gV r=0
    · have gr:=goodR r o;rw[if_neg (by simpa using q),if_neg (by simpa using o)]at h⊢;have m:∀x∈MZ r a,x.lI≠r.co:=fun x l=>(WJ l).2;have u:Rj r a=pY r.co a:=rfl;cases e:Rj r a with
      |none=>
        rw[e]at h;rw[u]at e;simp only at h⊢;by_cases f:r.kind=1\/r.kind=4
        · rw[if_pos f]at h⊢;by_cases j:(decide (r.aM=1) !=decide (r.kind=1))=true
          · rw[if_pos j]at h;simp at h
          · rw[if_neg j];simp only;refine⟨fun i k=>?_,?_,o⟩
            · rw[EB m,if_neg k,G8,if_neg k]
            · rw[EB m,if_pos rfl,e];rcases f with f|f
              · refine .begin ⟨f,?_⟩ Z Z;by_cases g:r.aM=1
                · exact g
                · exact absurd (by simp[f,g]) j
              · refine .take ⟨f,?_⟩ Z Z;intro g;exact absurd (by simp[f,g]) j
        · rw[if_neg f]at h;simp at h
      |some c=>
        rw[e]at h;rw[u]at e;obtain⟨d,v⟩:=FN e;simp only at h⊢;by_cases f:r.kind=1\/r.kind=4
        · rw[if_pos f]at h;simp at h
        · rw[if_neg f]at h⊢;by_cases j:(decide (r.aM≠c.aM)||(decide (c.offered≠ -1) !=decide (r.kind=5)))=true
          · rw[if_pos j]at h;simp at h
          · rw[if_neg j]at h⊢;have g:c.aM=r.aM:=by
              by_cases g:r.aM=c.aM
              · exact g.symm
              · exact absurd (by simp[g]) j
            by_cases p:r.kind=5
            · rw[if_pos p];simp only;refine⟨fun i k=>by rw[G8,if_neg k],?_,o⟩;rw[G8,if_pos rfl,e];refine .gone c p Z g ?_ Z;intro n;exact absurd (by simp[p,n]) j
            · have n:c.offered= -1:=by
                by_cases n:c.offered= -1
                · exact n
                · exact absurd (by simp[p,n]) j
              rw[if_neg p]at h⊢;by_cases t:r.kind=2
              · rw[if_pos t];simp only;have b:∀x∈MZ r a,x.lI≠(⟨c.lI,c.aM,r.image,c.offered⟩:Co).lI:=fun x l=>by simp only[d];exact m x l
                refine⟨fun i k=>?_,?_,o⟩
                · rw[EB b,if_neg (by simp only[d];exact k),G8,if_neg k]
                · rw[EB b,if_pos (by simp only[d]),e];exact .slice c t Z g n (by rw[n])
              · rw[if_neg t]at h⊢;by_cases l:c.aM=100
                · rw[if_pos l]at h;simp at h
                · rw[if_neg l];simp only;have s:r.kind=3:=by have:=gr.kind;omega
                  have b:∀x∈MZ r a,x.lI≠(⟨c.lI,c.aM,c.image,r.place⟩:Co).lI:=fun x l=>by simp only[d];exact m x l
                  refine⟨fun i k=>?_,?_,o⟩
                  · rw[EB b,if_neg (by simp only[d];exact k),G8,if_neg k]
                  · rw[EB b,if_pos (by simp only[d]),e];exact .offer c s Z g n l Z
    · rw[if_neg (by simpa using q),if_pos o]at h;exact absurd h o
  · rw[if_pos q]at h;exact absurd h q
end Pw
open Go Go.Proofs Go.LX
namespace Pw
open Dk
structure Pj where
 cos:List Co
 d:gZ
 up:Bool
deriving DecidableEq
structure xO where
 prog:List bL
 places:List Pj
 bU:List gM
structure Hap where
 kind:Int
 place:Int
 co:Int
 n:Int
theorem regAt_ok{n:Nat}{r:List Val}(h:∀v∈r,jY n v)(i:Int):jY n (tF r i):=by
  unfold tF idx;by_cases a:0<=i
  · rw[if_pos a];cases e:r[i.toNat]? with
    |none=>exact .inl ⟨rfl,rfl⟩
    |some v=>exact h v (List.mem_of_getElem? e)
  · rw[if_neg a];exact .inl ⟨Z,Z⟩
theorem said_b{a:List bL}(g:pW a){s:LX.State}(h:yu a s)(e:s.status=0){t:LX.State}{z:Int}{p:Bool}(b:MH a s=some (t,some z,p)):ku z:=by
  have i:=((JA g h e b).2.2 Z).2;obtain⟨pre,f,x,c,m,l,j,k⟩:=Pg g h e;rw[j]at b;rw[k]at i;unfold uW at b;simp only[i]at b;rw[if_neg V,if_neg V,if_neg V,if_neg V,if_neg V,if_neg V,if_neg V,if_neg V,if_pos trivial]at b;by_cases d:(tF f.regs c.a).kind=1
  · rw[if_pos d]at b;have:=regAt_ok l.fr.vals c.a;have:=this.int d;cases b;exact J4 V
  · rw[if_neg d]at b;cases b
theorem run_said{a:List bL}(f:pW a):∀(m:Nat) (b:List Int) (n:Nat) (s:LX.State),yu a s->(∀x∈b,ku x)->∀x∈(zT a m b n s).2.1,ku x
  |0,b,n,s,_,h=>h
  |m+1,b,n,s,hs,h=>by
    unfold zT;by_cases g:s.status=0
    · rw[if_neg V];by_cases d:b.length=40/\PW a s=9
      · rw[if_pos d];exact h
      · rw[if_neg d];cases e:MH a s with
        |none=>exact h
        |some q=>
          obtain⟨t,o,p⟩:=q;have i:∀x∈b++o.toList,ku x:=by
            intro x c;rcases List.mem_append.1 c with c|c
            · exact h x c
            · cases o with
              |none=>cases c
              |some z=>simp at c;subst c;exact said_b f hs g e
          simp only;cases p with
          |true=>exact i
          |false=>exact run_said f m _ _ t (JA f hs g e).1 i
    · rw[if_pos g];exact h
def Zo(m:gM):Prop:=(0<=m.from_/\m.from_<=2)/\(0<=m.jy/\m.jy<=2)/\(0<=m.co/\m.co<=2)/\(2<=m.aM/\m.aM<=100)/\(m.taken=true↔m.image=[])/\m.image.length<=1200
theorem mail_each:∀l:List gM,each zC CR l ()=0↔∀m∈l,Zo m
  |[]=>by simp[qw,CR]
  |m::l=>by
    have f:=mail_each l;rw[iC];generalize each zC CR l=K at f⊢;unfold zC;by_cases d:(0<=m.from_/\m.from_<=2)/\(0<=m.jy/\m.jy<=2)/\(0<=m.co/\m.co<=2)/\(2<=m.aM/\m.aM<=100)
    · rw[show(((((((decide ((m.from_:Int)<0)||decide ((3:Int)<=m.from_))||decide ((m.jy:Int)<0))||decide ((3:Int)<=m.jy))||decide ((m.co:Int)<0))||decide ((3:Int)<=m.co))||decide ((m.aM:Int)<2))||decide ((100:Int)<m.aM))=false by
        simp only[Bool.or_eq_false_iff,decide_eq_false_iff_not];omega,cond_false]
      by_cases b:(m.taken=true↔m.image=[])/\m.image.length<=1200
      · rw[show((m.taken !=decide (((m.image.length:Int):Int)=0))||decide ((1200:Int)<(m.image.length:Int)))=false by
          rw[dF (show¬(1200:Int)<(m.image.length:Int) by have:=b.2;omega),Bool.or_false];by_cases a:m.image=[]
          · rw[b.1.2 a,a];simp
          · have:m.taken=false:=by
              cases e:m.taken with
              |false=>rfl
              |true=>exact absurd (b.1.1 e) a
            rw[this,dF (fun h=>a (List.eq_nil_of_length_eq_zero V))];rfl,cond_false,f]
        constructor
        · intro h x c;rcases List.mem_cons.1 c with rfl|c
          · exact⟨d.1,d.2.1,d.2.2.1,d.2.2.2,b⟩
          · exact h x c
        · exact fun h x c=>h x<|List.mem_cons_of_mem _ c
      · rw[show((m.taken !=decide (((m.image.length:Int):Int)=0))||decide ((1200:Int)<(m.image.length:Int)))=true by
          by_cases g:m.image.length<=1200
          · rw[dF (show¬(1200:Int)<(m.image.length:Int) by omega),Bool.or_false];by_cases a:m.image=[]
            · cases e:m.taken with
              |true=>exact absurd ⟨⟨fun _=>a,fun _=>e⟩,g⟩ b
              |false=>rw[a];simp
            · cases e:m.taken with
              |true=>rw[dF (fun h=>a (List.eq_nil_of_length_eq_zero V))];rfl
              |false=>exact absurd ⟨⟨fun h=>(Bool.false_ne_true (e.symm.trans h)).elim,fun h=>absurd h a⟩,g⟩ b
          · rw[dT (show(1200:Int)<(m.image.length:Int) by omega),Bool.or_true],cond_true]
        constructor
        · intro h;simp at h
        · intro h;exact absurd (h m zq3).2.2.2.2 b
    · rw[show(((((((decide ((m.from_:Int)<0)||decide ((3:Int)<=m.from_))||decide ((m.jy:Int)<0))||decide ((3:Int)<=m.jy))||decide ((m.co:Int)<0))||decide ((3:Int)<=m.co))||decide ((m.aM:Int)<2))||decide ((100:Int)<m.aM))=true by
        simp only[Bool.or_eq_true,decide_eq_true_eq];omega,cond_true]
      constructor
      · intro h;simp at h
      · intro h;have:=h m zq3;exact absurd ⟨this.1,this.2.1,this.2.2.1,this.2.2.2.1⟩ d
theorem IZ(l:List gM):dO l=0↔l.length<=40/\∀m∈l,Zo m:=by
  unfold dO;by_cases h:l.length<=40
  · rw[dF V,cond_false,mail_each];exact⟨fun x=>⟨h,x⟩,fun x=>x.2⟩
  · rw[dT V,cond_true];exact⟨fun x=>by simp at x,fun x=>absurd x.1 h⟩
def J5(p:List bL):List Co->Int
 |[]=>0
 |c::l=>if(dV p c.image).2≠0 then(dV p c.image).2 else J5 p l
theorem Zp(p:List bL):∀l,J5 p l=0↔∀c∈l,(dV p c.image).2=0
  |[]=>by simp[J5]
  |c::l=>by
    unfold J5;by_cases h:(dV p c.image).2=0
    · rw[if_neg V,Zp p l];simp[h]
    · rw[if_pos h];simp[h]
def AJ(p:List bL)(x:Pj):Int:=
 if jB x.d≠0 then jB x.d else if x.up=false then(if x.cos=[]then 0 else 4)else if x.d.wait≠[]then 4 else
 if(sK [] (mG x.d)).2≠0 then(sK [] (mG x.d)).2 else if(sK [] (mG x.d)).1≠x.cos then 4 else J5 p x.cos
structure PlR(p:List bL)(x:Pj):Prop where
 disk:jB x.d=0
 down:x.up=false->x.cos=[]
 wait:x.up=true->x.d.wait=[]
 cos:x.up=true->sK [] (mG x.d)=(x.cos,0)
 img:∀c∈x.cos,(dV p c.image).2=0
theorem plc_iff(p:List bL)(x:Pj):AJ p x=0↔PlR p x:=by
  unfold AJ;by_cases b:jB x.d=0
  · rw[if_neg V];cases hu:x.up with
    |false=>
      simp only[if_true];by_cases a:x.cos=[]
      · rw[if_pos a];exact⟨fun _=>⟨b,fun _=>a,fun h=>(by rw[hu]at h;cases h),fun h=>(by rw[hu]at h;cases h),by rw[a];simp⟩,fun _=>rfl⟩
      · rw[if_neg a];exact⟨fun h=>by simp at h,fun h=>absurd (h.down hu) a⟩
    |true=>
      simp only[Bool.true_eq_false,if_false];by_cases a:x.d.wait=[]
      · rw[if_neg (by simpa using a)];by_cases c:(sK [] (mG x.d)).2=0
        · rw[if_neg V];by_cases e:(sK [] (mG x.d)).1=x.cos
          · rw[if_neg (by simpa using e),Zp];exact⟨fun h=>⟨b,fun h=>(by rw[hu]at h;cases h),fun _=>a,fun _=>by rw[<-e,<-c],h⟩,fun h=>h.img⟩
          · rw[if_pos e];exact⟨fun h=>by simp at h,fun h=>absurd (by rw[h.cos hu]) e⟩
        · rw[if_pos c];exact⟨fun h=>absurd h c,fun h=>absurd (by rw[h.cos hu]) c⟩
      · rw[if_pos a];exact⟨fun h=>by simp at h,fun h=>absurd (h.wait hu) a⟩
  · rw[if_pos b];exact⟨fun h=>absurd h b,fun h=>absurd h.disk b⟩
def Ov(p:List bL):List Pj->Int
 |[]=>0
 |x::l=>if AJ p x≠0 then AJ p x else Ov p l
theorem Zq(p:List bL):∀l,Ov p l=0↔∀x∈l,PlR p x
  |[]=>by simp[Ov]
  |x::l=>by
    unfold Ov;by_cases h:AJ p x=0
    · rw[if_neg V,Zq p l];have:=(plc_iff p x).1 h;simp[this]
    · rw[if_pos h];exact⟨fun a=>absurd a h,fun a=>absurd ((plc_iff p x).2<|a x zq3) h⟩
def MI(p:List bL):List gM->Int
 |[]=>0
 |m::l=>if m.taken=true then MI p l else if(dV p m.image).2≠0 then(dV p m.image).2 else MI p l
theorem VI(p:List bL):∀l,MI p l=0↔∀m∈l,m.taken=false->(dV p m.image).2=0
  |[]=>by simp[MI]
  |m::l=>by
    unfold MI;by_cases a:m.taken=true
    · rw[if_pos a,VI p l];simp[a]
    · rw[if_neg a];have b:m.taken=false:=by simpa using a
      by_cases h:(dV p m.image).2=0
      · rw[if_neg V,VI p l];simp[h]
      · rw[if_pos h];simp[h,b]
def J6(w:xO):Int:=
 if Pb w.prog≠0 then Pb w.prog else if w.places.length≠3 then 4 else if dO w.bU≠0 then dO w.bU else
 if Ov w.prog w.places≠0 then Ov w.prog w.places else MI w.prog w.bU
structure WR(w:xO):Prop where
 code:Pb w.prog=0
 many:w.places.length=3
 mlen:w.bU.length<=40
 mok:∀m∈w.bU,Zo m
 pl:∀x∈w.places,PlR w.prog x
 mimg:∀m∈w.bU,m.taken=false->(dV w.prog m.image).2=0
theorem w_iff(w:xO):J6 w=0↔WR w:=by
  unfold J6;by_cases d:Pb w.prog=0
  · rw[if_neg V];by_cases e:w.places.length=3
    · rw[if_neg V];by_cases b:dO w.bU=0
      · rw[if_neg V];by_cases c:Ov w.prog w.places=0
        · rw[if_neg V,VI];have a:=(IZ _).1 b;exact⟨fun h=>⟨d,e,a.1,a.2,(Zq _ _).1 c,h⟩,fun h=>h.mimg⟩
        · rw[if_pos c];exact⟨fun h=>absurd h c,fun h=>absurd ((Zq _ _).2 h.pl) c⟩
      · rw[if_pos b];exact⟨fun h=>absurd h b,fun h=>absurd ((IZ _).2 ⟨h.mlen,h.mok⟩) b⟩
    · rw[if_pos e];exact⟨fun h=>by simp at h,fun h=>absurd h.many e⟩
  · rw[if_pos d];exact⟨fun h=>absurd h d,fun h=>absurd h.code d⟩
def zP:Pj:=⟨[],zD,false⟩
def jr(w:xO)(k:Int):Pj:=(idx w.places k).getD zP
def EC(w:xO)(k:Int)(x:Pj):xO:=⟨w.prog,w.places.set k.toNat x,w.bU⟩
def oJ(x:Pj)(r:Rec):Pj×Int:=
 if(kV x.cos r).2≠0 then(x,(kV x.cos r).2)else if(wu x.d r).2≠0 then(x,(wu x.d r).2)else
 if(Gc (wu x.d r).1).2≠0 then(x,(Gc (wu x.d r).1).2)else(⟨(kV x.cos r).1,(Gc (wu x.d r).1).1,x.up⟩,0)
def PZ(x:Pj)(r:Rec)(keep:Int):Pj×Int:=
 if(kV x.cos r).2≠0 then(x,(kV x.cos r).2)else if(wu x.d r).2≠0 then(x,(wu x.d r).2)else
 (⟨[],(J3 (wu x.d r).1 (max 0 (min keep ((wu x.d r).1.wait.length:Int)))).1,false⟩,0)
def Gd(l:List gM)(m:gM):List gM:=if dO l≠0\/dO [m]≠0 then l else if l.length<40 then l++[m]else l
def sM(p:List bL)(k:Int)(c:Co)(fuel:Int):Rec×Int:=
 if 0<=c.offered then(⟨2,c.lI,c.aM,0,[],[]⟩,7)else
 if(dV p c.image).2≠0 then(⟨2,c.lI,c.aM,0,[],[]⟩,(dV p c.image).2)else
 if(dV p c.image).1.status=3/\0<=(dV p c.image).1.bP/\(dV p c.image).1.bP<3/\(dV p c.image).1.bP≠k then(⟨3,c.lI,c.aM,(dV p c.image).1.bP,[],[]⟩,0)else
 if(wake (dV p c.image).1).status≠0 then(⟨2,c.lI,c.aM,0,[],[]⟩,7)else
 (⟨2,c.lI,c.aM,0,(zT p fuel.toNat [] 0 (wake (dV p c.image).1)).2.1,Ad (jo (zT p fuel.toNat [] 0 (wake (dV p c.image).1)).1)⟩,0)
def Rk(k:Int)(c:Co):gM:=⟨k,c.offered,c.lI,c.aM+1,false,c.image⟩
def runW(w:xO)(x:Hap):xO×Int:=
 match pY x.co (jr w x.place).cos with
 |none=>(w,5)
 |some c=>
  let fuel:=if x.kind=9 then 2000 else x.n
  if fuel<1\/2000<fuel then(w,3)else
  let q:=sM w.prog x.place c fuel
  if q.2≠0 then(w,q.2)else
  if x.kind=9 then(EC w x.place (PZ (jr w x.place) q.1 x.n).1,(PZ (jr w x.place) q.1 x.n).2)else
  if(oJ (jr w x.place) q.1).2≠0 then(w,(oJ (jr w x.place) q.1).2)else
  let v:=EC w x.place (oJ (jr w x.place) q.1).1
  if q.1.kind=3 then(⟨v.prog,v.places,Gd v.bU (Rk x.place ⟨c.lI,c.aM,c.image,q.1.place⟩)⟩,0)else(v,0)
def WN(w:xO)(x:Hap):xO×Int:=
 match pY x.co (jr w x.place).cos with
 |none=>(w,5)
 |some c=>if c.offered<0 then(w,7)else(⟨w.prog,w.places,Gd w.bU (Rk x.place c)⟩,0)
def Zr(w:xO)(k i:Int):xO×Int:=
 if i≠k then(w,5)else if(mG (jr w k).d).any (fun r=>decide (r.kind=1))then(w,6)else
 let r:Rec:=⟨1,i,1,0,[],Ad (jo (Bp w.prog))⟩
 (EC w k (oJ (jr w k) r).1,(oJ (jr w k) r).2)
def hadP(x:Pj)(i e:Int):Bool:=(mG x.d).any fun r=>decide (r.kind=4)&&decide (r.co=i)&&decide (e<=r.aM)
def hearW(w:xO)(i:Int)(a:Bool):xO×Int:=
 if i<0\/(w.bU.length:Int)<=i then(w,5)else
 let m:=(w.bU[i.toNat]?).getD zMail
 if(jr w m.jy).up=false then(w,7)else
 let v:xO:=⟨w.prog,w.places,if a then w.bU else w.bU.take i.toNat++w.bU.drop (i.toNat+1)⟩
 if m.taken then
  match pY m.co (jr v m.jy).cos with
  |none=>(v,0)
  |some c=>if c.aM≠m.aM-1\/c.offered≠m.from_ then(v,0)else
   (EC v m.jy (oJ (jr v m.jy) ⟨5,m.co,m.aM-1,0,[],[]⟩).1,(oJ (jr v m.jy) ⟨5,m.co,m.aM-1,0,[],[]⟩).2)
 else
  let b:gM:=⟨m.jy,m.from_,m.co,m.aM,true,[]⟩
  if hadP (jr v m.jy) m.co m.aM then(⟨v.prog,v.places,Gd v.bU b⟩,0)else
  let r:Rec:=⟨4,m.co,m.aM,0,[],m.image⟩
  if(oJ (jr v m.jy) r).2≠0 then(v,(oJ (jr v m.jy) r).2)else
  let u:=EC v m.jy (oJ (jr v m.jy) r).1
  (⟨u.prog,u.places,Gd u.bU b⟩,0)
def bootW(w:xO)(k:Int):xO×Int:=
 if(jr w k).up=true then(w,7)else
 if(sK [] (mG (jr w k).d)).2≠0 then(w,(sK [] (mG (jr w k).d)).2)else
 if J5 w.prog (sK [] (mG (jr w k).d)).1≠0 then(w,J5 w.prog (sK [] (mG (jr w k).d)).1)else
 (EC w k ⟨(sK [] (mG (jr w k).d)).1,(Ri (jr w k).d).1,true⟩,0)
def jZ(w:xO)(x:Hap):xO×Int:=
 if x.kind=4\/x.kind=5 then hearW w x.n (decide (x.kind=5))else
 if x.kind=6 then(if x.n<0\/(w.bU.length:Int)<=x.n then(w,5)else(⟨w.prog,w.places,w.bU.take x.n.toNat++w.bU.drop (x.n.toNat+1)⟩,0))else
 if x.kind<1\/9<x.kind then(w,4)else
 if x.place<0\/(w.places.length:Int)<=x.place then(w,5)else
 if x.kind=8 then bootW w x.place else
 if(jr w x.place).up=false then(w,7)else
 if x.kind=1 then Zr w x.place x.co else
 if x.kind=3 then WN w x else
 if x.kind=7 then(EC w x.place ⟨[],(jr w x.place).d,false⟩,0)else runW w x
end Pw
open Go Go.Proofs Go.LX
namespace Pw
open Dk
theorem findC_mem{l:List Co}(a:Up l){c:Co}(h:c∈l):pY c.lI l=some c:=by
  induction l with
  |nil=>cases h
  |cons x r ih=>
    rw[Up,List.pairwise_cons]at a;unfold pY;rw[List.find?_cons];rcases List.mem_cons.1 h with rfl|h
    · rw[dT rfl]
    · have:=a.1 c h;rw[dF V];exact ih a.2 h
theorem good0:Dk.Good []:=⟨by simp,fun x h=>(by cases h),List.Pairwise.nil⟩
def Off(l:List Co):Prop:=∀c∈l,c.offered≠ -1->c.aM≠100
theorem rep_good:∀(l:List Rec) (s:List Co),Dk.Good s->Off s->(sK s l).2=0->Dk.Good (sK s l).1/\Off (sK s l).1
  |[],s,h,ho,_=>⟨h,ho⟩
  |r::l,s,h,ho,e=>by
    unfold sK at e⊢;by_cases a:(kV s r).2=0
    · rw[if_neg V]at e⊢;have d:=(next_ok s r a).2.1;obtain⟨k1,k2,-⟩:=next_find a;refine rep_good l _ d ?_ e;intro c g;have b:=findC_mem d.up g;by_cases f:c.lI=r.co
      · rw[f]at b;rw[b]at k2;rcases k2 with⟨_,_,hn⟩|⟨_,_,hn⟩|⟨c0,_,_,_,_,hn⟩|⟨c0,_,_,_,_,hx,hn⟩|⟨_,_,_,_,_,hn⟩
        · cases hn;exact fun h=>absurd Z h
        · cases hn;exact fun h=>absurd Z h
        · cases hn;exact fun h=>absurd Z h
        · cases hn;exact fun _=>hx
        · cases hn
      · rw[k1 _ f]at b;exact ho c (FN b).2
    · rw[if_pos a]at e;exact absurd e a
theorem PlR.good{p:List bL}{x:Pj}(h:PlR p x):Dk.Good x.cos/\Off x.cos:=by
 cases hu:x.up with
 |true=>
  have e:=h.cos hu;have:=rep_good (mG x.d) [] good0 (fun c a=>by cases a) (by rw[e]);rw[e]at this;exact this
 |false=>rw[h.down hu];exact⟨good0,fun c a=>by cases a⟩
structure Noted(p:List bL)(x x':Pj)(r:Rec):Prop where
 pl:PlR p x'
 up:x'.up=true
 slog:GM x'.d=GM x.d++[r]
 flog:mG x'.d=mG x.d++[r]
 fs:mG x.d=GM x.d
 cos:x'.cos=(kV x.cos r).1
 ok:(kV x.cos r).2=0
theorem rep_snoc{l:List Rec}{r:Rec}{s a:List Co}(h:sK s l=(a,0)):sK s (l++[r])=if(kV a r).2≠0 then([],(kV a r).2)else((kV a r).1,0):=by
  rw[pRep_app,h];simp only;rw[if_neg zq3];unfold sK;by_cases h:(kV a r).2=0
  · rw[if_neg V,if_neg V];rfl
  · rw[if_pos h,if_pos h]
theorem next_img{p:List bL}{a:List Co}{r:Rec}(b:(kV a r).2=0)(f:∀c∈a,(dV p c.image).2=0)(e:(r.kind=1\/r.kind=2\/r.kind=4)->(dV p r.image).2=0):∀c∈(kV a r).1,(dV p c.image).2=0:=by
  intro c i;have h:=(next_ok a r b).2.1;obtain⟨k1,k2,-⟩:=next_find b;have d:=findC_mem h.up i;by_cases g:c.lI=r.co
  · rw[g]at d;rw[d]at k2;rcases k2 with⟨hk,_,hn⟩|⟨hk,_,hn⟩|⟨c0,hk,_,_,_,hn⟩|⟨c0,_,ho,_,_,hx,hn⟩|⟨_,_,_,_,_,hn⟩
    · cases hn;exact e (.inl hk.1)
    · cases hn;exact e (.inr<|.inr hk.1)
    · cases hn;exact e (.inr<|.inl hk)
    · cases hn;exact f c0 (FN ho).2
    · cases hn
  · rw[k1 _ g]at d;exact f c (FN d).2
theorem WO{p:List bL}{x x':Pj}{r:Rec}(h:PlR p x)(f:x.up=true)(w:PH r)(m:(r.kind=1\/r.kind=2\/r.kind=4)->(dV p r.image).2=0)(e:oJ x r=(x',0)):Noted p x x' r:=by
  unfold oJ at e;by_cases c:(kV x.cos r).2=0
  · rw[if_neg V]at e;by_cases i:(wu x.d r).2=0
    · rw[if_neg V]at e;by_cases g:(Gc (wu x.d r).1).2=0
      · rw[if_neg V]at e;obtain rfl:=congrArg Prod.fst e;have b:=h.disk;have q:=dOk b;have j:=h.wait f;obtain⟨t,o,l,n,k,s⟩:=note_disk b j w (d1:=(wu x.d r).1) (d2:=(Gc (wu x.d r).1).1) (by rw[<-i]) (by rw[<-g]);have a:=q.still j;refine⟨⟨l,fun b=>(by simp only[f]at b;cases b),fun _=>(by rw[o]),fun _=>?_,next_img c h.img m⟩,f,n,by rw[k,a],a,Z,c⟩;simp only;rw[k,<-a,rep_snoc (h.cos f),if_neg V]
      · rw[if_pos g]at e;exact absurd (congrArg Prod.snd e) g
    · rw[if_pos i]at e;exact absurd (congrArg Prod.snd e) i
  · rw[if_pos c]at e;exact absurd (congrArg Prod.snd e) c
structure Torn(p:List bL)(x x':Pj)(r:Rec):Prop where
 pl:PlR p x'
 down:x'.up=false
 slog:GM x'.d=GM x.d
 flog:mG x'.d=mG x.d\/mG x'.d=mG x.d++[r]
 fs:mG x.d=GM x.d
 ok:(kV x.cos r).2=0
theorem tear_ok{p:List bL}{x x':Pj}{r:Rec}{n:Int}(h:PlR p x)(j:x.up=true)(w:PH r)(e:PZ x r n=(x',0)):Torn p x x' r:=by
  unfold PZ at e;by_cases f:(kV x.cos r).2=0
  · rw[if_neg V]at e;by_cases g:(wu x.d r).2=0
    · rw[if_neg V]at e;obtain rfl:=congrArg Prod.fst e;have i:=h.wait j;have a:=(dOk h.disk).still i;obtain⟨s,q,k,l,o⟩:=tear_disk h.disk i w (d1:=(wu x.d r).1) (by rw[<-g]) (n:=max 0<|min n ((wu x.d r).1.wait.length:Int)) V;refine⟨⟨k,fun _=>rfl,fun b=>(by cases b),fun b=>(by cases b),fun c m=>(by cases m)⟩,Z,l,by rw[a];exact o,a,f⟩
    · rw[if_pos g]at e;exact absurd (congrArg Prod.snd e) g
  · rw[if_pos f]at e;exact absurd (congrArg Prod.snd e) f
theorem pAt_eq{w:xO}{k:Int}(h:0<=k/\k<w.places.length):idx w.places k=some (jr w k)/\jr w k∈w.places/\w.places[k.toNat]? =some (jr w k):=by
 obtain⟨n,rfl⟩:=Int.eq_ofNat_of_zero_le h.1;have hn:n<w.places.length:=by omega
 have e:idx w.places (n:Int)=some w.places[n]:=wI hn;unfold jr;rw[e];exact⟨Z,List.getElem_mem hn,by simp[hn]⟩
theorem pAt_set{w:xO}{k j:Int}(x:Pj)(a:0<=k/\k<w.places.length)(b:0<=j/\j<w.places.length):jr (EC w k x) j=if j=k then x else jr w j:=by
  obtain⟨n,rfl⟩:=Int.eq_ofNat_of_zero_le a.1;obtain⟨m,rfl⟩:=Int.eq_ofNat_of_zero_le b.1;unfold jr EC;rw[kD,kD,Int.toNat_natCast,List.getElem?_set];by_cases h:n=m
  · subst h;rw[if_pos rfl,if_pos V,if_pos rfl];rfl
  · rw[if_neg h,if_neg V]
theorem WR.at{w:xO}(h:WR w){k:Int}(a:0<=k/\k<=2):PlR w.prog (jr w k):=h.pl _ (pAt_eq ⟨a.1,by have:=h.many;omega⟩).2.1
theorem WR.set{w:xO}(h:WR w){k:Int}{x:Pj}(hx:PlR w.prog x):WR (EC w k x) where
  code:=h.code
  many:=by show(w.places.set k.toNat x).length=3;rw[List.length_set];exact h.many
  mlen:=h.mlen
  mok:=h.mok
  pl:=fun y hy=>by
    rcases List.mem_or_eq_of_mem_set hy with hy|rfl
    · exact h.pl y hy
    · exact hx
  mimg:=h.mimg
theorem WR.MI{w:xO}(h:WR w){l:List gM}(c:l.length<=40)(b:∀m∈l,Zo m/\(m.taken=false->(dV w.prog m.image).2=0)):WR ⟨w.prog,w.places,l⟩:=
 ⟨h.code,h.many,c,fun m a=>(b m a).1,h.pl,fun m a=>(b m a).2⟩
instance:DecidablePred Zo:=fun m=>by unfold Zo;infer_instance
theorem sendP_eq{w:xO}(h:WR w)(m:gM):Gd w.bU m=if Zo m/\w.bU.length<40 then w.bU++[m]else w.bU:=by
  unfold Gd;have e:dO w.bU=0:=(IZ _).2 ⟨h.mlen,h.mok⟩;by_cases b:Zo m
  · have d:dO [m]=0:=(IZ _).2 ⟨by simp,fun x c=>by rw[List.mem_singleton]at c;rw[c];exact b⟩;rw[if_neg V];by_cases a:w.bU.length<40
    · rw[if_pos a,if_pos ⟨b,a⟩]
    · rw[if_neg a,if_neg (fun h=>a h.2)]
  · have d:dO [m]≠0:=fun h=>b (((IZ _).1 h).2 m zq3);rw[if_pos (.inr d),if_neg (fun h=>b h.1)]
theorem WR.send{w:xO}(h:WR w){m:gM}(c:m.taken=false->(dV w.prog m.image).2=0):WR ⟨w.prog,w.places,Gd w.bU m⟩:=by
  rw[sendP_eq h];by_cases b:Zo m/\w.bU.length<40
  · rw[if_pos b];refine h.MI (by simp;omega) (fun x a=>?_);rcases List.mem_append.1 a with a|a
    · exact⟨h.mok x a,h.mimg x a⟩
    · rw[List.mem_singleton]at a;subst a;exact⟨b.1,c⟩
  · rw[if_neg b];exact h.MI h.mlen (fun x a=>⟨h.mok x a,h.mimg x a⟩)
theorem WR.drop{w:xO}(h:WR w)(n:Nat):WR ⟨w.prog,w.places,w.bU.take n++w.bU.drop (n+1)⟩:=by
 refine h.MI (by have:=h.mlen;simp;omega) (fun x a=>?_);have:x∈w.bU:=(List.mem_append.1 a).elim List.mem_of_mem_take List.mem_of_mem_drop;exact⟨h.mok x this,h.mimg x this⟩
theorem JB{k c e a:Int}{s i:List Int}(h:1<=k/\k<=5)(j:0<=c/\c<=2)(f:0<=e/\e<=100)(g:0<=a/\a<=2)(d:∀x∈s,ku x)(b:∀x∈i,ku x):PH ⟨k,c,e,a,s,i⟩:=
 ⟨J4 (by simp only;omega),J4 (by simp only;omega),J4 (by simp only;omega),J4 (by simp only;omega),d,b⟩
structure Sliced(p:List bL)(k:Int)(c:Co)(fuel:Int)(r:Rec):Prop where
 w:PH r
 co:r.co=c.lI
 aM:r.aM=c.aM
 runs:c.offered= -1
 how:(r.kind=2/\r.place=0/\(wake (dV p c.image).1).status=0/\r.says=(zT p fuel.toNat [] 0 (wake (dV p c.image).1)).2.1/\r.image=Ad (jo (zT p fuel.toNat [] 0 (wake (dV p c.image).1)).1)/\(dV p r.image).2=0)\/(r.kind=3/\(0<=r.place/\r.place<=2)/\r.place≠k/\r.says=[]/\r.image=[])
 img:Img p c.image (dV p c.image).1
theorem slice_ok{p:List bL}(hp:Pb p=0){k:Int}{c:Co}{fuel:Int}{r:Rec}(n:coOk c)(e:sM p k c fuel=(r,0)):Sliced p k c fuel r:=by
  have h:=pX hp;obtain⟨c1,c2,q,m,s,t,-⟩:=n;unfold sM at e;by_cases j:0<=c.offered
  · rw[if_pos j]at e;simp at e
  · rw[if_neg j]at e;by_cases g:(dV p c.image).2=0
    · rw[if_neg V]at e;have i:=img_of hp g;by_cases f:(dV p c.image).1.status=3/\0<=(dV p c.image).1.bP/\(dV p c.image).1.bP<3/\(dV p c.image).1.bP≠k
      · rw[if_pos f]at e;obtain rfl:=congrArg Prod.fst e;exact⟨JB V ⟨c1,c2⟩ ⟨by omega,m⟩ V (fun x b=>(by cases b)) (fun x b=>(by cases b)),Z,Z,by omega,.inr ⟨Z,by simp only;omega,f.2.2.2,rfl,rfl⟩,i⟩
      · rw[if_neg f]at e;by_cases l:(wake (dV p c.image).1).status=0
        · rw[if_neg V]at e;obtain rfl:=congrArg Prod.fst e;have d:=wake_ok i.st;have o:=(VE h fuel.toNat [] 0 _ d zq3).1;have a:=img_pack hp o;refine⟨JB V ⟨c1,c2⟩ ⟨by omega,m⟩ V (run_said h _ _ _ _ d (fun x b=>by cases b)) (img_b h a).1,Z,Z,by omega,.inl ⟨Z,Z,l,Z,Z,by simp only;rw[a.un]⟩,i⟩
        · rw[if_pos l]at e;simp at e
    · rw[if_pos g]at e;exact absurd (congrArg Prod.snd e) g
theorem begin_img{p:List bL}(hp:Pb p=0):Img p (Ad (jo (Bp p))) (jo (Bp p)):=img_pack hp (begin_ok (pX hp))
end Pw
open Go Go.Proofs Go.LX
namespace Pw
open Dk
def ansM(m:gM):gM:=⟨m.jy,m.from_,m.co,m.aM,true,[]⟩
def beginR(p:List bL)(k:Int):Rec:=⟨1,k,1,0,[],Ad (jo (Bp p))⟩
inductive Ev (w w':xO):Prop
 |begin (k:Int) (x':Pj) (hk:0<=k/\k<=2) (up:(jr w k).up=true) (hno:∀r∈mG (jr w k).d,r.kind≠1) (N:Noted w.prog (jr w k) x' (beginR w.prog k)) (hp:w'.places=w.places.set k.toNat x') (hm:w'.bU=w.bU)
 |run (k:Int) (c:Co) (fuel:Int) (r:Rec) (x':Pj) (hk:0<=k/\k<=2) (up:(jr w k).up=true) (hc:pY c.lI (jr w k).cos=some c) (hf:1<=fuel/\fuel<=2000) (S:Sliced w.prog k c fuel r) (N:Noted w.prog (jr w k) x' r) (hp:w'.places=w.places.set k.toNat x') (hm:w'.bU=if r.kind=3 then Gd w.bU (Rk k ⟨c.lI,c.aM,c.image,r.place⟩)else w.bU)
 |tear (k:Int) (c:Co) (r:Rec) (x':Pj) (hk:0<=k/\k<=2) (up:(jr w k).up=true) (hc:pY c.lI (jr w k).cos=some c) (S:Sliced w.prog k c 2000 r) (T:Torn w.prog (jr w k) x' r) (hp:w'.places=w.places.set k.toNat x') (hm:w'.bU=w.bU)
 |send (k:Int) (c:Co) (hk:0<=k/\k<=2) (up:(jr w k).up=true) (hc:pY c.lI (jr w k).cos=some c) (ho:0<=c.offered) (hp:w'.places=w.places) (hm:w'.bU=Gd w.bU (Rk k c))
 |gone (m:gM) (c:Co) (x':Pj) (hi:m∈w.bU) (ht:m.taken=true) (up:(jr w m.jy).up=true) (hc:pY m.co (jr w m.jy).cos=some c) (he:c.aM=m.aM-1) (ho:c.offered=m.from_) (N:Noted w.prog (jr w m.jy) x' ⟨5,m.co,m.aM-1,0,[],[]⟩) (hp:w'.places=w.places.set m.jy.toNat x') (hm:∀y∈w'.bU,y∈w.bU)
 |take (m:gM) (x':Pj) (hi:m∈w.bU) (ht:m.taken=false) (up:(jr w m.jy).up=true) (hno:hadP (jr w m.jy) m.co m.aM=false) (N:Noted w.prog (jr w m.jy) x' ⟨4,m.co,m.aM,0,[],m.image⟩) (hp:w'.places=w.places.set m.jy.toNat x') (hm:∀y∈w'.bU,y∈w.bU\/y=ansM m)
 |again (m:gM) (hi:m∈w.bU) (ht:m.taken=false) (up:(jr w m.jy).up=true) (had:hadP (jr w m.jy) m.co m.aM=true) (hp:w'.places=w.places) (hm:∀y∈w'.bU,y∈w.bU\/y=ansM m)
 |still (hp:w'.places=w.places) (hm:∀y∈w'.bU,y∈w.bU)
 |crash (k:Int) (hk:0<=k/\k<=2) (up:(jr w k).up=true) (hp:w'.places=w.places.set k.toNat ⟨[],(jr w k).d,false⟩) (hm:w'.bU=w.bU)
 |boot (k:Int) (hk:0<=k/\k<=2) (down:(jr w k).up=false) (ok:(sK [] (mG (jr w k).d)).2=0) (hp:w'.places=w.places.set k.toNat ⟨(sK [] (mG (jr w k).d)).1,(Ri (jr w k).d).1,true⟩) (hm:w'.bU=w.bU)
theorem boot_disk{d:gZ}(h:jB d=0):jB (Ri d).1=0/\GM (Ri d).1=mG d/\mG (Ri d).1=mG d/\(Ri d).1.wait=[]:=by
 have b:=dOk h;rw[b.whole];obtain⟨k1,k2⟩:=dOk_mk (a:=mG d) (w:=[]) b.good b.len (by have:=b.rroom;simp;omega);exact⟨k1,k2,by rw[(dOk k1).still Z,k2],Z⟩
theorem mem_send{w:xO}(h:WR w){m y:gM}(a:y∈Gd w.bU m):y∈w.bU\/y=m:=by
  rw[sendP_eq h]at a;by_cases b:Zo m/\w.bU.length<40
  · rw[if_pos b]at a;simpa using a
  · rw[if_neg b]at a;exact .inl a
theorem hear_ev{w w':xO}(h:WR w){i:Int}{t:Bool}(e:hearW w i t=(w',0)):WR w'/\w'.prog=w.prog/\Ev w w':=by
  unfold hearW at e;by_cases C:i<0\/(w.bU.length:Int)<=i
  · rw[if_pos C]at e;simp at e
  · rw[if_neg C]at e;obtain⟨n,rfl⟩:=Int.eq_ofNat_of_zero_le (by omega:0<=i);have hn:n<w.bU.length:=by omega
    have I:(w.bU[n]?).getD zMail=w.bU[n]:=by rw[List.getElem?_eq_getElem hn];rfl
    simp only[Int.toNat_natCast]at e;simp only[I]at e;have b:w.bU[n]∈w.bU:=List.getElem_mem hn;generalize w.bU[n]=m at*;have d:=h.mok m b;by_cases A:(jr w m.jy).up=false
    · rw[if_pos A]at e;simp at e
    · rw[if_neg A]at e;have f:(jr w m.jy).up=true:=by simpa using A
      have p:WR ⟨w.prog,w.places,if t=true then w.bU else w.bU.take n++w.bU.drop (n+1)⟩:=by
        cases t with
        |true=>exact h
        |false=>exact h.drop n
      have a:∀y∈(if t=true then w.bU else w.bU.take n++w.bU.drop (n+1)),y∈w.bU:=by
        intro y o;cases t with
        |true=>exact o
        |false=>exact(List.mem_append.1 o).elim List.mem_of_mem_take List.mem_of_mem_drop
      generalize M:(if t=true then w.bU else w.bU.take n++w.bU.drop (n+1))=L at*;have s:∀k,jr (⟨w.prog,w.places,L⟩:xO) k=jr w k:=fun k=>rfl;simp only[s]at e;have hat:=h.at ⟨d.2.1.1,d.2.1.2⟩;cases ht:m.taken with
      |true=>
        rw[ht]at e;simp only[if_true]at e;cases hf:pY m.co (jr w m.jy).cos with
        |none=>
          rw[hf]at e;cases e;exact⟨p,Z,.still Z a⟩
        |some c=>
          rw[hf]at e;simp only at e;by_cases l:c.aM≠m.aM-1\/c.offered≠m.from_
          · rw[if_pos l]at e;cases e;exact⟨p,Z,.still Z a⟩
          · rw[if_neg l]at e;have E:=congrArg Prod.snd e;have G:=congrArg Prod.fst e;simp only at G E;have N:=WO (x':=(oJ (jr w m.jy) ⟨5,m.co,m.aM-1,0,[],[]⟩).1) (r:=⟨5,m.co,m.aM-1,0,[],[]⟩) hat f (JB V d.2.2.1 (by have:=d.2.2.2.1;omega) V (fun x q=>(by cases q)) (fun x q=>(by cases q))) (fun h=>by simp only at h;omega) (Prod.ext Z E);subst G;exact⟨p.set N.pl,Z,.gone m c _ b ht f hf V V N Z a⟩
      |false=>
        rw[ht]at e;simp only[Bool.false_eq_true,if_false]at e;have g:∀{u:xO},WR u->WR ⟨u.prog,u.places,Gd u.bU<|ansM m⟩:=fun K=>K.send (fun h=>by cases h);by_cases l:hadP (jr w m.jy) m.co m.aM=true
        · rw[if_pos l]at e;cases e;refine⟨g p,Z,.again m b ht f l Z fun y o=>?_⟩;exact(mem_send p o).imp (a y) id
        · rw[if_neg l]at e;have v:hadP (jr w m.jy) m.co m.aM=false:=by simpa using l
          by_cases z:(oJ (jr w m.jy) ⟨4,m.co,m.aM,0,[],m.image⟩).2=0
          · rw[if_neg V]at e;have j:=h.mimg m b ht;have J:=img_of h.code j;have N:=WO (x':=(oJ (jr w m.jy) ⟨4,m.co,m.aM,0,[],m.image⟩).1) (r:=⟨4,m.co,m.aM,0,[],m.image⟩) hat f (JB V d.2.2.1 (by have:=d.2.2.2.1;omega) V (fun x q=>(by cases q)) (img_b (pX h.code) J).1) (fun _=>j) (Prod.ext Z z);cases e;have B:=p.set (k:=m.jy) N.pl;refine⟨g B,Z,.take m _ b ht f v N Z fun y o=>?_⟩;exact(mem_send B o).imp (a y) id
          · rw[if_pos z]at e;exact absurd (congrArg Prod.snd e) z
theorem run_ev{w w':xO}(h:WR w){x:Hap}(f:0<=x.place/\x.place<=2)(a:(jr w x.place).up=true)(e:runW w x=(w',0)):WR w'/\w'.prog=w.prog/\Ev w w':=by
  unfold runW at e;have hat:=h.at f;cases hf:pY x.co (jr w x.place).cos with
  |none=>rw[hf]at e;simp at e
  |some c=>
    rw[hf]at e;simp only at e;obtain⟨m,t⟩:=FN hf;rw[<-m]at hf;have j:=hat.good.1.ok c t;generalize d:(if x.kind=9 then(2000:Int)else x.n)=fuel at e;by_cases p:fuel<1\/2000<fuel
    · rw[if_pos p]at e;simp at e
    · rw[if_neg p]at e;by_cases i:(sM w.prog x.place c fuel).2=0
      · rw[if_neg V]at e;have S:=slice_ok h.code (r:=(sM w.prog x.place c fuel).1) j<|Prod.ext Z i;generalize (sM w.prog x.place c fuel).1=r at*;have u:(r.kind=1\/r.kind=2\/r.kind=4)->(dV w.prog r.image).2=0:=by
          rcases S.how with hh|hh
          · exact fun _=>hh.2.2.2.2.2
          · intro h;omega
        by_cases l:x.kind=9
        · rw[if_pos l]at e;rw[if_pos l]at d;subst d;have q:=congrArg Prod.snd e;have s:=congrArg Prod.fst e;simp only at s q;have T:=tear_ok (x':=(PZ (jr w x.place) r x.n).1) hat a S.w<|Prod.ext Z q;subst s;exact⟨h.set T.pl,Z,.tear x.place c r _ f a hf S T Z Z⟩
        · rw[if_neg l]at e;by_cases g:(oJ (jr w x.place) r).2=0
          · rw[if_neg V]at e;have N:=WO (x':=(oJ (jr w x.place) r).1) hat a S.w u<|Prod.ext Z g;have o:=h.set (k:=x.place) N.pl;by_cases b:r.kind=3
            · rw[if_pos b]at e;cases e;refine⟨o.send (fun _=>?_),Z,.run x.place c fuel r _ f a hf V S N Z (by rw[if_pos b];rfl)⟩;exact hat.img c t
            · rw[if_neg b]at e;cases e;exact⟨o,Z,.run x.place c fuel r _ f a hf V S N Z (by rw[if_neg b];rfl)⟩
          · rw[if_pos g]at e;exact absurd (congrArg Prod.snd e) g
      · rw[if_pos i]at e;exact absurd (congrArg Prod.snd e) i
theorem step_ev{w w':xO}(h:WR w){x:Hap}(e:jZ w x=(w',0)):WR w'/\w'.prog=w.prog/\Ev w w':=by
  unfold jZ at e;by_cases s:x.kind=4\/x.kind=5
  · rw[if_pos s]at e;exact hear_ev h e
  · rw[if_neg s]at e;by_cases v:x.kind=6
    · rw[if_pos v]at e;by_cases k:x.n<0\/(w.bU.length:Int)<=x.n
      · rw[if_pos k]at e;simp at e
      · rw[if_neg k]at e;cases e;exact⟨h.drop _,Z,.still Z fun y L=>(List.mem_append.1 L).elim List.mem_of_mem_take List.mem_of_mem_drop⟩
    · rw[if_neg v]at e;by_cases k:x.kind<1\/9<x.kind
      · rw[if_pos k]at e;simp at e
      · rw[if_neg k]at e;have o:=h.many;by_cases u:x.place<0\/(w.places.length:Int)<=x.place
        · rw[if_pos u]at e;simp at e
        · rw[if_neg u]at e;have i:0<=x.place/\x.place<=2:=by omega
          have hat:=h.at i;by_cases B:x.kind=8
          · rw[if_pos B]at e;unfold bootW at e;by_cases g:(jr w x.place).up=true
            · rw[if_pos g]at e;simp at e
            · rw[if_neg g]at e;by_cases j:(sK [] (mG (jr w x.place).d)).2=0
              · rw[if_neg V]at e;by_cases b:J5 w.prog (sK [] (mG (jr w x.place).d)).1=0
                · rw[if_neg V]at e;cases e;obtain⟨C,O,I,G⟩:=boot_disk hat.disk;have l:PlR w.prog ⟨(sK []<|mG (jr w x.place).d).1,(Ri (jr w x.place).d).1,true⟩:=
                    ⟨C,fun h=>(by cases h),fun _=>G,fun _=>(by simp only[I];rw[<-j]),(Zp _ _).1 b⟩
                  exact⟨h.set l,Z,.boot x.place i (by simpa using g) j Z Z⟩
                · rw[if_pos b]at e;exact absurd (congrArg Prod.snd e) b
              · rw[if_pos j]at e;exact absurd (congrArg Prod.snd e) j
          · rw[if_neg B]at e;by_cases g:(jr w x.place).up=false
            · rw[if_pos g]at e;simp at e
            · rw[if_neg g]at e;have a:(jr w x.place).up=true:=by simpa using g
              by_cases j:x.kind=1
              · rw[if_pos j]at e;unfold Zr at e;by_cases b:x.co≠x.place
                · rw[if_pos b]at e;simp at e
                · rw[if_neg b]at e;have q:x.co=x.place:=Decidable.not_not.1 b;by_cases f:(mG (jr w x.place).d).any (fun r=>decide (r.kind=1))=true
                  · rw[if_pos f]at e;simp at e
                  · rw[if_neg f,q]at e;have t:=congrArg Prod.snd e;have z:=congrArg Prod.fst e;simp only at z t;have A:=begin_img h.code;have N:=WO (x':=(oJ (jr w x.place) (beginR w.prog x.place)).1) (r:=beginR w.prog x.place) hat a (JB V i V V (fun x J=>(by cases J)) (img_b (pX h.code) A).1) (fun _=>by unfold beginR;simp only;rw[A.un]) (Prod.ext rfl t);subst z;refine⟨h.set N.pl,Z,.begin x.place _ i a (fun r M m=>f ?_) N Z Z⟩;exact List.any_eq_true.2 ⟨r,M,by simpa using m⟩
              · rw[if_neg j]at e;by_cases b:x.kind=3
                · rw[if_pos b]at e;unfold WN at e;cases hf:pY x.co (jr w x.place).cos with
                  |none=>rw[hf]at e;simp at e
                  |some c=>
                    rw[hf]at e;simp only at e;obtain⟨p,K⟩:=FN hf;rw[<-p]at hf;by_cases f:c.offered<0
                    · rw[if_pos f]at e;simp at e
                    · rw[if_neg f]at e;cases e;exact⟨h.send fun _=>hat.img c K,Z,.send x.place c i a hf V Z Z⟩
                · rw[if_neg b]at e;by_cases f:x.kind=7
                  · rw[if_pos f]at e;cases e;exact⟨h.set ⟨hat.disk,fun _=>rfl,fun h=>(by cases h),fun h=>(by cases h),fun c E=>(by cases E)⟩,Z,.crash x.place i a Z Z⟩
                  · rw[if_neg f]at e;exact run_ev h i a e
end Pw
open Go Go.Proofs Go.LX
namespace Pw
open Dk
def On(k:Int):Prop:=0<=k/\k<=2
end Pw
open Go Go.Proofs Go.LX
namespace Pw
open Dk
theorem setP_self{w:xO}{k:Int}(h:0<=k/\k<w.places.length):EC w k (jr w k)=w:=by
  have:=(pAt_eq h).2.2;unfold EC;have e:w.places.set k.toNat (jr w k)=w.places:=by
    apply List.ext_getElem?;intro i;rw[List.getElem?_set];by_cases a:k.toNat=i
    · subst a;rw[if_pos rfl,if_pos (List.getElem?_eq_some_iff.1 this).1,this]
    · rw[if_neg a]
  rw[e]
def I8(w:xO):List Hap->xO×List Int
 |[]=>(w,[])
 |x::l=>let v:=if(jZ w x).2=0 then(jZ w x).1 else w;((I8 v l).1,(jZ w x).2::(I8 v l).2)
theorem Pk(w:xO)(x:Hap)(l:List Hap):I8 w (x::l)=((I8 (if(jZ w x).2=0 then(jZ w x).1 else w) l).1,(jZ w x).2::(I8 (if(jZ w x).2=0 then(jZ w x).1 else w) l).2):=rfl
theorem runL_app:∀(a b:List Hap) (w:xO),I8 w (a++b)=((I8 (I8 w a).1 b).1,(I8 w a).2++(I8 (I8 w a).1 b).2)
 |[],b,w=>rfl
 |x::a,b,w=>by
  rw[List.cons_append,Pk,Pk,runL_app a b];rfl
theorem runL_ok:∀(l:List Hap) (w:xO),WR w->WR (I8 w l).1
  |[],w,h=>h
  |x::l,w,h=>by
    unfold I8;simp only;refine runL_ok l _ ?_;by_cases a:(jZ w x).2=0
    · rw[if_pos a];exact(step_ev h<|Prod.ext Z a).1
    · rw[if_neg a];exact h
end Pw
end Go.Proofs.YtodkbibbgakkdaaGreatDoor