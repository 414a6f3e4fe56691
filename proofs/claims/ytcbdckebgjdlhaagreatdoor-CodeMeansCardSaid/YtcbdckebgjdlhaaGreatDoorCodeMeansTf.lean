/-
  What the law CodeMeans needs of our own library and of the walks, no more.
-/
import Derived.Test.YtcbdckebgjdlhaaGreatDoorCodeMeansTe
set_option linter.unusedSimpArgs false
set_option linter.unusedVariables false
set_option maxRecDepth 10000
namespace Go.Proofs.YtcbdckebgjdlhaaGreatDoor
open Go Go.Proofs Go.LX
noncomputable section
abbrev Vm:List (Int×Str):=[(2,[118]),(4,[46]),(5,[110,101,119]),(6,[102]),(1,[])]
theorem bnd{α β:Type}(a:α)(f:α->Option β):(some a).bind f=f a:=rfl
theorem YH{α σ:Type}{g:α->Option σ}{l:List α}(c:∀p∈l,∀q∈l,g p≠none->g q≠none->p=q){p:α}(hp:p∈l){t:σ}(h:g p=some t):l.findSome? g=some t:=by
 cases e:l.findSome? g with
 |none=>
  rw[List.findSome?_eq_none_iff]at e;rw[e p hp]at h;cases h
 |some u=>
  obtain⟨q,b,a⟩:=List.exists_of_findSome?_eq_some e;have:=c p hp q b (by rw[h];simp) (by rw[a];simp);subst this;rw[h]at a;exact a.symm
theorem PX{α σ:Type}{step:α->σ->Option σ}{g:α->Option σ}:∀{l:List α},(∀p∈l,∀s,step p s=some ((g p).getD s))->(∀p∈l,g p=none)->∀s,Mo step l s=some s
 |[],_,_,s=>rfl
 |p::l,h,hn,s=>by
  unfold Mo;rw[h p zq3,hn p zq3,Option.getD_none,bnd];exact PX (fun q a=>h q<|List.mem_cons_of_mem _ a) (fun q a=>hn q<|List.mem_cons_of_mem _ a) s
theorem PY{α σ:Type}{step:α->σ->Option σ}{g:α->Option σ}:∀{l:List α},(∀p∈l,∀s,step p s=some ((g p).getD s))->(∀p∈l,∀q∈l,g p≠none->g q≠none->p=q)->l.Nodup->∀s,Mo step l s=some ((l.findSome? g).getD s)
  |[],_,_,_,s=>rfl
  |p::l,h,hu,hn,s=>by
    unfold Mo;rw[h p zq3,bnd];have d:=List.nodup_cons.1 hn;cases e:g p with
    |none=>
      rw[Option.getD_none,PY (fun q c=>h q (List.mem_cons_of_mem _ c)) (fun a i b f=>hu a (List.mem_cons_of_mem _ i) b (List.mem_cons_of_mem _ f)) d.2 s,List.findSome?_cons,e]
    |some t=>
      rw[Option.getD_some,PX (fun q c=>h q (List.mem_cons_of_mem _ c)) (fun q c=>?_) t,List.findSome?_cons,e]
      · rfl
      · cases e2:g q with
        |none=>rfl
        |some u=>
          have:=hu p zq3 q (List.mem_cons_of_mem _ c) (by rw[e];simp) (by rw[e2];simp);subst this;exact absurd c d.1
theorem YI{α σ:Type}{step:α->σ->Option σ}{g:α->Option σ}{L:List α}(h:∀p∈L,∀s,step p s=some ((g p).getD s))(c:∀p∈L,∀q∈L,g p≠none->g q≠none->p=q)(hn:L.Nodup)(s:σ):vQ step L s ((L.findSome? g).getD s):=by
 intro l a;rw[PY (fun p hp=>h p (a.mem_iff.1 hp)) (fun p hp q b=>c p (a.mem_iff.1 hp) q (a.mem_iff.1 b)) (a.nodup_iff.2 hn) s];congr 2;cases e:L.findSome? g with
 |none=>
  rw[List.findSome?_eq_none_iff]at e⊢;exact fun x f=>e x<|a.mem_iff.1 f
 |some t=>
  obtain⟨p,hp,d⟩:=List.exists_of_findSome?_eq_some e;exact YH (fun p hp q b=>c p (a.mem_iff.1 hp) q<|a.mem_iff.1 b) (a.mem_iff.2 hp) d
def joO(a:Int×Str)(y:Int×Bool)(x:Bool):Option (Int×Int):=bif x then some (a.1,y.1)else none
def SN(s:Str)(b:Int×Str):Option (Option (Int×Int)):=
 (strings_TrimPrefix s b.2).bind fun c=>(EP c).bind fun a=>bif (!a.2)then(kX (⟨b.1,a.1⟩:Tok)).bind fun d=>some (joO b a (decide ((d:Str)=s)))else some (joO b a false)
theorem j227_eq(c:Int×Str)(y:Int×Bool)(a b:Int)(x:Bool):xI c y a b x=some ((joO c y x).getD (a,b)):=by
 unfold xI joO;cases x<;>rfl
theorem b228_eq(s:Str)(c:Int×Str)(st:Int×Int):qR s c st=(SN s c).bind fun o=>some (o.getD st):=by
 obtain⟨a,b⟩:=st;unfold qR SN;simp only[j227_eq];cases strings_TrimPrefix s c.2 with
 |none=>rfl
 |some y=>
  simp only[bnd];cases EP y with
  |none=>rfl
  |some z=>
   simp only[bnd];cases z.2 with
   |true=>rfl
   |false=>
    simp only[Bool.not_false,cond_true];cases kX (⟨c.1,z.1⟩:Tok)<;>rfl
def gO(s:Str)(p:Int×Str):Option (Int×Int):=(SN s p).join
def okW(s:Str):Bool:=Vm.all (fun p=>(SN s p).isSome)&&Vm.all (fun p=>Vm.all fun q=>(gO s p).isNone||(gO s q).isNone||decide (p=q))
def preC(s:Str):Int×Int:=(Vm.findSome? (gO s)).getD (0,0)
theorem fold_ok{s:Str}(h:okW s=true):BI (qR s) Vm (0,0)=some (preC s):=by
  unfold okW at h;rw[Bool.and_eq_true,List.all_eq_true,List.all_eq_true]at h;refine TY<|YI (g:=gO s) (fun p hp st=>?_) (fun p hp q b a c=>?_) zq1 (0,0)
  · have a:=h.1 p hp;rw[b228_eq];unfold gO;cases e:SN s p with
    |none=>rw[e]at a;cases a
    |some o=>cases o<;>rfl
  · have:=List.all_eq_true.1 (h.2 p hp) q b;rw[Bool.or_eq_true,Bool.or_eq_true]at this;rcases this with(e|e)|e
    · exact absurd (Option.isNone_iff_eq_none.1 e) a
    · exact absurd (Option.isNone_iff_eq_none.1 e) c
    · exact odt e
def foldC(s:Str):Option (Int×Int):=bif okW s then some (preC s)else BI (qR s) Vm (0,0)
theorem foldC_eq(s:Str):foldC s=BI (qR s) Vm (0,0):=by
 unfold foldC;cases e:okW s with
 |false=>rfl
 |true=>exact(fold_ok e).symm
def yR(N:Nat)(f:List Tok)(a:List dw)(h:Int)(e:(List Tok×Int×Bool×Int)->Option (List Tok×eY))(b:Str)(d:Bool)(c:Int):Option (List Tok×eY):=
 (foldC b).bind fun g=>(IL N b f a c h e d) g
theorem NF: @yR= @xJ:=by
 funext a b c d e f g h;unfold yR xJ;rw[foldC_eq]
def Co(N:Nat)(b:List Str)(a:List dw)(s:List Tok×Int×Bool×Int)(d:List Tok×Int×Bool×Int->Option (List Tok×eY)):Option (List Tok×eY):=
 match s with|(D6,Gf,F8,y20)=>bif (decide ((0:Int)<Gf)&&F8)then bif decide (((b.length:Int):Int)<=y20)then yR N D6 a Gf d [] false y20 else gD (jY (y20+1)) (gD (jY ((y20+1)-1)) ((idx b ((y20+1)-1)).bind fun c=>yR N D6 a Gf d c F8 (y20+1)))else some (D6,(⟨y20,F8⟩:eY))
theorem NG: @Co= @xK:=by
 unfold Co xK;rw[NF]
def I8(N:Nat)(c:eY)(b:List Str)(a:List dw):Option (List Tok×eY):=
 again (Co N b a) N ([],1,c.ok,c.at_)
theorem PZ: @I8= @IM:=by
 unfold I8 IM;rw[NG]
def yS(N:Nat)(F0:eY->List Str->List dw->Int->Option (List aN×eY))(e:Int)(c:List Str)(b:List dw)(a:Int)(g:List aN)(i:Int)(h:(List aN×Int×Bool)->Option (List aN×eY))(k:Int)(j:Bool)(f:List Tok):Option (List aN×eY):=
 bif decide (((e+1):Int)=2)then(I8 N (⟨k,j⟩:eY) c b).bind fun d=>xL F0 e a c b g i f h d.2.at_ d.2.ok d.1 else xL F0 e a c b g i f h k j []
theorem NH: @yS= @xM:=by
 unfold yS xM;rw[PZ]
def vN(N:Nat)(F0:eY->List Str->List dw->Int->Option (List aN×eY))(e:Int)(c:List Str)(b:List dw)(a:Int)(g:List aN)(h:(List aN×Int×Bool)->Option (List aN×eY))(f:Int)(j:Bool)(i:Int):Option (List aN×eY):=
 bif decide (((e+1):Int)≠4)then(I8 N (⟨f,j⟩:eY) c b).bind fun d=>yS N F0 e c b a g i h d.2.at_ d.2.ok d.1 else yS N F0 e c b a g i h f j []
theorem NI: @vN= @uP:=by
 unfold vN uP;rw[PZ,NH]
def yT(N:Nat)(F0:eY->List Str->List dw->Int->Option (List aN×eY))(i:List aN)(c:List Str)(b:List dw)(a:Int)(j:(List aN×Int×Bool)->Option (List aN×eY))(g:Str)(d:Int)(e:Bool):Option (List aN×eY):=
 bif decide ((g:Str)=[125])then some (i,(⟨d,e⟩:eY))else(Ip [115,101,116,32,112,117,116,32,115,97,121,32,112,97,117,115,101,32,103,111,32,105,102,32,119,104,105,108,101,32,114,101,116,117,114,110]).bind fun k=>(slices_Index_string k g).bind fun f=>gD (jY (f+1)) (bif (!(e&&decide ((0:Int)<(f+1))))then some ([],(⟨d,(e&&decide ((0:Int)<(f+1)))⟩:eY))else bif decide (((f+1):Int)<=2)then bif decide (((c.length:Int):Int)<=d)then(EP []).bind fun h=>vN N F0 f c b a i j d false h.1 else gD (jY (d+1)) (gD (jY ((d+1)-1)) ((idx c ((d+1)-1)).bind fun l=>(EP l).bind fun m=>vN N F0 f c b a i j (d+1) (e&&decide ((0:Int)<(f+1))) m.1))else vN N F0 f c b a i j d (e&&decide ((0:Int)<(f+1))) 0)
theorem NJ: @yT= @xN:=by
 unfold yT xN;rw[NI]
def Cq(N:Nat)(F0:eY->List Str->List dw->Int->Option (List aN×eY))(c:List Str)(b:List dw)(a:Int)(s:List aN×Int×Bool)(d:List aN×Int×Bool->Option (List aN×eY)):Option (List aN×eY):=
 match s with|(uD,EA,OE)=>bif OE then bif decide (((c.length:Int):Int)<=EA)then yT N F0 uD c b a d [] EA false else gD (jY (EA+1)) (gD (jY ((EA+1)-1)) ((idx c ((EA+1)-1)).bind fun e=>yT N F0 uD c b a d e (EA+1) OE))else some ([],(⟨EA,OE⟩:eY))
theorem NK: @Cq= @xO:=by
 unfold Cq xO;rw[NJ]
def Au(N:Nat)(F0:eY->List Str->List dw->Int->Option (List aN×eY))(c:List Str)(b:List dw)(a:Int)(e:Int)(d:Bool):Option (List aN×eY):=
 again (Cq N F0 c b a) N ([],e,d)
theorem OT: @Au= @zg:=by
 unfold Au zg;rw[NK]
def yU(N:Nat)(F0:eY->List Str->List dw->Int->Option (List aN×eY))(c:List Str)(b:List dw)(a:Int)(e:Bool)(d:Int)(f:Bool):Option (List aN×eY):=
 bif e then Au N F0 c b a d false else Au N F0 c b a d f
theorem NL: @yU= @xP:=by
 unfold yU xP;rw[OT]
def Ce(N:Nat)(F0:eY->List Str->List dw->Int->Option (List aN×eY))(d:eY)(c:List Str)(b:List dw)(a:Int):Option (List aN×eY):=
 bif decide (((c.length:Int):Int)<=d.at_)then yU N F0 c b a true d.at_ false else gD (jY (d.at_+1)) (gD (jY ((d.at_+1)-1)) ((idx c ((d.at_+1)-1)).bind fun e=>yU N F0 c b a (decide ((e:Str)≠[123])||decide ((6:Int)<a)) (d.at_+1) d.ok))
theorem Rk: @Ce= @AX:=by
 unfold Ce AX;rw[NL]
def Dp:Nat->eY->List Str->List dw->Int->Option (List aN×eY)
 |0=>fun _ _ _ _=>none
 |N+1=>Ce N (Dp N)
theorem NM:∀N,Dp N=zh N
 |0=>rfl
 |N+1=>by show Ce N (Dp N)=AX N (zh N);rw[Rk,NM N]
def j3(N:Nat)(h:List Str)(d:List dw)(a:Int)(g:(List dw×Int×Bool)->Option (List dw×Int))(f:Int)(b:Bool):Option (List dw×Int):=
 (Dp N (⟨f,b⟩:eY) h d 1).bind fun c=>(idx d a).bind fun e=>g ((d.set (a).toNat {e with body:=c.1}),c.2.at_,c.2.ok)
theorem zK: @j3= @jk:=by
 unfold j3 jk;rw[show @Dp= @zh from funext NM]
def j4(N:Nat)(c:List Str)(f:List dw)(a:Int)(e:(List dw×Int×Bool)->Option (List dw×Int))(b:Int)(g:Bool):Option (List dw×Int):=
 bif decide (((c.length:Int):Int)<=b)then j3 N c f a e b false else gD (jY (b+1)) (gD (jY ((b+1)-1)) ((idx c ((b+1)-1)).bind fun d=>j3 N c f a e (b+1) g))
theorem zL: @j4= @jl:=by
 unfold j4 jl;rw[zK]
def j5(N:Nat)(c:List Str)(f:List dw)(a:Int)(e:(List dw×Int×Bool)->Option (List dw×Int))(b:Int)(g:Bool):Option (List dw×Int):=
 bif decide (((c.length:Int):Int)<=b)then j4 N c f a e b false else gD (jY (b+1)) (gD (jY ((b+1)-1)) ((idx c ((b+1)-1)).bind fun d=>j4 N c f a e (b+1) g))
theorem zM: @j5= @jm:=by
 unfold j5 jm;rw[zL]
def j6(N:Nat)(e:List Str)(d:List dw)(a:Int)(c:(List dw×Int×Bool)->Option (List dw×Int))(g:Bool)(b:Int)(f:Bool):Option (List dw×Int):=
 bif g then j5 N e d a c b false else j5 N e d a c b f
theorem zN: @j6= @jo:=by
 unfold j6 jo;rw[zM]
def mQ(N:Nat)(c:List Str)(a:Int)(s:List dw×Int×Bool)(d:List dw×Int×Bool->Option (List dw×Int)):Option (List dw×Int):=
 match s with|(qF,y98,y99)=>bif decide (((c.length:Int):Int)<=y98)then j6 N c qF a d true y98 false else gD (jY (y98+1)) (gD (jY ((y98+1)-1)) ((idx c ((y98+1)-1)).bind fun b=>j6 N c qF a d (decide ((b:Str)≠[102,117,110])) (y98+1) y99))
theorem zO: @mQ= @kK:=by
 unfold mQ kK;rw[zN]
def mR(N:Nat)(c:List Str)(a:Str)(b:List dw)(s:Unit):Option (List dw×Int):=
 upto (mQ N c) (nQ N c a) 0 ((b.length:Int)).toNat (b,0,true)
theorem zP: @mR= @kL:=by
 unfold mR kL;rw[zO]
def mU(N:Nat)(c:List Str)(a:Str)(b:List dw):Option (List dw×Int):=
 bif (decide (((b.length:Int):Int)=0)||decide ((4:Int)<(b.length:Int)))then some ([],1)else upto (nT b) (mR N c a b) 0 ((b.length:Int)).toNat ()
theorem zQ: @mU= @kM:=by
 unfold mU kM;rw[zP]
def qB(N:Nat)(a:Str):Option (List dw×Int):=
 (Qv a [32]).bind fun b=>gF (nU b) (mU N b a) 0 b []
theorem Cr: @qB= @mM:=by
 unfold qB mM;rw[zQ]
def uz(N:Nat):Option (List dw):=
 (qB N [102,117,110,32,48,32,49,32,123,32,115,101,116,32,48,32,51,32,119,104,105,108,101,32,118,48,32,123,32,115,97,121,32,102,49,32,118,48,32,118,48,32,103,111,32,118,48,32,112,97,117,115,101,32,115,101,116,32,48,32,45,32,118,48,32,49,32,125,32,125,32,102,117,110,32,50,32,50,32,123,32,114,101,116,117,114,110,32,42,32,118,48,32,118,49,32,125]).bind fun a=>some a.1
theorem EF: @uz= @mD:=by
 unfold uz mD;rw[Cr]
abbrev NN:Nat:=70000
theorem YJ:mD NN=uz NN:=by rw[EF]
end
open Go Go.Proofs Go.LX
theorem eqInt(a b:List Int):slices_Equal_int a b=some (decide (a=b)):=by
  unfold slices_Equal_int;by_cases h:a.length=b.length
  · rw[dF V];simp only[cond_false,Int.toNat_natCast];rw[Xd (fun x y=>decide (x=y)) a b h rfl (fun i x y f c d=>by
      unfold vG;rw[pF,pF,c,d];by_cases e:x=y<;>simp[e]),VV (fun _ _=>rfl)]
  · rw[dT V];have:a≠b:=fun e=>h (by rw[e]);rw[dF this];rfl
theorem yc(a b:Int):(decide (0<=a)&&decide (a<b))=aS a b:=rfl
theorem Wv(a b c:Int):(decide (b<=a)&&decide (a<=c))=bB a b c:=rfl
theorem lv(a b:Int):(decide (a<0)||decide (b<=a))= !aS a b:=by
 unfold aS;rw[Bool.eq_iff_iff];simp;try omega
theorem EG{α:Type}(x:α)(l:List α):idx (x::l) 0=some x:=by simp[idx]
theorem Ww{l:List Int}:l.length=1↔∃x,l=[x]:=by
 match l with
 |[]=>simp
 |[x]=>simp
 |x::y::r=>simp
def zR(i:Nat)(x:aX):Int:=
 if(0<=x.params/\x.params<=3)/\(1<=x.regs/\x.params<=x.regs/\x.regs<=40)/\¬(i=0/\x.params≠0)then(if 1<=x.code.length/\x.code.length<=2000 then 0 else 2)else 3
theorem b39_eq(i:Nat)(x:aX)(c:Unit->Option Int):jR (i:Int) x () c=if zR i x≠0 then some (zR i x)else c ():=by
  unfold jR zR;by_cases a:(0<=x.params/\x.params<=3)/\(1<=x.regs/\x.params<=x.regs/\x.regs<=40)/\¬(i=0/\x.params≠0)
  · have e:(((((decide ((x.params:Int)<0)||decide ((3:Int)<x.params))||decide ((x.regs:Int)<1))||decide ((x.regs:Int)<x.params))||decide ((40:Int)<x.regs))||(decide ((i:Int)=0)&&decide ((0:Int)<x.params)))=false:=by
      simp only[Bool.or_eq_false_iff,Bool.and_eq_false_iff,decide_eq_false_iff_not];omega
    rw[e,if_pos a];simp only[cond_false];by_cases b:1<=x.code.length/\x.code.length<=2000
    · rw[if_pos b,show(decide (((x.code.length:Int):Int)=0)||decide ((2000:Int)<(x.code.length:Int)))=false by simp only[Bool.or_eq_false_iff,decide_eq_false_iff_not];omega];rfl
    · rw[if_neg b,show(decide (((x.code.length:Int):Int)=0)||decide ((2000:Int)<(x.code.length:Int)))=true by simp only[Bool.or_eq_true,decide_eq_true_eq];omega];rfl
  · have e:(((((decide ((x.params:Int)<0)||decide ((3:Int)<x.params))||decide ((x.regs:Int)<1))||decide ((x.regs:Int)<x.params))||decide ((40:Int)<x.regs))||(decide ((i:Int)=0)&&decide ((0:Int)<x.params)))=true:=by
      simp only[Bool.or_eq_true,Bool.and_eq_true,decide_eq_true_eq];omega
    rw[e,if_neg a];rfl
def heads:Nat->List aX->Int
 |_,[]=>0
 |i,x::p=>if zR i x≠0 then zR i x else heads (i+1) p
theorem I9(k:Unit->Option Int):∀(p:List aX) (i:Nat),gF jR k (i:Int) p ()=if heads i p≠0 then some (heads i p)else k ()
 |[],i=>by simp[heads,gF]
 |x::p,i=>by
  show jR (i:Int) x () (gF jR k ((i:Int)+1) p)=_;rw[b39_eq,show((i:Int)+1)=((i+1:Nat):Int) by omega,I9 k p (i+1),heads];by_cases h:zR i x=0<;>simp[h]
def sK(x:aX):Prop:=1<=x.code.length/\x.code.length<=2000
theorem oW{α σ ρ:Type}{body:α->σ->(σ->ρ)->ρ}{k:σ->ρ}(x:α)(l:List α)(s:σ):each body k (x::l) s=body x s (each body k l):=rfl
theorem b8_tot(d:Int):∀l:List Int,∃y,each (lL d) rV l ()=some y
 |[]=>⟨0,rfl⟩
 |x::l=>by
  obtain⟨y,a⟩:=b8_tot d l;rw[oW];unfold lL;cases (!(decide ((0:Int)<=x)&&decide ((x:Int)<d)))with
  |true=>exact⟨3,rfl⟩
  |false=>exact⟨y,a⟩
theorem j5_tot(j:Bool)(a:Ins)(b i:Int)(c:List aX)(e g d k:Int):∃y,cZ j a b i c e g d k=some y/\(y=0->(a.args.length:Int)=g):=by
 unfold cZ;cases j with
 |false=>exact⟨3,rfl,fun h=>absurd h zq1⟩
 |true=>
  simp only[Bool.not_true,cond_false];generalize f:(((decide ((a.a:Int)≠k)||decide ((a.b:Int)≠i))||decide ((a.c:Int)≠e))||decide (((a.args.length:Int):Int)≠g))=C;cases C with
  |true=>exact⟨4,rfl,fun h=>absurd h zq1⟩
  |false=>
   simp only[Bool.or_eq_false_iff,decide_eq_false_iff_not,Decidable.not_not]at f;simp only[cond_false];cases decide ((a.op:Int)=7)with
   |true=>obtain⟨y,l⟩:=b8_tot d a.args;exact⟨y,l,fun _=>f.2⟩
   |false=>exact⟨0,rfl,fun _=>f.2⟩
theorem j4_tot(a:Ins)(b:Int)(c:List aX)(d:Int)(h:Bool)(f i g e:Int):∃y,bH a b c d h f i g e=some y/\(y=0->(a.args.length:Int)=f):=by
 unfold bH;cases decide ((a.op:Int)=12)with
 |true=>exact j5_tot h a b g c e f d 0
 |false=>exact j5_tot h a b g c e f d i
def Rl(a:Ins)(r:Option Int):Prop:=∃y,r=some y/\(y=0->a.args.length<=3)
theorem OU(a:Ins)(b:Int)(c:List aX)(d:Int)(i:Bool){f:Int}(j g e:Int)(h:f<=3):Rl a (bH a b c d i f j g e):=by
 obtain⟨y,k,m⟩:=j4_tot a b c d i f j g e;exact⟨y,k,fun l=>by have:=m l;omega⟩
theorem rQ{a:Ins}{c:Bool}{x y:Option Int}(d:Rl a x)(b:Rl a y):Rl a (bif c then x else y):=by
  cases c
  · exact b
  · exact d
theorem NP{a:Ins}{e:Int}(h:e≠0):Rl a (some e):=⟨e,rfl,fun b=>absurd b h⟩
theorem YK(a:Ins)(b:Int)(c:List aX)(d e:Int)(hp:∀x∈c,x.params<=3):Rl a (dR a b c d e):=by
  unfold dR;refine rQ (NP zq1)<|rQ (NP zq1)<|rQ (OU _ _ _ _ _ _ _ _ zq1)<|rQ (OU _ _ _ _ _ _ _ _ zq1) ?_;have f:∀x,Rl a (bQ a b c d x):=fun x=>by
    unfold bQ;exact rQ (OU _ _ _ _ _ _ _ _ zq1)<|rQ (OU _ _ _ _ _ _ _ _ zq1)<|OU _ _ _ _ _ _ _ _ zq1
  have g:∀x,Rl a (bT a b c d e x):=fun x=>by
    unfold bT;refine rQ (OU _ _ _ _ _ _ _ _ zq1) ?_;cases decide ((a.op:Int)=7)with
    |false=>
      rw[cond_false];exact rQ (f _)<|rQ (f _)<|f _
    |true=>
      simp only[cond_true];rw[lv];cases hb:aS a.b (c.length:Int)with
      |false=>exact NP zq1
      |true=>
        simp only[Bool.not_true,cond_false];unfold aS at hb;simp only[Bool.and_eq_true,decide_eq_true_eq]at hb;obtain⟨n,hn⟩:=Int.eq_ofNat_of_zero_le hb.1;rw[hn,oJ V,Option.bind_some];exact OU _ _ _ _ _ _ _ _<|hp _<|List.getElem_mem _
  have h:∀x,Rl a (bU a b c d e x):=fun x=>by
    unfold bU;refine rQ (OU _ _ _ _ _ _ _ _ zq1) ?_;cases decide ((a.op:Int)=3)with
    |false=>
      rw[cond_false];exact rQ (g _)<|g _
    |true=>
      simp only[cond_true];by_cases i:a.args.length=1
      · rw[dT (show((a.args.length:Int):Int)=1 by omega)];obtain⟨y,j⟩:=Ww.1 i;simp only[cond_true];rw[show idx a.args 0=some y by rw[j,EG],Option.bind_some];exact OU _ _ _ _ _ _ _ _ zq1
      · rw[dF (show¬((a.args.length:Int):Int)=1 by omega)];exact OU _ _ _ _ _ _ _ _ zq1
  exact rQ (h _)<|h _
def Good(a:List aX):Prop:=a.length<=4/\∀x∈a,sK x/\∀c∈x.code,c.args.length<=3
theorem SQ{i:Nat}{x:aX}(h:zR i x=0):x.params<=3/\sK x:=by
  unfold zR at h;split at h
  · split at h
    · exact⟨by omega,by unfold sK;omega⟩
    · cases h
  · cases h
theorem NQ:∀(p:List aX) (i:Nat),heads i p=0->∀x∈p,x.params<=3/\sK x
  |[],_,_,x,hx=>by cases hx
  |y::p,i,h,x,hx=>by
    unfold heads at h;split at h
    · rename_i a;exact absurd h a
    · rename_i a;rcases List.mem_cons.1 hx with rfl|hx
      · exact SQ<|Decidable.not_not.1 a
      · exact NQ p (i+1) h x hx
theorem Wx(a:List aX)(x:aX)(k:Unit->Option Int)(hp:∀x∈a,x.params<=3)(Q:Prop)(j:∃y,k ()=some y/\(y=0->Q)):∀(l:List Ins) (i:Int),∃y,gF (eX a x) k i l ()=some y/\(y=0->Q/\∀c∈l,c.args.length<=3)
  |[],i=>by
    obtain⟨y,f,b⟩:=j;exact⟨y,f,fun h=>⟨b h,by intro c n;cases n⟩⟩
  |c::l,i=>by
    obtain⟨y,f,b⟩:=Wx a x k hp Q j l<|i+1;have m:gF (eX a x) k i (c::l) ()=eX a x i c () (gF (eX a x) k (i+1) l):=rfl;rw[m];unfold eX;obtain⟨z,p,o⟩:=YK c i a x.regs (x.code.length:Int) hp;rw[p,Option.bind_some];by_cases e:z=0
    · rw[dF V,cond_false];refine⟨y,f,fun h=>⟨(b h).1,fun d g=>?_⟩⟩;rcases List.mem_cons.1 g with rfl|g
      · exact o e
      · exact(b h).2 d g
    · rw[dT e,cond_true];exact⟨z,Z,fun h=>absurd h e⟩
theorem Wy(a:List aX)(hp:∀x∈a,x.params<=3/\sK x):∀l:List aX,(∀x∈l,x.params<=3/\sK x)->∃y,each (jQ a) ny l ()=some y/\(y=0->∀x∈l,∀c∈x.code,c.args.length<=3)
  |[],_=>⟨0,rfl,fun _ x b=>by cases b⟩
  |x::l,hl=>by
    obtain⟨y,g,k⟩:=Wy a hp l fun z i=>hl z<|List.mem_cons_of_mem _ i;rw[oW];unfold jQ;have b:=hl x zq3;obtain⟨z,j,e⟩:=Wx a x (nu x (each (jQ a) ny l)) (fun x b=>(hp x b).1) (∀x∈l,∀c∈x.code,c.args.length<=3) (by
      unfold nu;have f:=b.2;unfold sK at f;rw[gI,show((x.code.length:Int)-1)=((x.code.length-1:Nat):Int) by omega,oJ V,Option.bind_some];cases (decide ((x.code[x.code.length-1].op:Int)≠8)&&decide ((x.code[x.code.length-1].op:Int)≠12))with
      |true=>exact⟨4,rfl,fun h=>absurd h zq1⟩
      |false=>exact⟨y,g,k⟩) x.code 0
    refine⟨z,j,fun h=>?_⟩;intro w d;rcases List.mem_cons.1 d with rfl|d
    · exact(e h).2
    · exact(e h).1 w d
theorem KD(a:List aX):∃y,mg a=some y/\(y=0->Good a):=by
  unfold mg;generalize g:(decide (((a.length:Int):Int)=0)||decide ((4:Int)<(a.length:Int)))=C;cases C with
  |true=>exact⟨2,rfl,fun h=>absurd h zq1⟩
  |false=>
    simp only[Bool.or_eq_false_iff,decide_eq_false_iff_not]at g;have e:gF jR (lU a) 0 a ()=_:=I9 (lU a) a 0;rw[cond_false,e];by_cases b:heads 0 a=0
    · rw[if_neg V];have hp:=NQ a 0 b;obtain⟨y,f,d⟩:=Wy a hp a hp;exact⟨y,f,fun h=>⟨by omega,fun x c=>⟨(hp x c).2,d h x c⟩⟩⟩
    · rw[if_pos b];exact⟨_,Z,fun h=>absurd h b⟩
def SS(a:List aX):Int:=(mg a).getD 0
theorem Rm(a:List aX):mg a=some (SS a):=by
 obtain⟨y,h,_⟩:=KD a;unfold SS;rw[h];rfl
def sO(R x:Int):Prop:=0<=x/\x<R
def qH(a:List aX)(R L:Int)(c:Ins):Prop:=
 (c.op=1/\sO R c.a/\(-1000000000<=c.b/\c.b<=1000000000))\/
 (c.op=2/\sO R c.a/\sO R c.b)\/
 (c.op=3/\sO R c.a/\sO R c.b/\sO R c.c/\∃n,c.args=[n]/\1<=n/\n<=5)\/
 ((c.op=4\/c.op=6)/\sO R c.a/\sO R c.b/\(0<=c.c/\c.c<4))\/
 (c.op=5/\sO R c.a/\(1<=c.b/\c.b<=4))\/
 (c.op=7/\sO R c.a/\(∃p,idx a c.b=some p/\(c.args.length:Int)=p.params)/\∀x∈c.args,sO R x)\/
 ((c.op=8\/c.op=9\/c.op=11)/\sO R c.a)\/
 c.op=10\/
 (c.op=12/\(0<=c.b/\c.b<L))\/
 (c.op=13/\sO R c.a/\(0<=c.b/\c.b<L))
theorem Wz(R:Int):∀l:List Int,each (lL R) rV l ()=some 0->∀x∈l,sO R x
  |[],_,x,hx=>by cases hx
  |y::l,h,x,hx=>by
    rw[oW]at h;unfold lL at h;cases e:(!(decide ((0:Int)<=y)&&decide ((y:Int)<R)))with
    |true=>rw[e,cond_true]at h;cases h
    |false=>
      rw[e,cond_false]at h;rcases List.mem_cons.1 hx with rfl|hx
      · simp at e;exact e
      · exact Wz R l h x hx
theorem insG_of{c:Ins}{i:Int}{a:List aX}{R L:Int}(h:dR c i a R L=some 0):qH a R L c:=by
  obtain⟨op,w,v,u,args⟩:=c;by_cases q:op=1
  · subst q;simp[dR,di,dh,dC,dG,dx,bH,cZ,bU,bT,bQ,Bool.cond_eq_ite]at h;simp[qH,sO]
    (repeat (split at h;·simp at h))
    omega
  by_cases m:op=2
  · subst m;simp[dR,di,dh,dC,dG,dx,bH,cZ,bU,bT,bQ,Bool.cond_eq_ite]at h;simp[qH,sO]
    (repeat (split at h;·simp at h))
    omega
  by_cases j:op=3
  · subst j;simp[dR,di,dh,dC,dG,dx,bH,cZ,bU,bT,bQ,Bool.cond_eq_ite]at h;simp[qH,sO];by_cases t:args.length=1
    · obtain⟨y,rfl⟩:=Ww.1 t;simp[EG]at h;split at h
      · simp at h
      split at h
      · simp at h
      refine⟨by omega,by omega,by omega,y,Z,by omega,by omega⟩
    · exfalso;rw[if_neg (show¬((args.length:Int)=1) by omega)]at h;split at h<;>simp at h
  by_cases r:op=4
  · subst r;simp[dR,di,dh,dC,dG,dx,bH,cZ,bU,bT,bQ,Bool.cond_eq_ite]at h;simp[qH,sO]
    (repeat (split at h;·simp at h))
    omega
  by_cases k:op=5
  · subst k;simp[dR,di,dh,dC,dG,dx,bH,cZ,bU,bT,bQ,Bool.cond_eq_ite]at h;simp[qH,sO]
    (repeat (split at h;·simp at h))
    omega
  by_cases n:op=6
  · subst n;simp[dR,di,dh,dC,dG,dx,bH,cZ,bU,bT,bQ,Bool.cond_eq_ite]at h;simp[qH,sO]
    (repeat (split at h;·simp at h))
    omega
  by_cases s:op=7
  · subst s;simp[dR,di,dh,dC,dG,dx,bH,cZ,bU,bT,bQ,Bool.cond_eq_ite]at h;simp[qH,sO];split at h
    · simp at h
    split at h
    · simp at h
    obtain⟨p,hp,h⟩:=aC h
    (repeat (split at h;·simp at h))
    refine⟨by omega,⟨p,hp,by omega⟩,fun x o=>Wz R args h x o⟩
  by_cases l:op=8
  · subst l;simp[dR,di,dh,dC,dG,dx,bH,cZ,bU,bT,bQ,Bool.cond_eq_ite]at h;simp[qH,sO]
    (repeat (split at h;·simp at h))
    omega
  by_cases g:op=9
  · subst g;simp[dR,di,dh,dC,dG,dx,bH,cZ,bU,bT,bQ,Bool.cond_eq_ite]at h;simp[qH,sO]
    (repeat (split at h;·simp at h))
    omega
  by_cases d:op=10
  · subst d;simp[qH,sO]
  by_cases b:op=11
  · subst b;simp[dR,di,dh,dC,dG,dx,bH,cZ,bU,bT,bQ,Bool.cond_eq_ite]at h;simp[qH,sO]
    (repeat (split at h;·simp at h))
    omega
  by_cases e:op=12
  · subst e;simp[dR,di,dh,dC,dG,dx,bH,cZ,bU,bT,bQ,Bool.cond_eq_ite]at h;simp[qH,sO]
    (repeat (split at h;·simp at h))
    omega
  by_cases f:op=13
  · subst f;simp[dR,di,dh,dC,dG,dx,bH,cZ,bU,bT,bQ,Bool.cond_eq_ite]at h;simp[qH,sO]
    (repeat (split at h;·simp at h))
    omega
  · exfalso;simp[dR,di,dh,dC,dG,dx,bH,cZ,bU,bT,bQ,Bool.cond_eq_ite, *]at h
structure kU(a:List aX):Prop where
 many:1<=a.length/\a.length<=4
 head:∀(i:Nat) x,a[i]? =some x->(0<=x.params/\x.params<=3)/\(1<=x.regs/\x.params<=x.regs/\x.regs<=40)/\¬(i=0/\x.params≠0)/\sK x
 last:∀x∈a,∃c,idx x.code ((x.code.length:Int)-1)=some c/\(c.op=8\/c.op=12)
 ins:∀x∈a,∀c∈x.code,qH a x.regs x.code.length c
theorem Dq:∀(p:List aX) (j:Nat),heads j p=0->∀(i:Nat) x,p[i]? =some x->zR (j+i) x=0
  |[],j,_,i,x,hx=>by simp at hx
  |y::p,j,h,i,x,hx=>by
    unfold heads at h;split at h
    · rename_i a;exact absurd h a
    · rename_i a;cases i with
      |zero=>simp at hx;subst hx;exact Decidable.not_not.1 a
      |succ i=>rw[show j+(i+1)=(j+1)+i by omega];exact Dq p (j+1) h i x (by simpa using hx)
theorem WA(a:List aX)(x:aX)(k:Unit->Option Int):∀(l:List Ins) (i:Int),gF (eX a x) k i l ()=some 0->k ()=some 0/\∀c∈l,qH a x.regs x.code.length c
  |[],i,h=>⟨h,fun c b=>by cases b⟩
  |y::l,i,h=>by
    have e:gF (eX a x) k i (y::l) ()=eX a x i y () (gF (eX a x) k (i+1) l):=rfl;rw[e]at h;unfold eX at h;obtain⟨z,f,h⟩:=aC h;by_cases d:z=0
    · subst d;rw[dF zq3,cond_false]at h;obtain⟨j,g⟩:=WA a x k l (i+1) h;refine⟨j,fun c b=>?_⟩;rcases List.mem_cons.1 b with rfl|b
      · exact insG_of f
      · exact g c b
    · rw[dT d,cond_true]at h;exact absurd (osi h) d
theorem WB(a:List aX):∀l:List aX,each (jQ a) ny l ()=some 0->∀x∈l,(∃c,idx x.code ((x.code.length:Int)-1)=some c/\(c.op=8\/c.op=12))/\∀c∈x.code,qH a x.regs x.code.length c
  |[],_,x,hx=>by cases hx
  |y::l,h,x,hx=>by
    rw[oW]at h;unfold jQ at h;obtain⟨b,f⟩:=WA a y _ y.code 0 h;unfold nu at b;obtain⟨_,b⟩:=bg b;obtain⟨c,d,b⟩:=aC b;cases e:(decide ((c.op:Int)≠8)&&decide ((c.op:Int)≠12))with
    |true=>rw[e,cond_true]at b;cases b
    |false=>
      rw[e,cond_false]at b;rcases List.mem_cons.1 hx with rfl|hx
      · exact⟨⟨c,d,by simp only[Bool.and_eq_false_iff,decide_eq_false_iff_not,Decidable.not_not]at e;exact e⟩,f⟩
      · exact WB a l b x hx
theorem Dr{a:List aX}(h:SS a=0):kU a:=by
  have b:=Rm a;rw[h]at b;unfold mg at b;generalize k:(decide (((a.length:Int):Int)=0)||decide ((4:Int)<(a.length:Int)))=C at b;cases C with
  |true=>cases b
  |false=>
    simp only[Bool.or_eq_false_iff,decide_eq_false_iff_not]at k;have j:gF jR (lU a) 0 a ()=_:=I9 (lU a) a 0;rw[cond_false,j]at b;by_cases d:heads 0 a=0
    · rw[if_neg V]at b;have e:=WB a a b;refine⟨by omega,fun i x c=>?_,fun x c=>(e x c).1,fun x c=>(e x c).2⟩;have:=Dq a 0 d i x c;rw[Nat.zero_add]at this;unfold zR at this;split at this
      · rename_i g;split at this
        · rename_i f;exact⟨g.1,g.2.1,g.2.2,f⟩
        · cases this
      · cases this
    · rw[if_pos d]at b;exact absurd (osi b) d
theorem AQ{α σ ρ:Type}{body:Int->α->σ->(σ->ρ)->ρ}{k:σ->ρ}(i:Int)(x:α)(l:List α)(s:σ):gF body k i (x::l) s=body i x s (gF body k (i+1) l):=rfl
theorem P5{σ ρ:Type}{body:Int->σ->(σ->ρ)->ρ}{k:σ->ρ}(i:Int)(m:Nat)(s:σ):upto body k i (m+1) s=body i s (upto body k (i+1) m):=rfl
theorem Ja{σ β:Type}{body:σ->(σ->Option β)->Option β}{m:Nat}{s:σ}:again body (m+1) s=body s (again body m):=rfl
def fV(n:Nat)(v:Val):Prop:=(v.kind=0/\v.n=0)\/(v.kind=1/\ -1000000000<=v.n/\v.n<=1000000000)\/(v.kind=2/\0<=v.n/\v.n<n)
instance (n:Nat) (v:Val):Decidable (fV n v):=inferInstanceAs (Decidable (_\/_))
theorem Fy(n:Nat)(v:Val):gV v (n:Int)=0↔fV n v:=by
  obtain⟨k,m⟩:=v;simp only[gV,fV,Bool.cond_eq_ite,Bool.or_eq_true,decide_eq_true_eq];constructor
  · intro h
    (repeat' split at h)<;>first|omega|(exfalso;omega)
  · intro h;rcases h with⟨h1,h2⟩|⟨h1,h2⟩|⟨h1,h2⟩
    · rw[if_pos h1,if_neg V]
    · rw[if_neg V,if_pos h1,if_neg V]
    · rw[if_neg V,if_neg V,if_pos h1,if_neg V]
theorem SV(v:Val)(n:Int):fe v n=gV v n:=by
 obtain⟨k,m⟩:=v;simp only[gV,fe,oU,bB,eZ,aS,Bool.cond_eq_ite,Bool.or_eq_true,Bool.and_eq_true,Bool.not_eq_true',decide_eq_true_eq,decide_eq_false_iff_not,Bool.and_eq_false_iff]
 (repeat' split)<;>first|rfl|(exfalso;omega)
def qh(l:List (List Val)):Prop:=l.length<=24/\∀c∈l,(1<=c.length/\c.length<=4)/\∀v∈c,fV l.length v
theorem SX(a:List (List Val)):mO a=jS a:=by
 unfold mO jS;have c:∀(l:List Val) (f:Unit->Int),each (kP a) (kQ f) l ()=each (jK a) (ja f) l ():=by
  intro l f;induction l with
  |nil=>rfl
  |cons x l ih=>
   show(bif decide ((fe x (a.length:Int):Int)≠0)then fe x (a.length:Int)else each (kP a) (kQ f) l ())=(bif decide ((gV x (a.length:Int):Int)≠0)then gV x (a.length:Int)else each (jK a) (ja f) l ());rw[SV,ih]
 have b:∀l:List (List Val),each (kS a) kT l ()=each (kN a) jL l ():=by
  intro l;induction l with
  |nil=>rfl
  |cons x l ih=>
   show(bif (!(bB (x.length:Int) 1 4))then 2 else each (kP a) (kQ<|each (kS a) kT l) x ())=(bif (decide (((x.length:Int):Int)=0)||decide ((4:Int)<(x.length:Int)))then 2 else each (jK a) (ja<|each (kN a) jL l) x ());have e:(!(bB (x.length:Int) 1 4))=(decide (((x.length:Int):Int)=0)||decide ((4:Int)<(x.length:Int))):=by
    unfold bB;rw[Bool.eq_iff_iff];simp only[Bool.or_eq_true,Bool.not_eq_true',Bool.and_eq_false_iff,decide_eq_true_eq,decide_eq_false_iff_not];omega
   rw[e,c];have:each (kS a) kT l=each (kN a) jL l:=by funext u;exact ih
   rw[this]
 rw[b]
theorem Vn(a:List (List Val)):jS a=0↔qh a:=by
  have d:∀(l:List Val) (f:Unit->Int),each (jK a) (ja f) l ()=0↔(∀v∈l,fV a.length v)/\f ()=0:=by
    intro l f;induction l with
    |nil=>simp[Il,ja]
    |cons x l ih=>
      show(bif decide ((gV x (a.length:Int):Int)≠0)then gV x (a.length:Int)else each (jK a) (ja f) l ())=0↔_;by_cases h:gV x (a.length:Int)=0
      · rw[dF V,cond_false,ih];have:=(Fy _ _).1 h;simp[this]
      · rw[dT h,cond_true];have g:¬fV a.length x:=fun e=>h ((Fy _ _).2 e);simp[h,g]
  have b:∀l:List (List Val),each (kN a) jL l ()=0↔∀c∈l,(1<=c.length/\c.length<=4)/\∀v∈c,fV a.length v:=by
    intro l;induction l with
    |nil=>simp[Il,jL]
    |cons x l ih=>
      show(bif (decide (((x.length:Int):Int)=0)||decide ((4:Int)<(x.length:Int)))then 2 else each (jK a) (ja<|each (kN a) jL l) x ())=0↔_;by_cases h:1<=x.length/\x.length<=4
      · rw[show(decide (((x.length:Int):Int)=0)||decide ((4:Int)<(x.length:Int)))=false by simp only[Bool.or_eq_false_iff,decide_eq_false_iff_not];omega,cond_false,d,ih];simp[h]
      · rw[show(decide (((x.length:Int):Int)=0)||decide ((4:Int)<(x.length:Int)))=true by simp only[Bool.or_eq_true,decide_eq_true_eq];omega,cond_true];simp[h]
  unfold jS qh;by_cases h:a.length<=24
  · rw[dF V,cond_false,b];simp[h]
  · rw[dT V,cond_true];simp[h]
structure Cs(a:List aX)(n:Nat)(f:LX.Frame)(x:aX):Prop where
 proc:idx a f.proc=some x
 at_:0<=f.at_/\f.at_<x.code.length
 regs:(f.regs.length:Int)=x.regs
 vals:∀v∈f.regs,fV n v
def kV(a:List aX)(n:Nat):Int->List LX.Frame->Prop
 |_,[]=>True
 |ahead,f::l=>(∃x,Cs a n f x)/\(0<=f.iN/\f.iN<ahead)/\kV a n f.regs.length l
structure vH(a:List aX)(s:LX.State):Prop where
 status:0<=s.status/\s.status<=3
 bR: -1000000000<=s.bR/\s.bR<=1000000000
 stay:s.status≠3->s.bR=0
 ended:s.status=1↔s.frames=[]
 many:s.frames.length<=10
 cells:qh s.cells
 frames:kV a s.cells.length 1 s.frames
def ahead(pre:List LX.Frame):Int:=match pre.getLast? with|none=>1|some f=>f.regs.length
theorem P6:ahead []=1:=rfl
theorem H5(pre:List LX.Frame)(f:LX.Frame):ahead (pre++[f])=f.regs.length:=by simp[ahead]
theorem KE(b:LX.State)(f:LX.Frame)(c:Unit->Option Int)(a:Int->Option Int)(hn:c ()=a f.regs.length):∀l:List Val,each (qX b) (qY c) l ()=each (nX b) (nY a f) l ()
 |[]=>hn
 |x::l=>by
  show(bif decide ((gV x (b.cells.length:Int):Int)≠0)then some (gV x (b.cells.length:Int))else each (qX b) (qY c) l ())=(bif decide ((fe x (b.cells.length:Int):Int)≠0)then some (fe x (b.cells.length:Int))else each (nX b) (nY a f) l ());rw[SV,KE b f c a hn l]
theorem SY(b:LX.State)(a:Unit->Option Int)(Q:Prop)(hn:∃y,a ()=some y/\(y=0↔Q)):∀l:List Val,∃y,each (qX b) (qY a) l ()=some y/\(y=0↔(∀v∈l,fV b.cells.length v)/\Q)
  |[]=>by obtain⟨y,c,d⟩:=hn;exact⟨y,c,by simp[d]⟩
  |x::l=>by
    obtain⟨y,c,d⟩:=SY b a Q hn l;have e:each (qX b) (qY a) (x::l) ()=(bif decide ((gV x (b.cells.length:Int):Int)≠0)then some (gV x (b.cells.length:Int))else each (qX b) (qY a) l ()):=rfl;rw[e];by_cases h:gV x (b.cells.length:Int)=0
    · rw[dF V,cond_false];have:=(Fy _ _).1 h;exact⟨y,c,by rw[d];simp[this]⟩
    · rw[dT h,cond_true];refine⟨_,Z,?_⟩;have f:¬fV b.cells.length x:=fun e=>h ((Fy _ _).2 e);simp[h,f]
theorem Lb(a:List aX)(b:LX.State)(m:b.frames.length<=10):∀(l pre:List LX.Frame),b.frames=pre++l->
    gF (xS a b) Am (pre.length:Int) l ()=each (gH a b) jr l (ahead pre)
  |[],pre,h=>rfl
  |f::l,pre,h=>by
    have e:=Lb a b m l (pre++[f]) (by simpa using h);rw[H5]at e;have n:(((pre++[f]).length:Nat):Int)=(pre.length:Int)+1:=by simp
    rw[n]at e;rw[AQ,oW];generalize gF (xS a b) Am ((pre.length:Int)+1) l=K1 at e⊢;generalize each (gH a b) jr l=K2 at e⊢;unfold xS gH;have o:pre.length<=10:=by have:=congrArg List.length h;simp at this;omega
    have k:(decide ((f.proc:Int)<0)||decide (((a.length:Int):Int)<=f.proc))= !aS f.proc (a.length:Int):=lv _ _;rw[k];cases hp:aS f.proc (a.length:Int)with
    |false=>rfl
    |true=>
      simp only[Bool.not_true,cond_false];cases hx:idx a f.proc with
      |none=>rfl
      |some x=>
        simp only[bnd];cases ha:aS f.at_ (x.code.length:Int)with
        |false=>
          rw[show(((decide ((f.at_:Int)<0)||decide (((x.code.length:Int):Int)<=f.at_))||decide ((f.iN:Int)<0))||(decide ((pre.length:Int)=0)&&decide ((f.iN:Int)≠0)))=true by
            have:=lv f.at_ (x.code.length:Int);rw[ha]at this;rw[this];rfl]
          rfl
        |true=>
          have j:=lv f.at_ (x.code.length:Int);rw[ha]at j;rw[j];simp only[Bool.not_true,Bool.false_or,cond_false];have i:∀t,uR f x b K1 t=iF a f b K2 t:=by
            intro t;unfold uR iF;rw[hx,bnd,KE b f _ _ e]
          simp only[i];rcases List.eq_nil_or_concat pre with rfl|⟨q,g,rfl⟩
          · rw[P6];by_cases c:f.iN=0
            · rw[show(decide ((f.iN:Int)<0)||(decide ((([]:List LX.Frame).length:Int)=0)&&decide ((f.iN:Int)≠0)))=false by simp[c],cond_false,dF zq3,cond_false,show(!aS f.iN 1)=false by simp[c,aS]]
            · rw[show(decide ((f.iN:Int)<0)||(decide ((([]:List LX.Frame).length:Int)=0)&&decide ((f.iN:Int)≠0)))=true by simp[c],cond_true,show(!aS f.iN 1)=true by simp[aS];omega]
          · rw[List.concat_eq_append]at*;rw[H5];have d:((q++[g]).length:Int)=(q.length:Int)+1:=by simp
            rw[d,show(decide ((q.length:Int)+1=0))=false from dF V,Bool.false_and,Bool.or_false];by_cases c:f.iN<0
            · rw[dT c,cond_true,show(!aS f.iN (g.regs.length:Int))=true by simp[aS];omega]
            · rw[dF c,cond_false,dT V,cond_true,gI V (by simp at o;omega),show(q.length:Int)+1-1=((q.length:Nat):Int) by omega,pF,h];simp only[List.append_assoc,List.getElem?_append_right (Nat.le_refl _),Nat.sub_self,List.cons_append,List.nil_append,List.getElem?_cons_zero,bnd];congr 1;rw[Bool.eq_iff_iff];simp[aS];omega
theorem NR(a:List aX)(b:LX.State):AY a b=ry a b:=by
  unfold AY ry;have f:(((decide ((b.status:Int)<0)||decide ((3:Int)<b.status))||decide ((b.bR:Int)< -1000000000))||decide ((1000000000:Int)<b.bR))=((!(bB b.status 0 3))||(!(eZ b.bR))):=by
    unfold eZ bB;rw[Bool.eq_iff_iff];simp only[Bool.or_eq_true,Bool.not_eq_true',Bool.and_eq_false_iff,decide_eq_true_eq,decide_eq_false_iff_not];omega
  have e:((decide ((b.status:Int)≠3)&&decide ((b.bR:Int)≠0))||(decide ((b.status:Int)=1) !=decide (((b.frames.length:Int):Int)=0)))=(((decide ((b.bR:Int)≠0)&&decide ((b.status:Int)≠3))||(decide ((b.status:Int)=1)&&decide ((0:Int)<(b.frames.length:Int))))||(decide ((b.status:Int)≠1)&&decide (((b.frames.length:Int):Int)=0))):=by
    by_cases d:b.status=1<;>by_cases i:b.frames.length=0<;>by_cases c:b.status=3<;>by_cases g:b.bR=0<;>simp[d,i,c,g]<;>omega
  rw[f,e,SX];by_cases h:b.frames.length<=10
  · have:=Lb a b h b.frames [] Z;rw[P6]at this;rw[<-this];rfl
  · rw[show(decide ((10:Int)<(b.frames.length:Int)))=true from dT V];rfl
theorem NS(a:List aX)(b:LX.State):∀(l:List LX.Frame) (t:Int),∃y,each (gH a b) jr l t=some y/\(y=0↔kV a b.cells.length t l)
  |[],t=>⟨0,rfl,by simp[kV]⟩
  |f::l,t=>by
    obtain⟨y,m,p⟩:=NS a b l f.regs.length;rw[oW];generalize each (gH a b) jr l=K2 at m⊢;unfold gH;cases hp:aS f.proc (a.length:Int)with
    |false=>
      refine⟨5,Z,?_⟩;have:¬kV a b.cells.length t (f::l):=by
        rintro⟨⟨x,g⟩,-,-⟩;have:=aD g.proc;have j:=(List.getElem?_eq_some_iff.1 this.2).1;unfold aS at hp;simp only[Bool.and_eq_false_iff,decide_eq_false_iff_not]at hp;omega
      simp[this]
    |true=>
      unfold aS at hp;simp only[Bool.and_eq_true,decide_eq_true_eq]at hp;simp only[Bool.not_true,cond_false];obtain⟨n,hn⟩:=Int.eq_ofNat_of_zero_le hp.1;have e:idx a f.proc=some (a[n]'V):=by rw[hn,oJ V]
      generalize a[n]'V=x at e;rw[e,bnd];have kB:∃y,iF a f b K2 true=some y/\y≠0:=⟨3,Z,by decide⟩;have c:∀z,Cs a b.cells.length f z->z=x:=fun z g=>by have:=g.proc;rw[e]at this;exact(osi this).symm
      cases ha:aS f.at_ (x.code.length:Int)with
      |false=>
        obtain⟨y,i,d⟩:=kB;refine⟨y,i,?_⟩;have:¬kV a b.cells.length t (f::l):=by
          rintro⟨⟨z,g⟩,-,-⟩;have:=c z g;subst this;have:=g.at_;unfold aS at ha;simp only[Bool.and_eq_false_iff,decide_eq_false_iff_not]at ha;omega
        simp[this,d]
      |true=>
        simp only[Bool.not_true,cond_false];cases ht:aS f.iN t with
        |false=>
          obtain⟨y,i,d⟩:=kB;refine⟨y,i,?_⟩;have:¬kV a b.cells.length t (f::l):=by
            rintro⟨⟨z,g⟩,j,-⟩;unfold aS at ht;simp only[Bool.and_eq_false_iff,decide_eq_false_iff_not]at ht;omega
          simp[this,d]
        |true=>
          simp only[Bool.not_true];unfold iF;rw[e,cond_false,bnd];unfold aS at ha ht;simp only[Bool.and_eq_true,decide_eq_true_eq]at ha ht;by_cases k:(f.regs.length:Int)=x.regs
          · rw[dF V,cond_false,<-KE b f (fun _=>K2 f.regs.length) _ rfl];obtain⟨z,i,d⟩:=SY b (fun _=>K2 f.regs.length) _ ⟨y,m,p⟩ f.regs;refine⟨z,i,d.trans ⟨fun h=>⟨⟨x,e,ha,k,h.1⟩,ht,h.2⟩,?_⟩⟩;rintro⟨⟨z,g⟩,j,o⟩;exact⟨g.vals,o⟩
          · rw[dT V,cond_true];refine⟨4,Z,?_⟩;have:¬kV a b.cells.length t (f::l):=by
              rintro⟨⟨z,g⟩,-,-⟩;have:=c z g;subst this;exact k g.regs
            simp[this]
theorem NT(a:List aX)(b:LX.State):∃y,AY a b=some y/\(y=0↔vH a b):=by
  rw[NR];unfold ry;cases c1:((!(bB b.status 0 3))||(!(eZ b.bR)))with
  |true=>
    refine⟨3,Z,⟨fun h=>absurd h zq1,fun h=>?_⟩⟩;unfold eZ bB at c1;simp only[Bool.or_eq_true,Bool.not_eq_true',Bool.and_eq_false_iff,decide_eq_false_iff_not]at c1;have:=h.status;have:=h.bR;omega
  |false=>
    unfold eZ bB at c1;simp only[Bool.or_eq_false_iff,Bool.not_eq_false',Bool.and_eq_true,decide_eq_true_eq]at c1;rw[cond_false];cases c2:(((decide ((b.bR:Int)≠0)&&decide ((b.status:Int)≠3))||(decide ((b.status:Int)=1)&&decide ((0:Int)<(b.frames.length:Int))))||(decide ((b.status:Int)≠1)&&decide (((b.frames.length:Int):Int)=0)))with
    |true=>
      refine⟨4,Z,⟨fun h=>absurd h zq1,fun h=>?_⟩⟩;simp only[Bool.or_eq_true,Bool.and_eq_true,decide_eq_true_eq]at c2;rcases c2 with(c2|c2)|c2
      · exact absurd (h.stay c2.2) c2.1
      · have:=h.ended.1 c2.1;rw[this]at c2;simp at c2
      · exact absurd (h.ended.2<|List.eq_nil_of_length_eq_zero V) c2.1
    |false=>
      simp only[Bool.or_eq_false_iff,Bool.and_eq_false_iff,decide_eq_false_iff_not]at c2;rw[cond_false];by_cases e:b.frames.length<=10
      · rw[dF V,cond_false,SX];by_cases c:jS b.cells=0
        · rw[dF V,cond_false];obtain⟨y,f,g⟩:=NS a b b.frames 1;refine⟨y,f,g.trans ⟨fun h=>⟨by omega,by omega,fun d=>by omega,⟨fun d=>?_,fun d=>?_⟩,e,(Vn _).1 c,h⟩,fun h=>h.frames⟩⟩
          · exact List.eq_nil_of_length_eq_zero V
          · rw[d]at c2;simp at c2;omega
        · rw[dT c,cond_true];exact⟨_,Z,⟨fun h=>absurd h c,fun h=>absurd ((Vn _).2 h.cells) c⟩⟩
      · rw[dT V,cond_true];exact⟨2,Z,⟨fun h=>absurd h zq1,fun h=>absurd h.many e⟩⟩
def ckS(a:List aX)(s:LX.State):Int:=(AY a s).getD 0
theorem ckS_eq(a:List aX)(s:LX.State):AY a s=some (ckS a s):=by obtain⟨y,h,-⟩:=NT a s;unfold ckS;rw[h];rfl
theorem Rn{a:List aX}{s:LX.State}:ckS a s=0↔vH a s:=by obtain⟨y,h,b⟩:=NT a s;unfold ckS;rw[h];exact b
theorem Lc(a:List aX)(s:LX.State):CW a s=some (if SS a≠0 then SS a else ckS a s):=by
  unfold CW;rw[Rm,bnd];by_cases h:SS a=0
  · rw[dF V,cond_false,ckS_eq,bnd,if_neg V]
  · rw[dT h,cond_true,if_pos h]
structure Small(s:LX.State):Prop where
 frames:s.frames.length<=10
 regs:∀f∈s.frames,f.regs.length<=40
 cells:s.cells.length<=24
 fields:∀c∈s.cells,c.length<=4
theorem yf{a:List aX}{n:Nat}:∀{l:List LX.Frame} {t:Int},kV a n t l->∀f∈l,∃x,Cs a n f x
  |[],_,_,f,hf=>by cases hf
  |g::l,t,h,f,hf=>by
    rcases List.mem_cons.1 hf with rfl|hf
    · exact h.1
    · exact yf h.2.2 f hf
theorem kU.mem{a:List aX}(h:kU a){k:Int}{x:aX}(c:idx a k=some x):x∈a/\(0<=x.params/\x.params<=3)/\(1<=x.regs/\x.params<=x.regs/\x.regs<=40)/\sK x:=by
 have b:=(aD c).2;have:=h.head _ x b;exact⟨List.mem_of_getElem? b,this.1,this.2.1,this.2.2.2⟩
theorem vH.small{a:List aX}{s:LX.State}(h:vH a s)(ha:kU a):Small s where
 frames:=h.many
 regs f hf:=by
  obtain⟨x,g⟩:=yf h.frames f hf;have:=(ha.mem g.proc).2.2.1;have:=g.regs;omega
 cells:=h.cells.1
 fields c hc:=(h.cells.2 c hc).1.2
theorem Jb{α:Type}{b:Nat}{a:List α}(h:a.length<=400)(c:b<=48):clone b a=some a:=by
 have:a.length*b<=400*48:=Nat.mul_le_mul h c;unfold clone;exact uY ⟨by simp;omega,by simp;omega⟩
theorem KF{ρ:Type}{body:Int->Unit->(Unit->ρ)->ρ}{k:Unit->ρ}:∀(m:Nat) (i:Nat),(∀j:Nat,i<=j->j<i+m->∀a,body (j:Int) () a=a ())->upto body k (i:Int) m ()=k ()
 |0,i,_=>rfl
 |m+1,i,h=>by
  rw[P5,h i (Nat.le_refl _) V,show((i:Int)+1)=((i+1:Nat):Int) by omega];exact KF m (i+1) fun j c b=>h j V V
theorem S9{l:List (List Val)}(h:l.length<=24)(a:∀c∈l,c.length<=4):FT l=some l:=by
 unfold FT;rw[Jb V zq1,bnd,Int.toNat_natCast];exact KF (k:=Eb l) l.length 0 (fun j b d e=>by
  unfold Ea;rw[oJ V,bnd,Jb (by have:=a _ (List.getElem_mem (by omega:j<l.length));omega) zq1,bnd])
theorem copy_eq{s:LX.State}(h:Small s):Ec s=some s:=by
 unfold Ec;rw[Jb (by have:=h.frames;omega) zq1,bnd,S9 h.cells h.fields,bnd];unfold GX;rw[Int.toNat_natCast];exact KF (k:=GV s s.cells) s.frames.length 0 (fun j a b c=>by
  unfold GU;rw[oJ V,bnd,Jb (by have:=h.regs _ (List.getElem_mem (by omega:j<s.frames.length));omega) zq1,bnd])
theorem room_le{α:Type}{a:Nat}{l m:List α}(h:l.length+m.length<=100000)(b:a<=48):Room a l m:=by
 have:(l.length+m.length)*a<=100000*48:=Nat.mul_le_mul h b;exact⟨by omega,by omega⟩
def OV(l:List Int)(v:Val):List Int:=if v.kind=2/\v.n∉l then l++[v.n]else l
def NU(l:List Int)(vs:List Val):List Int:=vs.foldl OV l
def cellAt(cells:List (List Val))(k:Int):List Val:=(idx cells k).getD []
def WE(cells:List (List Val)):Nat->Nat->List Int->List Int
 |0,_,l=>l
 |m+1,k,l=>if h:k<l.length then WE cells m (k+1) (NU l (cellAt cells l[k]))else l
def H6(cells:List (List Val))(vs:List Val):List Int:=WE cells 25 0 (NU [] vs)
theorem P7(l:List Int)(v:Val)(vs:List Val):NU l (v::vs)=NU (OV l v) vs:=rfl
theorem metV_pre(l:List Int)(v:Val):l<+:OV l v:=by
  unfold OV;split
  · exact List.prefix_append _ _
  · exact List.prefix_refl _
theorem Fz:∀(vs:List Val) (l:List Int),l<+:NU l vs
 |[],l=>List.prefix_refl _
 |v::vs,l=>(metV_pre l v).trans (Fz vs _)
theorem WG(cells:List (List Val)):∀(m k:Nat) (l:List Int),l<+:WE cells m k l
  |0,_,l=>List.prefix_refl _
  |m+1,k,l=>by
    unfold WE;split
    · exact(Fz _ _).trans<|WG cells m _ _
    · exact List.prefix_refl _
theorem P8:∀(n:Nat) (l:List Int),l.Nodup->(∀x∈l,0<=x/\x<n)->l.length<=n
  |0,l,_,h=>by
    cases l with
    |nil=>simp
    |cons x l=>have:=h x zq3;omega
  |n+1,l,hn,h=>by
    have d:=P8 n (l.erase (n:Int)) (hn.erase _) (fun x b=>by
      have a:=(hn.mem_erase_iff).1 b;have:=h x a.2;have c:=a.1;constructor
      · omega
      · push_cast at this;omega)
    have e:l.length<=(l.erase (n:Int)).length+1:=by rw[List.length_erase];split<;>omega
    omega
def sM(n:Nat)(l:List Int):Prop:=l.Nodup/\∀x∈l,0<=x/\x<n
theorem sM.len{n:Nat}{l:List Int}(h:sM n l):l.length<=n:=P8 n l h.1 h.2
theorem sM.nil{n:Nat}:sM n []:=⟨List.nodup_nil,fun x a=>by cases a⟩
theorem fV.ref{n:Nat}{v:Val}(h:fV n v)(a:v.kind=2):0<=v.n/\v.n<n:=by unfold fV at h;omega
theorem sM.v{n:Nat}{l:List Int}(h:sM n l){v:Val}(g:fV n v):sM n (OV l v):=by
  unfold OV;split
  · rename_i f;refine⟨List.nodup_append.2 ⟨h.1,by simp,fun a i b d=>?_⟩,fun x c=>?_⟩
    · simp at d;subst d;intro e;subst e;exact f.2 i
    · rcases List.mem_append.1 c with c|c
      · exact h.2 x c
      · simp at c;subst c;exact g.ref f.1
  · exact h
theorem sM.l{n:Nat}:∀{vs:List Val} {l:List Int},sM n l->(∀v∈vs,fV n v)->sM n (NU l vs)
 |[],l,h,_=>h
 |v::vs,l,h,hv=>sM.l (vs:=vs) (l:=OV l v) (h.v (hv v zq3)) (fun w a=>hv w (List.mem_cons_of_mem _ a))
theorem Ej{cells:List (List Val)}{k:Int}(h:0<=k/\k<cells.length):idx cells k=some (cellAt cells k)/\cellAt cells k∈cells:=by
 obtain⟨n,rfl⟩:=Int.eq_ofNat_of_zero_le h.1;unfold cellAt;rw[oJ V];exact⟨Z,List.getElem_mem _⟩
theorem qh.at{cells:List (List Val)}(h:qh cells){k:Int}(a:0<=k/\k<cells.length):(1<=(cellAt cells k).length/\(cellAt cells k).length<=4)/\∀v∈cellAt cells k,fV cells.length v:=h.2 _ (Ej a).2
theorem sM.WE{cells:List (List Val)}(a:qh cells):∀{m k:Nat} {l:List Int},sM cells.length l->sM cells.length (WE cells m k l)
  |0,_,l,h=>h
  |m+1,k,l,h=>by
    unfold Proofs.YtcbdckebgjdlhaaGreatDoor.WE;split
    · rename_i b;exact sM.WE a<|h.l (a.at<|h.2 _<|List.getElem_mem b).2
    · exact h
def rz(vs:List Val)(l:List Int):Prop:=∀v∈vs,v.kind=2->v.n∈l
theorem rz.pre{vs:List Val}{l m:List Int}(h:rz vs l)(hp:l<+:m):rz vs m:=fun v a b=>hp.subset (h v a b)
theorem metV_in(l:List Int)(v:Val)(a:v.kind=2):v.n∈OV l v:=by
  unfold OV;split
  · simp
  · rename_i b;exact Decidable.not_not.1 fun h=>b ⟨a,h⟩
theorem Ro:∀(vs:List Val) (l:List Int),rz vs (NU l vs)
  |[],l,v,hv,_=>by cases hv
  |w::vs,l,v,hv,hk=>by
    rw[P7];rcases List.mem_cons.1 hv with rfl|hv
    · exact(Fz vs _).subset<|metV_in l v hk
    · exact Ro vs _ v hv hk
theorem bfs_in{cells:List (List Val)}(d:qh cells):∀{m k:Nat} {l:List Int},sM cells.length l->cells.length<k+m->(∀j (a:j<l.length),j<k->rz (cellAt cells l[j]) l)->∀x∈WE cells m k l,rz (cellAt cells x) (WE cells m k l)
  |0,k,l,h,hm,a,x,hx=>by
    have:=h.len;obtain⟨j,b,rfl⟩:=List.getElem_of_mem hx;exact a j b (by have f:j<l.length:=b;omega)
  |m+1,k,l,h,hm,a,x,hx=>by
    unfold Proofs.YtcbdckebgjdlhaaGreatDoor.WE at hx⊢;split at hx
    · rename_i c;rw[dif_pos c];have i:=(d.at<|h.2 _<|List.getElem_mem c).2;have hp:=Fz (cellAt cells l[k]) l;refine bfs_in d (h.l i) V (fun j b o=>?_) x hx;by_cases e:j<l.length
      · have g:(NU l<|cellAt cells l[k])[j]=l[j]:=(hp.getElem e).symm;rw[g];by_cases n:j<k
        · exact(a j e n).pre hp
        · have:j=k:=by omega
          subst this;exact Ro _ _
      · omega
    · rename_i c;rw[dif_neg c];obtain⟨j,b,rfl⟩:=List.getElem_of_mem hx;exact a j b V
theorem reach_ok{cells:List (List Val)}(a:qh cells){vs:List Val}(c:∀v∈vs,fV cells.length v):sM cells.length (H6 cells vs)/\rz vs (H6 cells vs)/\∀x∈H6 cells vs,rz (cellAt cells x) (H6 cells vs):=by
 have b:sM cells.length (NU [] vs):=sM.nil.l c;refine⟨sM.WE a b,(Ro vs []).pre (WG _ _ _ _),bfs_in a b (by have:=a.1;omega) (fun j e d=>absurd d (Nat.not_lt_zero _))⟩
theorem Rp{α:Type}(k a:Int)(v:α):∀l:List (Int×α),lk k (DN a v l)=if k=a then some v else lk k l
  |[]=>by unfold DN lk;by_cases h:k=a<;>simp[h,lk]
  |p::l=>by
    unfold DN;by_cases h:a=p.1
    · rw[if_pos h];show(if k=p.1 then some v else lk k l)=if k=a then some v else(if k=p.1 then some p.2 else lk k l)
      by_cases e:k=p.1
      · rw[if_pos e,if_pos V]
      · rw[if_neg e,if_neg V,if_neg e]
    · rw[if_neg h];show(if k=p.1 then some p.2 else lk k (DN a v l))=if k=a then some v else(if k=p.1 then some p.2 else lk k l)
      by_cases e:k=p.1
      · rw[if_pos e,if_pos e,if_neg V]
      · rw[if_neg e,if_neg e,Rp k a v l]
def Seen(l:List Int)(m:List (Int×Bool)):Prop:=∀k,(lk k m).getD false=decide (k∈l)
theorem Seen.nil:Seen [] []:=fun k=>rfl
theorem Seen.put{l:List Int}{m:List (Int×Bool)}(h:Seen l m)(n:Int):Seen (l++[n]) (DN n true m):=by
  intro k;rw[Rp];by_cases e:k=n
  · simp[e]
  · rw[if_neg e,h k,Bool.eq_iff_iff];simp[e]
theorem Jc{ρ:Type}{body:Val->List Int×List (Int×Bool)->(List Int×List (Int×Bool)->Option ρ)->Option ρ}{K:List Int×List (Int×Bool)->Option ρ}
    (b:∀x l m c,l.length<=1000->body x (l,m) c=bif (decide (x.kind=2)&&(!((lk x.n m).getD false)))then c (l++[x.n],DN x.n true m)else c (l,m)):
    ∀(vs:List Val) (l:List Int) (m:List (Int×Bool)),Seen l m->l.length+vs.length<=1000->∃m',Seen (NU l vs) m'/\each body K vs (l,m)=K (NU l vs,m')
  |[],l,m,h,_=>⟨m,h,rfl⟩
  |v::vs,l,m,h,hl=>by
    simp only[List.length_cons]at hl;rw[oW,b v l m _ V,h v.n,P7];unfold OV;by_cases a:v.kind=2/\v.n∉l
    · rw[if_pos a,dT a.1,dF a.2,Bool.true_and,Bool.not_false,cond_true];exact Jc b vs _ _ (h.put v.n) (by simp;omega)
    · rw[if_neg a,show(decide (v.kind=2)&& !decide (v.n∈l))=false by rw[Bool.and_eq_false_iff];simp;simp only[not_and,Decidable.not_not]at a;by_cases e:v.kind=2<;>simp[e,a],cond_false];exact Jc b vs _ _ h V
theorem Ta{cells:List (List Val)}(b:qh cells):∀(m N k:Nat) (l:List Int) (s:List (Int×Bool)),sM cells.length l->Seen l s->cells.length<k+m->m<N->k<=l.length->again (nW cells) N ((k:Int),l,s)=some (WE cells m k l,0)
  |m,0,k,l,s,h,hs,hm,hN,hk=>by omega
  |0,N+1,k,l,s,h,hs,hm,hN,hk=>by have:=h.len;omega
  |m+1,N+1,k,l,s,h,hs,hm,hN,hk=>by
    rw[Ja];unfold nW Proofs.YtcbdckebgjdlhaaGreatDoor.WE;simp only;have p:=h.len;have hn:=b.1;by_cases a:k<l.length
    · rw[dT V,cond_true,oJ a,bnd,dif_pos a];have g:=h.2 _<|List.getElem_mem a;have f:=b.at g;rw[(Ej g).1,bnd];have i:(fun(s:Int×List Int×List (Int×Bool))(j:Int×List Int×List (Int×Bool)->Option (List Int×Int))=>match s with|(d,uO,yQ)=>bif decide ((d:Int)<(uO.length:Int))then(idx uO d).bind fun c=>(idx cells c).bind fun e=>each uh (ui d j) e (uO,yQ)else some (uO,0))=nW cells:=rfl;rw[i];obtain⟨q,r,o⟩:=Jc (body:=uh) (K:=ui (k:Int) (again (nW cells) N)) (fun x l m t p=>by
        unfold uh;simp only[xV];cases (decide (x.kind=2)&&(!((lk x.n m).getD false)))with
        |false=>rfl
        |true=>rw[cond_true,cond_true,uY (room_le (by simp;omega) zq1)]) (cellAt cells l[k]) l s hs (by have:=f.1.2;omega)
      rw[o];unfold ui;simp only;rw[gI V V];have hp:=(Fz (cellAt cells l[k]) l).length_le;exact Ta b m N (k+1) _ q (h.l f.2) r V V V
    · rw[dF V,cond_false,dif_neg a]
theorem reach_eq{N:Nat}(j:100<=N){cells:List (List Val)}(b:qh cells){vs:List Val}(a:∀v∈vs,fV cells.length v)(g:vs.length<=400):Ee N cells vs=some (H6 cells vs,0):=by
 unfold Ee;rw[(Vn cells).2 b,dF zq3,cond_false,dF V,cond_false];have c:∀l:List Val,(∀v∈l,fV cells.length v)->each (xX cells) (uj N cells vs) l ()=uj N cells vs ():=by
  intro l;induction l with
  |nil=>intro _;rfl
  |cons x l ih=>
   intro h;rw[oW];unfold xX;rw[(Fy _ _).2 (h x zq3),dF zq3,cond_false];exact ih fun v a=>h v<|List.mem_cons_of_mem _ a
 rw[c vs a];unfold uj;obtain⟨e,f,d⟩:=Jc (body:=xW) (K:=AZ N cells) (fun x l m i g=>by
  unfold xW;simp only[xU];cases (decide (x.kind=2)&&(!((lk x.n m).getD false)))with
  |false=>rfl
  |true=>rw[cond_true,cond_true,uY (room_le (by simp;omega) zq1)]) vs [] [] Seen.nil (by simp;omega)
 rw[d];exact Ta b 25 N 0 _ e (sM.nil.l a) f (by have:=b.1;omega) V V
def ren(l:List Int)(v:Val):Val:=if v.kind=2 then⟨v.kind,(l.idxOf v.n:Nat)⟩else v
def NV(l:List Int)(f:LX.Frame):LX.Frame:={f with regs:=f.regs.map (ren l)}
def roots(a:List LX.Frame):List Val:=a.flatMap (·.regs)
def zS(s:LX.State):List Int:=H6 s.cells (roots s.frames)
def uA(s:LX.State):LX.State:=⟨s.frames.map (NV (zS s)),(zS s).map (fun k=>(cellAt s.cells k).map (ren (zS s))),s.status,s.bR⟩
structure NW(s:LX.State):Prop where
 small:Small s
 cells:qh s.cells
 vals:∀f∈s.frames,∀v∈f.regs,fV s.cells.length v
theorem vH.sw{a:List aX}{s:LX.State}(h:vH a s)(ha:kU a):NW s where
 small:=h.small ha
 cells:=h.cells
 vals f hf:=by obtain⟨x,g⟩:=yf h.frames f hf;exact g.vals
theorem NW.roots{s:LX.State}(h:NW s):∀v∈roots s.frames,fV s.cells.length v:=by
 intro v a;unfold YtcbdckebgjdlhaaGreatDoor.roots at a;obtain⟨f,b,a⟩:=List.mem_flatMap.1 a;exact h.vals f b v a
theorem YL(a:List LX.Frame)(h:∀f∈a,f.regs.length<=40):(roots a).length<=40*a.length:=by
 induction a with
 |nil=>simp[roots]
 |cons f l ih=>
  have:=h f zq3;have:=ih fun g b=>h g<|List.mem_cons_of_mem _ b;unfold roots at*;rw[List.flatMap_cons,List.length_append,List.length_cons];omega
theorem NW.rlen{s:LX.State}(h:NW s):(YtcbdckebgjdlhaaGreatDoor.roots s.frames).length<=400:=by
 have:=YL s.frames h.small.regs;have:=h.small.frames;omega
theorem NW.reach{s:LX.State}(h:NW s):sM s.cells.length (zS s)/\rz (YtcbdckebgjdlhaaGreatDoor.roots s.frames) (zS s)/\∀x∈zS s,rz (cellAt s.cells x) (zS s):=reach_ok h.cells h.roots
theorem Tc{α ρ:Type}{body:Int->List α->(List α->Option ρ)->Option ρ}{K:List α->Option ρ}{g:α->α}{P:α->Prop}
  (e:∀(i:Nat) (x:List α) a nx,x[i]? =some a->P a->body (i:Int) x nx=nx (x.set i (g a))):
  ∀(d c:List α),(∀a∈d,P a)->upto body K (c.length:Int) d.length (c++d)=K (c++d.map g)
 |[],c,_=>by simp[upto]
 |a::d,c,h=>by
  rw[List.length_cons,P5,e c.length (c++a::d) a _ zq3 (h a zq3)];have:=Tc (K:=K) e d (c++[g a]) fun b e=>h b<|List.mem_cons_of_mem _ e;rw[show(c++a::d).set c.length (g a)=(c++[g a])++d by simp,show((c.length:Int)+1)=((c++[g a]).length:Nat) by simp,this];simp
theorem KG{α ρ:Type}{body:Int->List α->(List α->Option ρ)->Option ρ}{K:List α->Option ρ}{g:α->α}{P:α->Prop}
  (b:∀(i:Nat) (x:List α) a nx,x[i]? =some a->P a->body (i:Int) x nx=nx (x.set i (g a))) (l:List α) (hp:∀a∈l,P a):upto body K 0 l.length l=K (l.map g):=by
 have:=Tc (K:=K) b l [] hp;simpa using this
def NY(l:List Int)(m:List (Int×Int)):Prop:=∀k,lk k m=if k∈l then some ((l.idxOf k:Nat):Int)else none
theorem WI{l:List Int}{m:List (Int×Int)}(h:NY l m)(vs:List Val)(e:rz vs l):M8 vs m=some (vs.map (ren l)):=by
  unfold M8;rw[Int.toNat_natCast];refine KG (P:=fun v=>v.kind=2->v.n∈l) (fun i x a g c hp=>?_) vs fun v d=>e v d;unfold JJ FV;rw[pF,c,bnd];by_cases b:a.kind=2
  · rw[dT b,cond_true,h a.n,if_pos (hp b)];simp[ren,b]
  · rw[dF b,cond_false];have:x.set i a=x:=by
      obtain⟨f,rfl⟩:=List.getElem?_eq_some_iff.1 c;exact List.set_getElem_self f
    simp[ren,b,this]
theorem NZ{s:LX.State}(i:qh s.cells){K:List (List Val)×List Int×List (Int×Int)->Option LX.State}:∀(b a:List Int) (m:List (Int×Int)),sM s.cells.length (a++b)->NY a m->
    ∃m',NY (a++b) m'/\gF (uS s) K (a.length:Int) b (a.map (cellAt s.cells),a,m)=K ((a++b).map (cellAt s.cells),a++b,m')
  |[],a,m,_,h=>⟨m,by simpa using h,by simp[gF]⟩
  |k::b,a,m,hm,h=>by
    have g:a++k::b=(a++[k])++b:=by simp
    have f:k∉a:=by
      intro f;exact(List.nodup_append.1 hm.1).2.2 k f k zq3 Z
    have o:=hm.len;have hn:=i.1;simp only[List.length_append,List.length_cons]at o;have l:=hm.2 k zq3;rw[AQ];obtain⟨m',n,j⟩:=NZ i (K:=K) b (a++[k]) (DN k (a.length:Int) m) (by rw[<-g];exact hm) (fun q=>by
      rw[Rp];by_cases e:q=k
      · subst e;rw[if_pos rfl,if_pos zq3,List.idxOf_append,if_neg f];simp
      · rw[if_neg e,h q];by_cases d:q∈a
        · rw[if_pos d,if_pos (by simp[d]),List.idxOf_append,if_pos d]
        · rw[if_neg d,if_neg (by simp[d,e])])
    refine⟨m',by rw[g];exact n,?_⟩;have c:(((a++[k]).length:Nat):Int)=(a.length:Int)+1:=by simp
    rw[c]at j;rw[g,<-j];generalize gF (uS s) K ((a.length:Int)+1) b=K1;unfold uS;simp only;rw[(Ej l).1,bnd,uY f,uY (room_le (by simp;omega) zq1),List.map_append];rfl
theorem Rq{l:List Int}{m:List (Int×Int)}(h:NY l m)(K:List LX.Frame->Option LX.State)(b:List LX.Frame)(c:∀f∈b,rz f.regs l):upto (Ao m) K 0 b.length b=K (b.map (NV l)):=
 KG (P:=fun f=>rz f.regs l) (fun i x a e d hp=>by
  unfold Ao;rw[pF,d,bnd,WI h a.regs hp,bnd];simp[NV]) b c
theorem Td{l:List Int}{m:List (Int×Int)}(h:NY l m)(K:List (List Val)->Option LX.State)(cs:List (List Val))(b:∀c∈cs,rz c l):upto (Ca m) K 0 cs.length cs=K (cs.map (fun c=>c.map (ren l))):=
 KG (P:=fun c=>rz c l) (fun i x a e d hp=>by
  unfold Ca;rw[pF,d,bnd,WI h a hp,bnd];simp) cs b
theorem P9{K:List Val->Option LX.State}:∀(b:List LX.Frame) (a:List Val),a.length+(roots b).length<=1000->each xZ K b a=K (a++roots b)
 |[],a,_=>by simp[Il,roots]
 |f::b,a,h=>by
  have e:roots (f::b)=f.regs++roots b:=rfl;rw[e,List.length_append]at h;rw[oW];have c:=P9 (K:=K) b (a++f.regs) (by simp;omega);generalize each xZ K b=K1 at c⊢;unfold xZ;rw[uY (room_le V zq1),c,e,List.append_assoc]
theorem Te{a:List LX.Frame}{l:List Int}(h:rz (roots a) l):∀f∈a,rz f.regs l:=fun f c v b d=>h v (List.mem_flatMap.2 ⟨f,c,b⟩) d
theorem sweep_eq{N:Nat}(g:100<=N){s:LX.State}(h:NW s):IW N s=some (uA s):=by
 have a:=h.reach;unfold IW;rw[P9 s.frames [] (by have:=h.rlen;simp;omega),List.nil_append];unfold Eh;rw[reach_eq g h.cells h.roots h.rlen,bnd,dF zq3,cond_false,copy_eq h.small,bnd];have e:H6 s.cells (roots s.frames)=zS s:=rfl;simp only[e];obtain⟨m',b,j⟩:=NZ h.cells (K:=xY s) (zS s) [] [] (by simpa using a.1) (fun k=>by simp[lk]);have d:gF (uS s) (xY s) 0 (zS s) ([],([]:List Int),([]:List (Int×Int)))=_:=j;rw[d];simp only[List.nil_append]at b⊢;unfold xY;simp only[Int.toNat_natCast];rw[Rq b _ _ (Te a.2.1)];unfold Eg;rw[Int.toNat_natCast,Td b _ _ (fun c i=>by
  obtain⟨k,f,rfl⟩:=List.mem_map.1 i;exact a.2.2 k f)]
 unfold Ef uA;rw[List.map_map];rfl
def dP(r:List Val)(i:Int):Val:=(idx r i).getD ⟨0,0⟩
def TM(k:Int)(b c:Val):Option Val:=
 if k=5 then some ⟨1,if b=c then 1 else 0⟩else if b.kind≠1\/c.kind≠1 then none else if k=4 then some ⟨1,if b.n<c.n then 1 else 0⟩else
 let n:=if k=1 then b.n+c.n else if k=2 then b.n-c.n else b.n*c.n
 if-1000000000<=n/\n<=1000000000 then some ⟨1,n⟩else none
def N7(f:LX.Frame)(x:aX):LX.Frame:={f with at_:=min (f.at_+1) ((x.code.length:Int)-1)}
def OW(s:LX.State)(c:Ins):Option LX.State:=
 if s.cells.length=24 then none else some ⟨s.frames.dropLast++(s.frames.getLast?.map fun h=>{h with regs:=h.regs.set c.a.toNat ⟨2,s.cells.length⟩}).toList,s.cells++[List.replicate c.b.toNat ⟨0,0⟩],s.status,s.bR⟩
def iQ(a:List aX)(pre:List LX.Frame)(f:LX.Frame)(cells:List (List Val))(st wh:Int)(x:aX)(c:Ins):Option (LX.State×Option Int×Bool):=
  let g:=N7 f x;let r:=dP f.regs;let put:=fun(v:Val)=>(⟨pre++[{g with regs:=f.regs.set c.a.toNat v}],cells,st,wh⟩:LX.State);let d:=(⟨pre++[g],cells,st,wh⟩:LX.State);let jump:=(⟨pre++[{g with at_:=c.b}],cells,st,wh⟩:LX.State);let e:=fun(v:Val)=>v.kind≠2\/((cellAt cells v.n).length:Int)<=c.c
  if c.op=1 then some (put ⟨1,c.b⟩,none,false)else
  if c.op=2 then some (put (r c.b),none,false)else
  if c.op=3 then(TM (c.args.headD 0) (r c.b) (r c.c)).map fun v=>(put v,none,false)else
  if c.op=4 then(if e (r c.b)then none else some (put (dP (cellAt cells (r c.b).n) c.c),none,false))else
  if c.op=6 then(if e (r c.a)then none else some (⟨pre++[g],cells.set (r c.a).n.toNat ((cellAt cells (r c.a).n).set c.c.toNat (r c.b)),st,wh⟩,none,false))else
  if c.op=5 then(OW (if cells.length=24 then uA d else d) c).map fun t=>(t,none,false)else
  if c.op=7 then(if pre.length+1=10 then none else some (⟨pre++[g]++[⟨c.b,0,c.args.map r++List.replicate (((idx a c.b).map (·.regs)).getD 0-c.args.length).toNat ⟨0,0⟩,c.a⟩],cells,st,wh⟩,none,false))else
  if c.op=8 then some (match pre.getLast? with
    |none=>⟨[],cells,1,wh⟩
    |some h=>⟨pre.dropLast++[{h with regs:=h.regs.set f.iN.toNat (r c.a)}],cells,st,wh⟩,none,false)else
  if c.op=9 then(if(r c.a).kind=1 then some (d,some (r c.a).n,false)else none)else
  if c.op=11 then(if(r c.a).kind=1 then some (⟨pre++[g],cells,3,(r c.a).n⟩,none,true)else none)else
  if c.op=12 then some (jump,none,false)else
  if c.op=13 then some (if(r c.a).kind≠2/\(r c.a).n=0 then jump else d,none,false)else
  some (d,none,true)
def R1(r:Option (GG×Bool×LX.State))(q:Option (LX.State×Option Int×Bool)):Prop:=∃o a b,r=some (o,a,b)/\match q with|none=>a=false|some (t,said,p)=>a=true/\b=t/\o=⟨said.isSome,said.getD 0,p⟩
theorem rR{R:Int}{r:List Val}(b:(r.length:Int)=R){i:Int}(h:sO R i):idx r i=some (dP r i)/\dP r i∈r:=by
 obtain⟨a,c⟩:=h;obtain⟨n,rfl⟩:=Int.eq_ofNat_of_zero_le a;unfold dP;rw[oJ V];exact⟨Z,List.getElem_mem _⟩
theorem Jd(pre:List LX.Frame)(f:LX.Frame):idx (pre++[f]) (pre.length:Int)=some f:=by rw[pF];simp
theorem uU(pre:List LX.Frame)(f g:LX.Frame):(pre++[f]).set pre.length g=pre++[g]:=by simp
theorem rA(pre:List LX.Frame)(f:LX.Frame):(((pre++[f]).length:Int)-1)=(pre.length:Int):=by simp
theorem mul_bd{x y:Int}(a: -1000000000<=x/\x<=1000000000)(c: -1000000000<=y/\y<=1000000000): -1000000000000000000<=x*y/\x*y<=1000000000000000000:=by
 have b:(x*y).natAbs<=1000000000*1000000000:=by
  rw[Int.natAbs_mul];exact Nat.mul_le_mul V V
 omega
theorem fV.int{n:Nat}{v:Val}(h:fV n v)(a:v.kind=1): -1000000000<=v.n/\v.n<=1000000000:=by unfold fV at h;omega
theorem op_eq{n:Nat}{k:Int}{b c:Val}(u:1<=k/\k<=5)(i:fV n b)(j:fV n c):∃v,Sz k b c=some (v,(TM k b c).isSome)/\∀w,TM k b c=some w->v=w:=by
  unfold Sz TM C8;by_cases f:k=5
  · rw[dT f,cond_true,if_pos f];by_cases e:b=c
    · subst e;simp
    · rw[if_neg e];have:(decide (b.kind=c.kind)&&decide (b.n=c.n))=false:=by
        obtain⟨l,s⟩:=b;obtain⟨o,t⟩:=c;rw[Bool.and_eq_false_iff];simp at e⊢;by_cases h:l=o
        · right;exact e h
        · left;exact h
      rw[this];simp
  rw[dF f,cond_false,if_neg f];by_cases d:b.kind=1/\c.kind=1
  · rw[show(decide ((b.kind:Int)≠1)||decide ((c.kind:Int)≠1))=false by simp[d.1,d.2],cond_false,if_neg (by simp[d.1,d.2])];have q:=i.int d.1;have c1:=j.int d.2;have r:=mul_bd q c1;have a:∀z:Int,∃v,some ((⟨1,z⟩:Val),(decide ((-1000000000:Int)<=z)&&decide ((z:Int)<=1000000000)))=some (v,(if-1000000000<=z/\z<=1000000000 then some (⟨1,z⟩:Val)else none).isSome)/\∀w,(if-1000000000<=z/\z<=1000000000 then some (⟨1,z⟩:Val)else none)=some w->v=w:=by
      intro z;by_cases h: -1000000000<=z/\z<=1000000000
      · rw[if_pos h,dT h.1,dT h.2];exact⟨_,Z,fun w e=>by cases e;rfl⟩
      · rw[if_neg h];refine⟨⟨1,z⟩,?_,fun w e=>by cases e⟩
        · congr 2;rw[Option.isSome_none,Bool.and_eq_false_iff];simp only[decide_eq_false_iff_not];omega
    by_cases g:k=4
    · subst g;rw[if_pos rfl];simp only[Int.reduceEq,decide_false,decide_true,cond_false,cond_true];by_cases e:b.n<c.n<;>simp[e]
    rw[if_neg g];by_cases p:k=1
    · subst p;simp only[Int.reduceEq,decide_true,cond_true,if_true];rw[gI V V];exact a _
    by_cases m:k=2
    · subst m;simp only[Int.reduceEq,decide_true,decide_false,cond_true,cond_false,if_true,if_false];rw[gI V V];exact a _
    · obtain rfl:k=3:=by omega
      simp only[Int.reduceEq,decide_true,decide_false,cond_true,cond_false,if_true,if_false];rw[gI V V];exact a _
  · rw[show(decide ((b.kind:Int)≠1)||decide ((c.kind:Int)≠1))=true by simp;omega,cond_true,if_pos V];exact⟨_,Z,fun w e=>by cases e⟩
theorem YM{n:Nat}{k:Int}{b c:Val}(u:1<=k/\k<=5)(i:fV n b)(j:fV n c):∃v,rq k b c=some (v,(TM k b c).isSome)/\∀w,TM k b c=some w->v=w:=by
  unfold rq TM;by_cases f:k=5
  · rw[dT f,cond_true,if_pos f];by_cases e:b=c
    · subst e;simp
    · rw[if_neg e];have:(decide (b.kind=c.kind)&&decide (b.n=c.n))=false:=by
        obtain⟨l,s⟩:=b;obtain⟨o,t⟩:=c;rw[Bool.and_eq_false_iff];simp at e⊢;by_cases h:l=o
        · right;exact e h
        · left;exact h
      rw[this];simp
  rw[dF f,cond_false,if_neg f];by_cases d:b.kind=1/\c.kind=1
  · rw[show(decide ((b.kind:Int)≠1)||decide ((c.kind:Int)≠1))=false by simp[d.1,d.2],cond_false,if_neg (by simp[d.1,d.2])];have q:=i.int d.1;have c1:=j.int d.2;have r:=mul_bd q c1;have a:∀z:Int,∃v,some ((⟨1,z⟩:Val),(eZ z))=some (v,(if-1000000000<=z/\z<=1000000000 then some (⟨1,z⟩:Val)else none).isSome)/\∀w,(if-1000000000<=z/\z<=1000000000 then some (⟨1,z⟩:Val)else none)=some w->v=w:=by
      intro z;unfold eZ bB;by_cases h: -1000000000<=z/\z<=1000000000
      · rw[if_pos h,dT h.1,dT h.2];exact⟨_,Z,fun w e=>by cases e;rfl⟩
      · rw[if_neg h];refine⟨⟨1,z⟩,?_,fun w e=>by cases e⟩
        · congr 2;rw[Option.isSome_none,Bool.and_eq_false_iff];simp only[decide_eq_false_iff_not];omega
    by_cases g:k=4
    · subst g;rw[if_pos rfl];simp only[Int.reduceEq,decide_false,decide_true,cond_false,cond_true];by_cases e:b.n<c.n<;>simp[e]
    rw[if_neg g,dF g,cond_false,gI V V,gI V V,gI V V];by_cases p:k=1
    · subst p;exact a _
    by_cases m:k=2
    · subst m;exact a _
    · obtain rfl:k=3:=by omega
      exact a _
  · rw[show(decide ((b.kind:Int)≠1)||decide ((c.kind:Int)≠1))=true by simp;omega,cond_true,if_pos V];exact⟨_,Z,fun w e=>by cases e⟩
theorem mY{a:List aX}{n:Nat}{f:LX.Frame}:∀{l:List LX.Frame} {t:Int},kV a n t (l++[f])↔kV a n t l/\(∃x,Cs a n f x)/\(0<=f.iN/\f.iN<(match l.getLast? with|none=>t|some g=>g.regs.length))
 |[],t=>by simp[kV]
 |g::l,t=>by
  show((∃x,Cs a n g x)/\(0<=g.iN/\g.iN<t)/\kV a n g.regs.length (l++[f]))↔_;rw[mY (l:=l)];have e:(match (g::l).getLast? with|none=>t|some g=>((g.regs.length:Int)))=(match l.getLast? with|none=>((g.regs.length:Int))|some g=>(g.regs.length:Int)):=by
   rw[List.getLast?_cons];cases l.getLast?<;>rfl
  rw[e];simp only[kV,and_assoc]
structure uB(a:List aX)(pre:List LX.Frame)(f:LX.Frame)(cells:List (List Val))(x:aX)(c:Ins):Prop where
 fr:Cs a cells.length f x
 ins:idx x.code f.at_=some c
 good:qH a x.regs x.code.length c
 chain:kV a cells.length 1 pre
 iN:0<=f.iN/\f.iN<ahead pre
 many:pre.length+1<=10
 Tf:qh cells
 proc:(1<=x.regs/\x.regs<=40)/\sK x
theorem top_ok{a:List aX}(e:kU a){pre:List LX.Frame}{f:LX.Frame}{cells:List (List Val)}{st wh:Int}(h:vH a ⟨pre++[f],cells,st,wh⟩):∃x c,uB a pre f cells x c:=by
 obtain⟨j,⟨x,g⟩,i⟩:=mY.1 h.frames;have d:=e.mem g.proc;have hat:=g.at_;obtain⟨n,hn⟩:=Int.eq_ofNat_of_zero_le hat.1;have b:n<x.code.length:=by omega
 refine⟨x,x.code[n],g,by rw[hn,oJ b],e.ins x d.1 _<|List.getElem_mem _,j,i,?_,h.cells,⟨by omega,d.2.2.2⟩⟩;have:=h.many;simpa using this
theorem uB.N7{a:List aX}{pre:List LX.Frame}{f:LX.Frame}{cells:List (List Val)}{x:aX}{c:Ins}(h:uB a pre f cells x c):Cs a cells.length (N7 f x) x where
 proc:=h.fr.proc
 at_:=by
  have:=h.fr.at_;have:=h.proc.2;unfold sK at this;simp only[YtcbdckebgjdlhaaGreatDoor.N7];omega
 regs:=h.fr.regs
 vals:=h.fr.vals
theorem uB.reg{a:List aX}{pre:List LX.Frame}{f:LX.Frame}{cells:List (List Val)}{x:aX}{c:Ins}(h:uB a pre f cells x c){i:Int}(b:sO x.regs i):idx f.regs i=some (dP f.regs i)/\fV cells.length (dP f.regs i):=by
 have:=rR h.fr.regs b;exact⟨this.1,h.fr.vals _ this.2⟩
theorem uB.sw{a:List aX}{pre:List LX.Frame}{f:LX.Frame}{cells:List (List Val)}{x:aX}{c:Ins}(ha:kU a)(h:uB a pre f cells x c){st wh:Int}{g:LX.Frame}(hg:Cs a cells.length g x):NW ⟨pre++[g],cells,st,wh⟩ where
  small:=⟨by have:=h.many;simp;omega,fun k hk=>by
    rcases List.mem_append.1 hk with hk|hk
    · obtain⟨y,hy⟩:=yf h.chain k hk;have:=hy.regs;have:=(ha.mem hy.proc).2.2.1;omega
    · simp at hk;subst hk;have:=hg.regs;have:=h.proc.1;omega,h.Tf.1,fun c hc=>(h.Tf.2 c hc).1.2⟩
  cells:=h.Tf
  vals k hk:=by
    rcases List.mem_append.1 hk with hk|hk
    · obtain⟨y,hy⟩:=yf h.chain k hk;exact hy.vals
    · simp at hk;subst hk;exact hg.vals
section
variable{a:List aX}{pre:List LX.Frame}{f:LX.Frame}{cells:List (List Val)}{st wh:Int}{x:aX}{c:Ins}{N:Nat}
theorem yg(h:uB a pre f cells x c):qZ N ⟨pre++[f],cells,st,wh⟩ a=(bif decide ((c.op:Int)=1)then(idx f.regs c.a).bind fun i=>mh false (pre++[{N7 f x with regs:=(f.regs.set (c.a).toNat (⟨1,c.b⟩:Val))}]) cells st wh else bif decide ((c.op:Int)=2)then(idx f.regs c.b).bind fun m=>(idx f.regs c.a).bind fun j=>mh false (pre++[{N7 f x with regs:=(f.regs.set (c.a).toNat m)}]) cells st wh else bif decide ((c.op:Int)=3)then(idx c.args 0).bind fun l=>(idx f.regs c.b).bind fun e=>(idx f.regs c.c).bind fun g=>(Sz l e g).bind fun d=>(idx f.regs c.a).bind fun k=>Ei ⟨pre++[f],cells,st,wh⟩ d.2 (pre++[{N7 f x with regs:=(f.regs.set (c.a).toNat d.1)}])else bif decide ((c.op:Int)=4)then jW N ⟨pre++[f],cells,st,wh⟩ f x c a (decide ((c.op:Int)=4))else jW N ⟨pre++[f],cells,st,wh⟩ f x c a (decide ((c.op:Int)=6))):=by
 have o:=h.many;have hat:=h.fr.at_;have n:=h.proc.2;unfold sK at n;unfold qZ;simp only[rA];rw[gI V V,Jd,bnd,h.fr.proc,bnd,h.ins,bnd,gI V V,gI V V];simp only[Int.toNat_natCast,uU];rfl
theorem step1(h:uB a pre f cells x c)(b:c.op=1)(d:sO x.regs c.a):R1 (qZ N ⟨pre++[f],cells,st,wh⟩ a) (iQ a pre f cells st wh x c):=by
 rw[yg h,b];simp only[Int.reduceEq,decide_true,decide_false,cond_true,cond_false];rw[(h.reg d).1,bnd];unfold iQ;simp only[b,if_true];exact⟨_,_,_,Z,Z,Z,Z⟩
theorem step2(h:uB a pre f cells x c)(d:c.op=2)(g:sO x.regs c.a)(e:sO x.regs c.b):R1 (qZ N ⟨pre++[f],cells,st,wh⟩ a) (iQ a pre f cells st wh x c):=by
 rw[yg h,d];simp only[Int.reduceEq,decide_true,decide_false,cond_true,cond_false];rw[(h.reg e).1,bnd,(h.reg g).1,bnd];unfold iQ;simp only[d,Int.reduceEq,if_true,if_false];exact⟨_,_,_,Z,Z,Z,Z⟩
theorem step3(h:uB a pre f cells x c)(d:c.op=3)(l:sO x.regs c.a)(i:sO x.regs c.b)(j:sO x.regs c.c){n:Int}(hn:c.args=[n])(g:1<=n/\n<=5):R1 (qZ N ⟨pre++[f],cells,st,wh⟩ a) (iQ a pre f cells st wh x c):=by
 rw[yg h,d,hn];simp only[Int.reduceEq,decide_true,decide_false,cond_true,cond_false];obtain⟨v,m,k⟩:=op_eq g (h.reg i).2 (h.reg j).2;rw[EG,bnd,(h.reg i).1,bnd,(h.reg j).1,bnd,m,bnd,(h.reg l).1,bnd];unfold iQ Ei;simp only[d,hn,Int.reduceEq,if_true,if_false,List.headD_cons];cases e:TM n (dP f.regs c.b) (dP f.regs c.c)with
 |none=>exact⟨_,_,_,rfl,rfl⟩
 |some w=>rw[k w e];exact⟨_,_,_,Z,Z,Z,Z⟩
theorem Tg{v:Val}(c:qh cells)(h:fV cells.length v)(b:v.kind=2):idx cells v.n=some (cellAt cells v.n)/\(1<=(cellAt cells v.n).length/\(cellAt cells v.n).length<=4):=by
 have a:=h.ref b;exact⟨(Ej a).1,(c.at a).1⟩
theorem WJ{v:Val}{i:Int}(a:0<=i)(h:i<((cellAt cells v.n).length:Int)):idx (cellAt cells v.n) i=some (dP (cellAt cells v.n) i):=(rR Z ⟨a,h⟩).1
theorem YN(h:uB a pre f cells x c)(d:c.op=4)(m:sO x.regs c.a)(k:sO x.regs c.b)(l:0<=c.c/\c.c<4):R1 (qZ N ⟨pre++[f],cells,st,wh⟩ a) (iQ a pre f cells st wh x c):=by
  rw[yg h,d];simp only[Int.reduceEq,decide_true,decide_false,cond_true,cond_false];unfold jW IU zt zq;simp only[rA,Int.toNat_natCast,uU,d,Int.reduceEq,decide_true,decide_false,cond_true,cond_false];have i:=h.reg k;rw[i.1];simp only[bnd];unfold iQ;simp only[d,Int.reduceEq,if_true,if_false];by_cases g:(dP f.regs c.b).kind=2
  · have e:=Tg h.Tf i.2 g;rw[dF V,cond_false,e.1];simp only[bnd];by_cases j:((cellAt cells (dP f.regs c.b).n).length:Int)<=c.c
    · rw[dT j,cond_true,if_pos V];exact⟨_,_,_,Z,Z⟩
    · rw[dF j,cond_false,if_neg V,WJ l.1 V,bnd,(h.reg m).1,bnd];exact⟨_,_,_,Z,Z,Z,Z⟩
  · rw[dT g,cond_true,if_pos (.inl g)];exact⟨_,_,_,Z,Z⟩
theorem YO(h:uB a pre f cells x c)(d:c.op=6)(m:sO x.regs c.a)(k:sO x.regs c.b)(l:0<=c.c/\c.c<4):R1 (qZ N ⟨pre++[f],cells,st,wh⟩ a) (iQ a pre f cells st wh x c):=by
  rw[yg h,d];simp only[Int.reduceEq,decide_true,decide_false,cond_true,cond_false];unfold jW IU zt zq;simp only[rA,Int.toNat_natCast,uU,d,Int.reduceEq,decide_true,decide_false,cond_true,cond_false];have i:=h.reg m;rw[i.1];simp only[bnd];unfold iQ;simp only[d,Int.reduceEq,if_true,if_false];by_cases g:(dP f.regs c.a).kind=2
  · have e:=Tg h.Tf i.2 g;rw[dF V,cond_false,e.1];simp only[bnd];by_cases j:((cellAt cells (dP f.regs c.a).n).length:Int)<=c.c
    · rw[dT j,cond_true,if_pos V];exact⟨_,_,_,Z,Z⟩
    · rw[dF j,cond_false,if_neg V,(h.reg k).1,bnd,WJ l.1 V,bnd];exact⟨_,_,_,Z,Z,Z,Z⟩
  · rw[dT g,cond_true,if_pos (.inl g)];exact⟨_,_,_,Z,Z⟩
theorem Qa(g:LX.Frame):uA ⟨pre++[g],cells,st,wh⟩=⟨pre.map (NV (zS ⟨pre++[g],cells,st,wh⟩))++[NV (zS ⟨pre++[g],cells,st,wh⟩) g],(uA ⟨pre++[g],cells,st,wh⟩).cells,st,wh⟩:=by
 unfold uA;simp
theorem YP{s:LX.State}(h:NW s):(uA s).cells.length<=s.cells.length/\(uA s).cells.length<=24:=by
 have a:=h.reach.1.len;have:=h.cells.1;unfold uA;simp;omega
theorem Ti(d:List LX.Frame)(g:LX.Frame)(cs:List (List Val))(k:d.length<=20)(i:cs.length<=24)(f:sO g.regs.length c.a)(j:1<=c.b/\c.b<=4):∃e t,uk c (d++[g]) cs st wh=some (e,t)/\match OW ⟨d++[g],cs,st,wh⟩ c with|none=>e=false|some u=>e=true/\t=u:=by
  unfold uk OW;simp only[rA];by_cases h:cs.length=24
  · rw[dT V,cond_true,if_pos h];exact⟨_,_,Z,Z⟩
  · rw[dF V,cond_false,if_neg h,gI V V,Jd,bnd,(rR rfl f).1,bnd,uY V,uY (room_le (by simp;omega) zq1),Int.toNat_natCast,uU];refine⟨_,_,Z,Z,?_⟩;simp
theorem step5(q:kU a)(v:100<=N)(h:uB a pre f cells x c)(g:c.op=5)(r:sO x.regs c.a)(o:1<=c.b/\c.b<=4):R1 (qZ N ⟨pre++[f],cells,st,wh⟩ a) (iQ a pre f cells st wh x c):=by
  rw[yg h,g];simp only[Int.reduceEq,decide_true,decide_false,cond_true,cond_false];unfold jW Na;simp only[rA,Int.toNat_natCast,uU,g,Int.reduceEq,decide_true,decide_false,cond_true,cond_false];unfold iQ;simp only[g,Int.reduceEq,if_true,if_false];have w:=h.many;have j:=uB.sw q h (st:=st) (wh:=wh) h.N7;have i:sO (N7 f x).regs.length c.a:=by have:=h.N7.regs;rw[this];exact r
  have l:∀d:LX.State,(∃n t,uk c d.frames d.cells d.status d.bR=some (n,t)/\match OW d c with|none=>n=false|some u=>n=true/\t=u)->
      R1 ((uk c d.frames d.cells d.status d.bR).bind fun y=>some ((⟨false,0,false⟩:GG),y.1,y.2)) ((OW d c).map fun t=>(t,none,false)):=by
    rintro d⟨n,t,s,k⟩;rw[s,bnd];cases e:OW d c with
    |none=>rw[e]at k;exact⟨_,_,_,Z,k⟩
    |some u=>rw[e]at k;exact⟨_,_,_,Z,k.1,k.2,Z⟩
  by_cases m:cells.length=24
  · rw[dT V,cond_true,if_pos m];have p:({f with at_:=min (f.at_+1) ((x.code.length:Int)-1)}:LX.Frame)=N7 f x:=rfl;rw[p,sweep_eq v j,bnd];refine l _ ?_;rw[Qa];exact Ti _ _ _ (by simp;omega) (YP j).2 (by simpa[NV]using i) o
  · rw[dF V,cond_false,if_neg m];exact l ⟨pre++[N7 f x],cells,st,wh⟩<|Ti _ _ _ V h.Tf.1 i o
theorem Qb{ρ:Type}{body:Int->Int->List Val->(List Val->Option ρ)->Option ρ}{K:List Val->Option ρ}{r:Int->Val}{P:Int->Prop}
  (b:∀(i:Nat) k y nx,i<y.length->P k->body (i:Int) k y nx=nx (y.set i (r k))):∀(l:List Int) (a rest:List Val),(∀k∈l,P k)->l.length<=rest.length->gF body K (a.length:Int) l (a++rest)=K (a++l.map r++rest.drop l.length)
 |[],a,rest,_,_=>by simp[gF]
 |k::l,a,z::rest,h,hl=>by
  rw[AQ,b a.length k (a++z::rest) _ zq3 (h k zq3),show(a++z::rest).set a.length (r k)=(a++[r k])++rest by simp,show((a.length:Int)+1)=((a++[r k]).length:Nat) by simp,Qb b l (a++[r k]) rest (fun q c=>h q (List.mem_cons_of_mem _ c)) (by simpa using hl)];simp
 |k::l,a,[],h,hl=>by simp at hl
theorem step7(s:kU a)(h:uB a pre f cells x c)(e:c.op=7)(z:sO x.regs c.a){p:aX}(hp:idx a c.b=some p)(A:(c.args.length:Int)=p.params)(g:∀k∈c.args,sO x.regs k):R1 (qZ N ⟨pre++[f],cells,st,wh⟩ a) (iQ a pre f cells st wh x c):=by
  rw[yg h,e];simp only[Int.reduceEq,decide_true,decide_false,cond_true,cond_false];unfold jW Ra;simp only[rA,Int.toNat_natCast,uU,e,Int.reduceEq,decide_true,decide_false,cond_true,cond_false];unfold iQ;simp only[e,Int.reduceEq,if_true,if_false];have w:=h.many;have n:=s.mem hp;by_cases j:pre.length+1=10
  · rw[dT (by simp;omega),cond_true,if_pos j];exact⟨_,_,_,Z,Z⟩
  · rw[dF (by simp;omega),cond_false,if_neg j,hp,bnd,uY V];have v:=Qb (K:=A9 ⟨pre++[N7 f x],cells,st,wh⟩ c a) (body:=A8 ⟨pre++[N7 f x],cells,st,wh⟩) (r:=dP f.regs) (P:=fun k=>sO x.regs k) (fun i k y q t u=>by
      unfold A8;simp only[rA];rw[gI V V,Jd,bnd];show((idx f.regs k).bind fun o=>(idx y (i:Int)).bind fun l=>q<|y.set ((i:Int)).toNat o)=_;rw[(h.reg u).1,bnd,oJ t,bnd,Int.toNat_natCast]) c.args [] (List.replicate p.regs.toNat ⟨0,0⟩) g (by simp;omega)
    have d:gF (A8 ⟨pre++[N7 f x],cells,st,wh⟩) (A9 ⟨pre++[N7 f x],cells,st,wh⟩ c a) 0 c.args (List.replicate p.regs.toNat ⟨0,0⟩)=_:=v;have m:({f with at_:=min (f.at_+1) ((x.code.length:Int)-1)}:LX.Frame)=N7 f x:=rfl;rw[m,d];unfold A9;simp only;rw[uY (room_le (by simp;omega) zq1),bnd];refine⟨_,_,_,Z,Z,?_,Z⟩;simp only[List.nil_append,List.drop_replicate,hp,Option.map_some,Option.getD_some];rw[show p.regs.toNat-c.args.length=(p.regs-(c.args.length:Int)).toNat by omega]
theorem step8(j:kU a)(h:uB a pre f cells x c)(b:c.op=8)(i:sO x.regs c.a):R1 (qZ N ⟨pre++[f],cells,st,wh⟩ a) (iQ a pre f cells st wh x c):=by
  rw[yg h,b];simp only[Int.reduceEq,decide_true,decide_false,cond_true,cond_false];unfold jW Rb;simp only[rA,Int.toNat_natCast,uU,b,Int.reduceEq,decide_true,decide_false,cond_true,cond_false];unfold iQ;simp only[b,Int.reduceEq,if_true,if_false];have e:=h.many;rw[(h.reg i).1,bnd,gI V V];rw[show sub? (pre++[({f with at_:=min (f.at_+1) ((x.code.length:Int)-1)}:LX.Frame)]) 0 (pre.length:Int)=some pre by unfold sub?;rw[if_pos (by simp;omega)];simp[cut],bnd];rw[show(pre++[({f with at_:=min (f.at_+1) ((x.code.length:Int)-1)}:LX.Frame)]).take pre.length=pre by simp];rcases List.eq_nil_or_concat pre with hp|⟨q,g,hp⟩
  · subst hp;exact⟨_,_,_,Z,Z,Z,Z⟩
  · rw[List.concat_eq_append]at hp;subst hp;have d:=h.iN;rw[H5]at d;simp only[List.length_append,List.length_cons,List.length_nil]at e;rw[dF (by simp;omega),cond_false,rA,gI V V,Jd,bnd,(rR Z d).1,bnd,Int.toNat_natCast,uU,bnd];simp only[List.getLast?_append,List.getLast?_singleton,Option.some_or,List.dropLast_concat];exact⟨_,_,_,Z,Z,Z,Z⟩
theorem Dt(h:uB a pre f cells x c)(b:(c.op=9\/c.op=11\/c.op=13)/\sO x.regs c.a\/c.op=10\/c.op=12):R1 (qZ N ⟨pre++[f],cells,st,wh⟩ a) (iQ a pre f cells st wh x c):=by
  rw[yg h];rcases b with⟨b|b|b,hr⟩|b|b
  · rw[b];simp only[Int.reduceEq,decide_true,decide_false,cond_true,cond_false];unfold jW;simp only[rA,Int.toNat_natCast,uU,b,Int.reduceEq,decide_true,decide_false,cond_true,cond_false];unfold iQ;simp only[b,Int.reduceEq,if_true,if_false];rw[(h.reg hr).1,bnd];by_cases d:(dP f.regs c.a).kind=1
    · rw[dT d,if_pos d];exact⟨_,_,_,Z,Z,Z,Z⟩
    · rw[dF d,if_neg d];exact⟨_,_,_,Z,Z⟩
  · rw[b];simp only[Int.reduceEq,decide_true,decide_false,cond_true,cond_false];unfold jW;simp only[rA,Int.toNat_natCast,uU,b,Int.reduceEq,decide_true,decide_false,cond_true,cond_false];unfold iQ;simp only[b,Int.reduceEq,if_true,if_false];rw[(h.reg hr).1,bnd];by_cases d:(dP f.regs c.a).kind=1
    · rw[dF V,cond_false,if_pos d];exact⟨_,_,_,Z,Z,Z,Z⟩
    · rw[dT d,cond_true,if_neg d];exact⟨_,_,_,Z,Z⟩
  · rw[b];simp only[Int.reduceEq,decide_true,decide_false,cond_true,cond_false];unfold jW;simp only[rA,Int.toNat_natCast,uU,b,Int.reduceEq,decide_true,decide_false,cond_true,cond_false];unfold iQ;simp only[b,Int.reduceEq,if_true,if_false];have g:=h.reg hr;rw[g.1,bnd];have e:=g.2;unfold fV at e;by_cases d:(dP f.regs c.a).kind≠2/\(dP f.regs c.a).n=0
    · rw[if_pos d,show(decide ((dP f.regs c.a).kind=0)||(decide ((dP f.regs c.a).kind=1)&&decide ((dP f.regs c.a).n=0)))=true by simp;omega,cond_true];exact⟨_,_,_,Z,Z,Z,Z⟩
    · rw[if_neg d,show(decide ((dP f.regs c.a).kind=0)||(decide ((dP f.regs c.a).kind=1)&&decide ((dP f.regs c.a).n=0)))=false by rw[Bool.or_eq_false_iff,Bool.and_eq_false_iff];simp only[decide_eq_false_iff_not];omega,cond_false];exact⟨_,_,_,Z,Z,Z,Z⟩
  · rw[b];simp only[Int.reduceEq,decide_true,decide_false,cond_true,cond_false];unfold jW;simp only[rA,Int.toNat_natCast,uU,b,Int.reduceEq,decide_true,decide_false,cond_true,cond_false];unfold iQ;simp only[b,Int.reduceEq,if_true,if_false];exact⟨_,_,_,Z,Z,Z,Z⟩
  · rw[b];simp only[Int.reduceEq,decide_true,decide_false,cond_true,cond_false];unfold jW;simp only[rA,Int.toNat_natCast,uU,b,Int.reduceEq,decide_true,decide_false,cond_true,cond_false];unfold iQ;simp only[b,Int.reduceEq,if_true,if_false];exact⟨_,_,_,Z,Z,Z,Z⟩
theorem Vo(j:kU a)(m:100<=N)(h:uB a pre f cells x c):R1 (qZ N ⟨pre++[f],cells,st,wh⟩ a) (iQ a pre f cells st wh x c):=by
  rcases h.good with g|g|g|g|g|g|g|g|g|g
  · exact step1 h g.1 g.2.1
  · exact step2 h g.1 g.2.1 g.2.2
  · obtain⟨b,d,e,i,n,k,l,o⟩:=g;exact step3 h b d e i k ⟨l,o⟩
  · obtain⟨b|b,d,e,i⟩:=g
    · exact YN h b d e i
    · exact YO h b d e i
  · exact step5 j m h g.1 g.2.1 g.2.2
  · obtain⟨b,d,⟨p,e,i⟩,k⟩:=g;exact step7 j h b d e i k
  · obtain⟨b|b|b,d⟩:=g
    · exact step8 j h b d
    · exact Dt h<|.inl ⟨.inl b,d⟩
    · exact Dt h<|.inl ⟨.inr<|.inl b,d⟩
  · exact Dt h<|.inr<|.inl g
  · exact Dt h<|.inr<|.inr g.1
  · exact Dt h<|.inl ⟨.inr<|.inr g.1,g.2.1⟩
end
open Go Go.Proofs Go.LX
theorem fV.up{n m:Nat}{v:Val}(h:fV n v)(a:n<=m):fV m v:=by unfold fV at*;omega
theorem Cs.up{a:List aX}{n m:Nat}{f:LX.Frame}{x:aX}(h:Cs a n f x)(b:n<=m):Cs a m f x:=⟨h.proc,h.at_,h.regs,fun v c=>(h.vals v c).up b⟩
theorem FB{a:List aX}{n m:Nat}(b:n<=m):∀{l:List LX.Frame} {t:Int},kV a n t l->kV a m t l
 |[],_,_=>trivial
 |f::l,t,h=>by obtain⟨⟨x,g⟩,d,c⟩:=h;exact⟨⟨x,g.up b⟩,d,FB b c⟩
theorem ren_ok{n:Nat}{l:List Int}{v:Val}(h:fV n v)(b:v.kind=2->v.n∈l):fV l.length (ren l v):=by
  unfold ren;by_cases a:v.kind=2
  · rw[if_pos a];have:=List.idxOf_lt_length_of_mem<|b a;unfold fV;simp only;omega
  · rw[if_neg a];unfold fV at*;omega
theorem Cs.ren{a:List aX}{n:Nat}{l:List Int}{f:LX.Frame}{x:aX}(h:Cs a n f x)(hr:rz f.regs l):Cs a l.length (NV l f) x where
 proc:=h.proc
 at_:=h.at_
 regs:=by unfold NV;simpa using h.regs
 vals v hv:=by
  unfold NV at hv;simp only[List.mem_map]at hv;obtain⟨w,hw,rfl⟩:=hv;exact ren_ok (h.vals w hw)<|hr w hw
theorem Je{a:List aX}{n:Nat}{r:List Int}:∀{l:List LX.Frame} {t:Int},kV a n t l->(∀f∈l,rz f.regs r)->kV a r.length t (l.map (NV r))
 |[],_,_,_=>trivial
 |f::l,t,h,hr=>by
  obtain⟨⟨x,g⟩,c,b⟩:=h;refine⟨⟨x,g.ren<|hr f zq3⟩,c,?_⟩;have:=Je b fun k d=>hr k<|List.mem_cons_of_mem _ d;simpa[NV]using this
theorem Tj{s:LX.State}(h:NW s):qh (uA s).cells:=by
 have b:=h.reach;have i:=b.1.len;have hn:=h.cells.1;refine⟨by simp[uA];omega,fun c d=>?_⟩;unfold uA at d⊢;simp only[List.mem_map,List.length_map]at d⊢;obtain⟨k,f,rfl⟩:=d;have a:=h.cells.at<|b.1.2 k f;refine⟨by simpa using a.1,fun v g=>?_⟩;obtain⟨w,e,rfl⟩:=List.mem_map.1 g;exact ren_ok (a.2 w e)<|b.2.2 k f w e
theorem sweep_ok{a:List aX}(ha:kU a){s:LX.State}(h:vH a s):vH a (uA s) where
 status:=h.status
 bR:=h.bR
 stay:=h.stay
 ended:=by rw[show(uA s).status=s.status from rfl,h.ended];simp[uA]
 many:=by simpa[uA]using h.many
 cells:=Tj (h.sw ha)
 frames:=by
  have hr:=(h.sw ha).reach;have:=Je h.frames<|Te hr.2.1;simpa[uA]using this
theorem Tk{n:Nat}{r:List Val}{i:Nat}{v:Val}(h:∀w∈r,fV n w)(b:fV n v):∀w∈r.set i v,fV n w:=fun w a=>by
  rcases List.mem_or_eq_of_mem_set a with a|rfl
  · exact h w a
  · exact b
section
variable{a:List aX}{pre:List LX.Frame}{f:LX.Frame}{cells:List (List Val)}{wh:Int}{x:aX}{c:Ins}{N:Nat}
theorem uB.st(h:uB a pre f cells x c){g:LX.Frame}{y:aX}{cs:List (List Val)}{s w:Int}(hg:Cs a cs.length g y)(hto:g.iN=f.iN)(hc:qh cs)(hl:cells.length<=cs.length)(hs:(s=0/\w=0)\/(s=3/\ -1000000000<=w/\w<=1000000000)):vH a ⟨pre++[g],cs,s,w⟩ where
 status:=by simp only;omega
 bR:=by simp only;omega
 stay:=by simp only;omega
 ended:=by simp;omega
 many:=by have:=h.many;simp;omega
 cells:=hc
 frames:=mY.2 ⟨FB hl h.chain,⟨y,hg⟩,by rw[hto];exact h.iN⟩
theorem Vp{n:Nat}{k:Int}{b c v:Val}(d:1<=k/\k<=5)(h:TM k b c=some v):fV n v:=by
  unfold TM at h;split at h
  · cases h;split<;>(unfold fV;simp)
  split at h
  · cases h
  split at h
  · cases h;split<;>(unfold fV;simp)
  simp only at h;generalize (if k=1 then b.n+c.n else if k=2 then b.n-c.n else b.n*c.n)=z at h;split at h
  · rename_i a;cases h;exact .inr (.inl ⟨Z,a.1,a.2⟩)
  · cases h
theorem Cs.put{n:Nat}{f:LX.Frame}{x:aX}(h:Cs a n f x){i:Nat}{v:Val}(b:fV n v):Cs a n {f with regs:=f.regs.set i v} x:=⟨h.proc,h.at_,by simpa using h.regs,Tk h.vals b⟩
theorem Cs.jump{n:Nat}{f:LX.Frame}{x:aX}(h:Cs a n f x){b:Int}(c:0<=b/\b<x.code.length):Cs a n {f with at_:=b} x:=⟨h.proc,c,h.regs,h.vals⟩
theorem WM{s t:LX.State}{g:LX.Frame}(h:OW ⟨pre++[g],cells,0,wh⟩ c=some t)(f:vH a ⟨pre++[g],cells,0,wh⟩)(p:1<=c.b/\c.b<=4):vH a t/\t.status=0:=by
  unfold OW at h;split at h
  · cases h
  rename_i l;simp only[List.dropLast_concat,List.getLast?_append,List.getLast?_singleton,Option.some_or,Option.map_some,Option.toList_some]at h l;cases h;obtain⟨o,⟨x,n⟩,m⟩:=mY.1 f.frames;have j:=f.cells;simp only at o n m j;have e:cells.length<=(cells++[List.replicate c.b.toNat (⟨0,0⟩:Val)]).length:=by simp
  refine⟨⟨f.status,f.bR,f.stay,by simp,by simpa using f.many,⟨?_,?_⟩,mY.2 ⟨FB e o,⟨x,(n.up e).put ?_⟩,m⟩⟩,Z⟩
  · have:=j.1;simp;omega
  · intro d i;rcases List.mem_append.1 i with i|i
    · have:=j.2 d i;exact⟨this.1,fun v k=>(this.2 v k).up e⟩
    · simp at i;subst i;refine⟨by simp;omega,fun v k=>?_⟩;have:=List.eq_of_mem_replicate k;subst this;unfold fV;simp
  · unfold fV;simp;try omega
theorem Vq(P:kU a)(h:uB a pre f cells x c)(Q:wh=0){t:LX.State}{z:Option Int}{p:Bool}(i:iQ a pre f cells 0 wh x c=some (t,z,p)):
    vH a t/\(t.status=0\/t.status=1/\p=false\/t.status=3/\p=true)/\(z.isSome->t.status=0/\c.op=9):=by
  subst Q;have C:=h.N7;have m:∀{v:Val},fV cells.length v->vH a ⟨pre++[{N7 f x with regs:=f.regs.set c.a.toNat v}],cells,0,0⟩:=fun o=>h.st (C.put o) Z h.Tf (Nat.le_refl _)<|.inl ⟨Z,Z⟩;have E:vH a ⟨pre++[N7 f x],cells,0,0⟩:=h.st C Z h.Tf (Nat.le_refl _)<|.inl ⟨Z,Z⟩;have w:(0<=c.b/\c.b<x.code.length)->vH a ⟨pre++[{N7 f x with at_:=c.b}],cells,0,0⟩:=fun l=>h.st (C.jump l) Z h.Tf (Nat.le_refl _)<|.inl ⟨Z,Z⟩;unfold iQ at i;rcases h.good with g|g|g|g|g|g|g|g|g|g
  · obtain⟨e,r,l⟩:=g;simp only[e,Int.reduceEq,if_true,if_false]at i;cases i;exact⟨m<|.inr<|.inl ⟨Z,l.1,l.2⟩,.inl Z,by simp⟩
  · obtain⟨e,r,l⟩:=g;simp only[e,Int.reduceEq,if_true,if_false]at i;cases i;exact⟨m (h.reg l).2,.inl Z,by simp⟩
  · obtain⟨e,r,l,N,n,hn,L⟩:=g;simp only[e,hn,Int.reduceEq,if_true,if_false,List.headD_cons]at i;obtain⟨v,o,i⟩:=Option.map_eq_some_iff.1 i;cases i;exact⟨m<|Vp L o,.inl Z,by simp⟩
  · obtain⟨e,r,l,N⟩:=g;rcases e with e|e
    · simp only[e,Int.reduceEq,if_true,if_false]at i;split at i
      · cases i
      · rename_i I;cases i;have B:(dP f.regs c.b).kind=2:=by omega
        have o:=(h.reg l).2;have j:=h.Tf.at<|o.ref B;exact⟨m<|j.2 _ (rR Z ⟨N.1,by omega⟩).2,.inl Z,by simp⟩
    · simp only[e,Int.reduceEq,if_true,if_false]at i;split at i
      · cases i
      · rename_i I;cases i;have B:(dP f.regs c.a).kind=2:=by omega
        have o:=(h.reg r).2;have j:=h.Tf.at<|o.ref B;refine⟨h.st (by simpa using C) Z ⟨by simpa using h.Tf.1,fun d K=>?_⟩ zq3<|.inl ⟨Z,Z⟩,.inl Z,by simp⟩;rw[List.length_set];rcases List.mem_or_eq_of_mem_set K with K|rfl
        · exact h.Tf.2 d K
        · exact⟨by simpa using j.1,Tk j.2 (h.reg l).2⟩
  · obtain⟨e,r,l⟩:=g;simp only[e,Int.reduceEq,if_true,if_false]at i;obtain⟨u,J,i⟩:=Option.map_eq_some_iff.1 i;cases i;split at J
    · have G:=sweep_ok P E;rw[Qa]at J G;have:=WM (s:=t) J G l;exact⟨this.1,.inl this.2,by simp⟩
    · have:=WM (s:=t) J E l;exact⟨this.1,.inl this.2,by simp⟩
  · obtain⟨e,r,⟨R,hp,hl⟩,A⟩:=g;simp only[e,Int.reduceEq,if_true,if_false]at i;split at i
    · cases i
    · rename_i S;cases i;have M:=P.mem hp;have O:=h.many;refine⟨⟨by simp,by simp,by simp,by simp,by simp;omega,h.Tf,mY.2 ⟨E.frames,⟨R,⟨hp,?_,?_,?_⟩⟩,?_⟩⟩,.inl Z,by simp⟩
      · have:=M.2.2.2;unfold sK at this;simp only;omega
      · simp only[hp,Option.map_some,Option.getD_some,List.length_append,List.length_map,List.length_replicate];omega
      · intro v o;rcases List.mem_append.1 o with o|o
        · obtain⟨k,B,rfl⟩:=List.mem_map.1 o;exact(h.reg<|A k B).2
        · have:=List.eq_of_mem_replicate o;subst this;unfold fV;simp
      · simp only[List.getLast?_append,List.getLast?_singleton,Option.some_or];have X:=C.regs;rw[X];exact r
  · obtain⟨e,r⟩:=g;rcases e with e|e|e
    · simp only[e,Int.reduceEq,if_true,if_false]at i;rcases List.eq_nil_or_concat pre with hp|⟨q,g,hp⟩
      · subst hp;simp only[List.getLast?_nil]at i;cases i;exact⟨⟨by simp,by simp,by simp,by simp,by simp,h.Tf,U⟩,.inr<|.inl ⟨Z,Z⟩,by simp⟩
      · rw[List.concat_eq_append]at hp;subst hp;simp only[List.getLast?_append,List.getLast?_singleton,Option.some_or,List.dropLast_concat]at i;cases i;obtain⟨c1,⟨y,c2⟩,T⟩:=mY.1 h.chain;have O:=h.many;simp only[List.length_append,List.length_cons,List.length_nil]at O;exact⟨⟨by simp,by simp,by simp,by simp,by simp;omega,h.Tf,mY.2 ⟨c1,⟨y,c2.put (h.reg r).2⟩,T⟩⟩,.inl Z,by simp⟩
    · simp only[e,Int.reduceEq,if_true,if_false]at i;split at i
      · cases i;exact⟨E,.inl Z,fun _=>⟨Z,e⟩⟩
      · cases i
    · simp only[e,Int.reduceEq,if_true,if_false]at i;split at i
      · rename_i B;cases i;exact⟨h.st C Z h.Tf (Nat.le_refl _)<|.inr ⟨Z,(h.reg r).2.int B⟩,.inr<|.inr ⟨Z,Z⟩,by simp⟩
      · cases i
  · simp only[g,Int.reduceEq,if_true,if_false]at i;cases i;exact⟨E,.inl Z,by simp⟩
  · obtain⟨e,l⟩:=g;simp only[e,Int.reduceEq,if_true,if_false]at i;cases i;exact⟨w l,.inl Z,by simp⟩
  · obtain⟨e,r,l⟩:=g;simp only[e,Int.reduceEq,if_true,if_false]at i;cases i;split
    · exact⟨w l,.inl Z,by simp⟩
    · exact⟨E,.inl Z,by simp⟩
end
open Go Go.Proofs Go.LX
def Qd(a:List aX)(f:LX.Frame):Option (aX×Ins):=(idx a f.proc).bind fun x=>(idx x.code f.at_).map fun c=>(x,c)
def ko(a:List aX)(s:LX.State):Option (LX.State×Option Int×Bool):=
 s.frames.getLast?.bind fun f=>(Qd a f).bind fun q=>iQ a s.frames.dropLast f s.cells s.status s.bR q.1 q.2
def FC(a:List aX)(s:LX.State):Int:=((s.frames.getLast?.bind fun f=>Qd a f).map fun q=>q.2.op).getD 0
def qc(a:List aX):Nat->List Int->Nat->LX.State->LX.State×List Int×Nat
 |0,said,n,s=>(s,said,n)
 |m+1,said,n,s=>
  if s.status≠0 then(s,said,n)else
  if said.length=40/\FC a s=9 then(s,said,n)else
  match ko a s with
  |none=>({s with status:=2},said,n+1)
  |some (t,o,p)=>if p then(t,said++o.toList,n+1)else qc a m (said++o.toList) (n+1) t
theorem KI{a:List aX}(i:kU a){s:LX.State}(h:vH a s)(b:s.status=0):∃pre f x c,s=⟨pre++[f],s.cells,0,0⟩/\uB a pre f s.cells x c/\ko a s=iQ a pre f s.cells 0 0 x c/\FC a s=c.op:=by
  obtain⟨e,cells,st,wh⟩:=s;simp only at b;subst b;have d:wh=0:=h.stay zq3;subst d;rcases List.eq_nil_or_concat e with hp|⟨pre,f,hp⟩
  · have:=h.ended.2 hp;simp at this
  · rw[List.concat_eq_append]at hp;subst hp;obtain⟨x,c,g⟩:=top_ok i h;refine⟨pre,f,x,c,Z,g,?_,?_⟩
    · unfold ko Qd;simp only[List.getLast?_append,List.getLast?_singleton,Option.some_or,List.dropLast_concat,bnd,g.fr.proc,g.ins,Option.map_some]
    · unfold FC Qd;simp only[List.getLast?_append,List.getLast?_singleton,Option.some_or,bnd,g.fr.proc,g.ins,Option.map_some,Option.getD_some]
theorem YQ{a:List aX}(b:kU a){s:LX.State}(h:vH a s)(e:s.status=0){N:Nat}(j:100<=N):R1 (qZ N s a) (ko a s):=by
 obtain⟨pre,f,x,c,i,g,d,-⟩:=KI b h e;rw[d];generalize s.cells=cells at*;subst i;exact Vo b j g
theorem FD{a:List aX}(b:kU a){s:LX.State}(h:vH a s)(g:s.status=0){t:LX.State}{o:Option Int}{p:Bool}(d:ko a s=some (t,o,p)):
  vH a t/\(t.status=0\/t.status=1/\p=false\/t.status=3/\p=true)/\(o.isSome->t.status=0/\FC a s=9):=by
 obtain⟨pre,f,x,c,k,j,e,i⟩:=KI b h g;rw[e]at d;rw[i];exact Vq b j Z d
theorem YR{a:List aX}(g:kU a){s:LX.State}(h:vH a s)(e:s.status=0):(s.frames.length<=10/\1<=s.frames.length)/\∃f x c,idx s.frames ((s.frames.length:Int)-1)=some f/\idx a f.proc=some x/\idx x.code f.at_=some c/\c.op=FC a s:=by
 obtain⟨pre,f,x,c,d,b,j,i⟩:=KI g h e;refine⟨⟨h.many,by rw[d];simp⟩,f,x,c,?_,b.fr.proc,b.ins,i.symm⟩;have:s.frames=pre++[f]:=by rw[d]
 rw[this,rA,Jd]
theorem fail_ok{a:List aX}{s:LX.State}(h:vH a s)(c:s.status=0):vH a {s with status:=2}:=by
  have b:s.bR=0:=h.stay V;refine⟨by simp,h.bR,fun _=>b,?_,h.many,h.cells,h.frames⟩;constructor
  · intro e;simp at e
  · intro e;have:=h.ended.2 e;omega
theorem Tm{a:List aX}(v:kU a){N:Nat}(G:100<=N)(c:Int):∀(m M:Nat) (b:List Int) (n:Nat) (s:LX.State),vH a s->b.length<=40->c=(n:Int)+m->c<=2000->m<M->
    again (wD N c a) M (b,(n:Int),s.frames,s.cells,s.status,s.bR)=some ((qc a m b n s).1,(qc a m b n s).2.1,((qc a m b n s).2.2:Int),0)
  |m,0,b,n,s,h,hl,hc,hb,hM=>by omega
  |0,M+1,b,n,s,h,hl,hc,hb,hM=>by
    rw[Ja];unfold wD wW qc;simp only;rw[show(decide ((n:Int)<c)&&decide ((s.status:Int)=0))=false by rw[dF V];rfl,cond_false]
  |m+1,M+1,b,n,s,h,hl,hc,hb,hM=>by
    rw[Ja];have C:=Tm v G c m M;generalize again (wD N c a) M=K at C⊢;unfold wD qc;simp only;by_cases k:s.status=0
    · rw[dT V,dT k,Bool.true_and,cond_true,if_neg V];obtain⟨Q,f,x,i,L,P,O,J⟩:=YR v h k;rw[gI V V,L,bnd];have go:Bg N b n s.frames s.cells s.status s.bR a K false=some (match ko a s with
          |none=>({s with status:=2},b,((n+1:Nat):Int),0)
          |some (t,o,p)=>if p then(t,b++o.toList,((n+1:Nat):Int),0)else((qc a m (b++o.toList) (n+1) t).1,(qc a m (b++o.toList) (n+1) t).2.1,((qc a m (b++o.toList) (n+1) t).2.2:Int),0))\/(b.length=40/\FC a s=9):=by
        by_cases j:b.length=40/\FC a s=9
        · exact .inr j
        left;unfold Bg;rw[cond_false,show(⟨s.frames,s.cells,s.status,s.bR⟩:LX.State)=s from rfl,copy_eq (h.small v),bnd];obtain⟨o,R,r,I,w⟩:=YQ v h k G;rw[I,bnd,gI V V];cases eq:ko a s with
        |none=>
          rw[eq]at w;simp only at w;subst w;simp only[Bool.not_false,cond_true];unfold wW
          push_cast;rfl
        |some q=>
          obtain⟨t,d,p⟩:=q;rw[eq]at w;obtain⟨rfl,rfl,rfl⟩:=w;have E:=FD v h k eq;simp only[Bool.not_true,cond_false];have y:∀l,l=b++d.toList->l.length<=40->Bf (⟨d.isSome,d.getD 0,p⟩,true,r) n K l=some (if p then(r,b++d.toList,((n+1:Nat):Int),0)else((qc a m (b++d.toList) (n+1) r).1,(qc a m (b++d.toList) (n+1) r).2.1,((qc a m (b++d.toList) (n+1) r).2.2:Int),0)):=by
            intro l B A;subst B;unfold Bf wW;simp only;cases p with
            |true=>rw[cond_true,if_pos Z];push_cast;rfl
            |false=>
              rw[cond_false,if_neg zq3];have:=C (b++d.toList) (n+1) r E.1 A (by push_cast;omega) hb V;rw[<-this];push_cast;rfl
          cases d with
          |none=>
            simp only[Option.isSome_none,cond_false];exact y b zq3 hl
          |some z=>
            have u:=(E.2.2 Z).2;simp only[Option.isSome_some,cond_true];rw[uY (room_le (by simp;omega) zq1)];exact y (b++[z]) zq3 (by simp;omega)
      by_cases g:b.length=40
      · rw[dT V,cond_true,P,bnd,O,bnd,J];by_cases u:FC a s=9
        · rw[if_pos ⟨g,u⟩,dT u];rfl
        · rw[if_neg (fun e=>u e.2),dF u];rcases go with go|go
          · rw[go];cases ko a s with
            |none=>rfl
            |some q=>obtain⟨t,o,p⟩:=q;cases p<;>rfl
          · exact absurd go.2 u
      · rw[dF V,cond_false,if_neg (fun e=>g e.1)];rcases go with go|go
        · rw[go];cases ko a s with
          |none=>rfl
          |some q=>obtain⟨t,o,p⟩:=q;cases p<;>rfl
        · exact absurd go.1 g
    · rw[dF k,Bool.and_false,cond_false,if_pos k];rfl
theorem KJ{a:List aX}(i:kU a):∀(m:Nat) (b:List Int) (n:Nat) (s:LX.State),vH a s->b.length<=40->
    vH a (qc a m b n s).1/\(qc a m b n s).2.1.length<=40/\n<=(qc a m b n s).2.2/\(qc a m b n s).2.2<=n+m/\b<+:(qc a m b n s).2.1/\(qc a m b n s).2.1.length<=b.length+((qc a m b n s).2.2-n)/\((qc a m b n s).2.2=n->(qc a m b n s).1=s)
  |0,b,n,s,h,hl=>⟨h,hl,Nat.le_refl _,Nat.le_refl _,List.prefix_refl _,by simp[qc],fun _=>rfl⟩
  |m+1,b,n,s,h,hl=>by
    unfold qc;by_cases f:s.status=0
    · rw[if_neg V];by_cases d:b.length=40/\FC a s=9
      · rw[if_pos d];exact⟨h,hl,Nat.le_refl _,by simp,List.prefix_refl _,by simp,fun _=>rfl⟩
      · rw[if_neg d];cases eq:ko a s with
        |none=>exact⟨fail_ok h f,hl,by simp,by simp,List.prefix_refl _,by simp,fun e=>by simp at e⟩
        |some q=>
          obtain⟨t,o,p⟩:=q;have g:=FD i h f eq;have c:(b++o.toList).length<=40:=by
            cases o with
            |none=>simpa using hl
            |some z=>have u:=(g.2.2 Z).2;simp;omega
          have ho:o.toList.length<=1:=by cases o<;>simp
          simp only;split
          · exact⟨g.1,c,by simp,by simp,List.prefix_append _ _,by show(b++o.toList).length<=b.length+(n+1-n);rw[List.length_append];omega,fun e=>by simp at e⟩
          · obtain⟨k,j,w,x,r,l,v⟩:=KJ i m (b++o.toList) (n+1) t g.1 c;refine⟨k,j,by omega,by omega,(List.prefix_append _ _).trans r,?_,fun e=>by omega⟩;rw[List.length_append]at l;omega
    · rw[if_pos f];exact⟨h,hl,Nat.le_refl _,by simp,List.prefix_refl _,by simp,fun _=>rfl⟩
theorem YS(a:List aX)(s:LX.State)(c:Int){N:Nat}(i:3000<=N):Ho N a s c=some (if SS a≠0 then(⟨[],[],0,0⟩,[],0,SS a)else if ckS a s≠0 then(⟨[],[],0,0⟩,[],0,ckS a s)else if c<0\/2000<c then(⟨[],[],0,0⟩,[],0,3)else if s.status≠0 then(⟨[],[],0,0⟩,[],0,7)else((qc a c.toNat [] 0 s).1,(qc a c.toNat [] 0 s).2.1,((qc a c.toNat [] 0 s).2.2:Int),0)):=by
  unfold Ho;rw[Lc,bnd];by_cases b:SS a=0
  · rw[if_neg V,if_neg V];by_cases e:ckS a s=0
    · rw[dF V,cond_false,if_neg V];by_cases d:c<0\/2000<c
      · rw[show(decide ((c:Int)<0)||decide ((2000:Int)<c))=true by rw[Bool.or_eq_true];simp only[decide_eq_true_eq];exact d,cond_true,if_pos d]
      · rw[show(decide ((c:Int)<0)||decide ((2000:Int)<c))=false by rw[Bool.or_eq_false_iff];simp only[decide_eq_false_iff_not];omega,cond_false,if_neg d];by_cases h:s.status=0
        · rw[dF V,cond_false,if_neg V];have f:=Dr b;have g:=Rn.1 e;rw[copy_eq (g.small f),bnd];have:=Tm f (N:=N) V c c.toNat N [] 0 s g zq3 V V V;exact this
        · rw[dT h,cond_true,if_pos h]
    · rw[dT e,cond_true,if_pos e]
  · rw[if_pos b,if_pos b,dT b,cond_true]
theorem Vr(a:List aX)(s:LX.State):I4 a s=some (if SS a≠0 then(⟨[],[],0,0⟩,SS a)else if ckS a s≠0 then(⟨[],[],0,0⟩,ckS a s)else if s.status≠3 then(⟨[],[],0,0⟩,7)else(⟨s.frames,s.cells,0,0⟩,0)):=by
  unfold I4;rw[Lc,bnd];by_cases b:SS a=0
  · rw[if_neg V,if_neg V];by_cases c:ckS a s=0
    · rw[dF V,cond_false,if_neg V];by_cases d:s.status=3
      · rw[dF V,cond_false,if_neg V,copy_eq ((Rn.1 c).small (Dr b)),bnd]
      · rw[dT d,cond_true,if_pos d]
    · rw[dT c,cond_true,if_pos c]
  · rw[if_pos b,if_pos b,dT b,cond_true]
def oV(a:List aX):LX.State:=⟨[⟨0,0,List.replicate (((idx a 0).map (fun x:aX=>x.regs)).getD 0).toNat ⟨0,0⟩,0⟩],[],0,0⟩
theorem N8{a:List aX}(b:kU a):∃x,idx a 0=some x:=by
 have:=b.many;cases a with
 |nil=>simp at this
 |cons x l=>exact⟨x,EG x l⟩
theorem YT(a:List aX):JI a=some (if SS a≠0 then(⟨[],[],0,0⟩,SS a)else(oV a,0)):=by
  unfold JI;rw[Rm,bnd];by_cases b:SS a=0
  · rw[dF V,cond_false,if_neg V];obtain⟨x,c⟩:=N8<|Dr b;have:=((Dr b).mem c).2.2.1;rw[c,bnd,uY V];unfold oV;rw[c];rfl
  · rw[dT b,cond_true,if_pos b]
theorem Tn{a:List aX}(d:kU a):vH a (oV a):=by
  obtain⟨x,b⟩:=N8 d;have e:=d.mem b;have h:=e.2.2.2;unfold sK at h;refine⟨by simp[oV],by simp[oV],by simp[oV],by simp[oV],by simp[oV],⟨by simp[oV],fun c g=>by simp[oV]at g⟩,⟨x,b,by simp only;omega,?_,fun v f=>?_⟩,by simp,trivial⟩
  · simp only[b,Option.map_some,Option.getD_some,List.length_replicate];omega
  · have:=List.eq_of_mem_replicate f;subst this;unfold fV;simp
theorem Vt{cells:List (List Val)}{i:Nat}(h:i<cells.length):cellAt cells (i:Int)=cells[i]:=by unfold cellAt;rw[oJ h];rfl
def wake(s:LX.State):LX.State:=if s.status=3 then⟨s.frames,s.cells,0,0⟩else s
def stepW(a:List aX)(s:LX.State):Option (LX.State×List Int):=
 if(wake s).status≠0 then none else match ko a (wake s)with
  |none=>some ({wake s with status:=2},[])
  |some (t,o,_)=>some (t,o.toList)
def lK(a:List aX):Nat->LX.State->LX.State×List Int
 |0,s=>(s,[])
 |n+1,s=>match stepW a s with
  |none=>(s,[])
  |some (t,o)=>((lK a n t).1,o++(lK a n t).2)
theorem Bq{a:List aX}{s:LX.State}(h:(wake s).status≠0):∀n,lK a n s=(s,[])
 |0=>rfl
 |n+1=>by unfold lK stepW;rw[if_pos h]
theorem H7{a:List aX}{s:LX.State}(h:stepW a s=none):∀n,lK a n s=(s,[])
 |0=>rfl
 |n+1=>by unfold lK;rw[h]
theorem jJ{a:List aX}{s t:LX.State}{o:List Int}(h:stepW a s=some (t,o))(n:Nat):lK a (n+1) s=((lK a n t).1,o++(lK a n t).2):=by
 conv=>lhs;unfold lK
 rw[h]
theorem AJ{a:List aX}:∀(j k:Nat) (s:LX.State),lK a (j+k) s=((lK a k (lK a j s).1).1,(lK a j s).2++(lK a k (lK a j s).1).2)
 |0,k,s=>by rw[Nat.zero_add];rfl
 |j+1,k,s=>by
  rw[show j+1+k=(j+k)+1 by omega];cases e:stepW a s with
  |none=>rw[H7 e,H7 e,H7 e];rfl
  |some q=>
   obtain⟨t,o⟩:=q;rw[jJ e,jJ e,AJ j k t];simp only[List.append_assoc]
theorem iG{s:LX.State}(h:s.status=0):wake s=s:=by unfold wake;rw[if_neg V]
theorem KL(s:LX.State):wake (wake s)=wake s:=by
  unfold wake;by_cases h:s.status=3
  · rw[if_pos h,if_neg zq3]
  · rw[if_neg h,if_neg h]
theorem Vu(a:List aX)(s:LX.State):stepW a (wake s)=stepW a s:=by unfold stepW;rw[KL]
theorem Vv{a:List aX}{s:LX.State}{n:Nat}(h:1<=n)(b:(wake s).status=0):lK a n (wake s)=lK a n s:=by
 obtain⟨m,rfl⟩:∃m,n=m+1:=⟨n-1,by omega⟩;have e:=Vu a s;cases e2:stepW a s with
 |none=>
  exfalso;unfold stepW at e2;rw[if_neg V]at e2;cases e3:ko a (wake s)with
  |none=>rw[e3]at e2;cases e2
  |some q=>rw[e3]at e2;cases e2
 |some q=>
  obtain⟨t,o⟩:=q;rw[jJ e2,jJ (e.trans e2)]
def p9(a:List aX)(fuel:Nat):Nat->List Int->LX.State->List Int×LX.State
 |0,all,s=>(all,s)
 |t+1,all,s=>if(wake s).status≠0 then(all,s)else p9 a fuel t (all++(qc a fuel [] 0 (wake s)).2.1) (qc a fuel [] 0 (wake s)).1
theorem N9{a:List aX}{fuel:Nat}{s:LX.State}(h:(wake s).status≠0)(b:List Int):∀t,p9 a fuel t b s=(b,s)
 |0=>rfl
 |t+1=>by unfold p9;rw[if_pos h]
theorem Tp{a:List aX}{fuel:Nat}{s:LX.State}(h:¬(wake s).status≠0)(b:List Int)(t:Nat):p9 a fuel (t+1) b s=p9 a fuel t (b++(qc a fuel [] 0 (wake s)).2.1) (qc a fuel [] 0 (wake s)).1:=by
 conv=>lhs;unfold p9
 rw[if_neg h]
theorem KM{s:LX.State}(a:s.status≠0)(b:s.status≠3):(wake s).status≠0:=by unfold wake;rw[if_neg b];exact a
section
variable{I:List Int}(hI:I.length<=1200)
include hI
omit hI in
end
open Go Go.Proofs Go.LX
theorem Rs{a:List aX}{s:LX.State}(h:vH a s):vH a (wake s):=by
  unfold wake;by_cases b:s.status=3
  · rw[if_pos b];refine⟨by simp,by simp,fun _=>rfl,?_,h.many,h.cells,h.frames⟩;have:=h.ended;constructor
    · intro e;simp at e
    · intro e;have:=h.ended.2 e;omega
  · rw[if_neg b];exact h
theorem WN(s:LX.State)(h:s.status=3):wake s=⟨s.frames,s.cells,0,0⟩:=if_pos h
namespace Cm
structure MS where
 said:List Int
 left:Int
 cells:List (List Val)
 deep:Int
inductive Out (α:Type) where
 |ok (x:α) (m:MS)
 |bad (said:List Int)
 |short
def Out.bind{α β:Type}(r:Out α)(k:α->MS->Out β):Out β:=match r with
 | .ok x m=>k x m
 | .bad l=>.bad l
 | .short=>.short
def tick{β:Type}(m:MS)(k:MS->Out β):Out β:=if m.left-1<0 then .short else k ⟨m.said,m.left-1,m.cells,m.deep⟩
def vO(a:List dw)(k:Int):Nat:=(((idx a k).map (fun x:dw=>x.params)).getD 0).toNat
def nZ(a:List dw)(t:Tok):Nat:=if t.kind=3 then 2 else if t.kind=4 then 1 else if t.kind=6 then vO a t.n else 0
abbrev VF:=List Tok->List Val->MS->Out (Val×Nat)
abbrev SF:=List aN->List Val->MS->Out (Option Val×List Val)
abbrev RF:=Int->List Val->MS->Out Val
def Ex(a:VF)(b:List Val):Nat->List Tok->MS->Out (List Val×Nat)
 |0,_,m=>.ok ([],0) m
 |k+1,e,m=>(a e b m).bind fun v m=>(Ex a b k (e.drop v.2) m).bind fun q m=>.ok (v.1::q.1,v.2+q.2) m
def noCell(cells:List (List Val))(v:Val)(i:Int):Prop:=v.kind≠2\/((cellAt cells v.n).length:Int)<=i
instance (cells:List (List Val)) (v:Val) (i:Int):Decidable (noCell cells v i):=by unfold noCell;infer_instance
def Tq(R:RF)(t:Tok)(a b:List Val)(m:MS):Out Val:=
 if t.kind=1 then .ok ⟨1,t.n⟩ m else
 if t.kind=2 then .ok (dP a t.n) m else
 if t.kind=3 then(match TM t.n (dP b 0) (dP b 1)with|some v=>.ok v m|none=>.bad m.said)else
 if t.kind=4 then(if noCell m.cells (dP b 0) t.n then .bad m.said else .ok (dP (cellAt m.cells (dP b 0).n) t.n) m)else
 if t.kind=5 then(if m.cells.length=24 then .short else .ok ⟨2,m.cells.length⟩ ⟨m.said,m.left,m.cells++[List.replicate t.n.toNat ⟨0,0⟩],m.deep⟩)else
 R t.n b m
def valR(a:List dw)(b:VF)(R:RF):VF:=fun e c m=>match e with
 |[]=>.short
 |t::r=>tick m fun m=>(Ex b c (nZ a t) r m).bind fun q m=>(Tq R t c q.1 m).bind fun v m=>.ok (v,1+q.2) m
def uC(v:Val):Prop:=v.kind=2\/v.n≠0
instance (v:Val):Decidable (uC v):=by unfold uC;infer_instance
def yL(b:VF)(S:SF)(s:aN):Nat->Val->List Val->MS->Out (Option Val×List Val)
 |0,_,_,_=>.short
 |n+1,v,vars,m=>if uC v then(S s.a vars m).bind fun q m=>match q.1 with
   |some w=>.ok (some w,q.2) m
   |none=>tick m fun m=>(b s.e q.2 m).bind fun x m=>yL b S s n x.1 q.2 m
  else .ok (none,vars) m
def Oa(a:VF)(s:aN)(b:List Val)(m:MS):Out (Val×Nat):=if s.e=[]then .ok (⟨0,0⟩,0) m else a s.e b m
def TN(c:VF)(S:SF)(N:Nat)(s:aN)(d:List Val)(v:Val)(m:MS):Out (Option Val×List Val):=
 if(s.kind=3\/s.kind=5)/\v.kind≠1 then .bad m.said else
 if s.kind=1 then .ok (none,d.set s.n.toNat v) m else
 if s.kind=2 then(c s.f d m).bind fun w m=>if noCell m.cells v s.n then .bad m.said else .ok (none,d) ⟨m.said,m.left,m.cells.set v.n.toNat ((cellAt m.cells v.n).set s.n.toNat w.1),m.deep⟩else
 if s.kind=3 then .ok (none,d) ⟨m.said++[v.n],m.left,m.cells,m.deep⟩else
 if s.kind=8 then .ok (some v,d) m else
 if s.kind=6 then S (if uC v then s.a else s.b) d m else
 if s.kind=7 then yL c S s N v d m else .ok (none,d) m
def LB(a:VF)(S:SF)(N:Nat):SF
 |[],vars,m=>.ok (none,vars) m
 |s::l,vars,m=>tick m fun m=>(Oa a s vars m).bind fun x m=>(TN a S N s vars x.1 m).bind fun q m=>match q.1 with
  |some w=>.ok (some w,q.2) m
  |none=>LB a S N l q.2 m
def zeros(n:Int)(a:List Val):List Val:=a++List.replicate (n-a.length).toNat ⟨0,0⟩
def YU(a:List dw)(S:SF):RF:=fun k b m=>
 if m.deep=10 then .bad m.said else match idx a k with
 |none=>.short
 |some x=>(S x.body (zeros x.locals b) ⟨m.said,m.left,m.cells,m.deep+1⟩).bind fun q m=>.ok (q.1.getD ⟨1,0⟩) ⟨m.said,m.left,m.cells,m.deep-1⟩
structure Ev where
 val:VF
 sts:SF
 run:RF
def ev(a:List dw):Nat->Ev
 |0=>⟨fun _ _ _=>.short,fun _ _ _=>.short,fun _ _ _=>.short⟩
 |N+1=>⟨valR a (ev a N).val (ev a N).run,LB (ev a N).val (ev a N).sts N,YU a (ev a N).sts⟩
def uV(a:List dw)(t:Tok)(b:Int):Ins:=
 if t.kind=1 then⟨1,b,t.n,0,[]⟩else if t.kind=2 then⟨2,b,t.n,0,[]⟩else if t.kind=3 then⟨3,b,b,b+1,[t.n]⟩else
 if t.kind=4 then⟨4,b,b,t.n,[]⟩else if t.kind=5 then⟨5,b,t.n,0,[]⟩else⟨7,b,t.n,0,(List.range (vO a t.n)).map (fun j:Nat=>b+(j:Int))⟩
structure YV(F:List dw)(L:Int)(t:Tok):Prop where
 kind:1<=t.kind/\t.kind<=6
 var:t.kind=2->0<=t.n/\t.n<L
 fld:t.kind=4->0<=t.n
 fn:t.kind=6->0<=t.n/\t.n<F.length
inductive CX (F:List dw) (L R:Int):Nat->List Tok->Int->List Ins->Prop
 |nil (tg:Int):CX F L R 0 [] tg []
 |cons {w:Nat} {t:Tok} {e1 e2:List Tok} {tg:Int} {c1 c2:List Ins} (ht:YV F L t) (hr:0<=tg/\tg<R) (h1:CX F L R (nZ F t) e1 tg c1) (h2:CX F L R w e2 (tg+1) c2):CX F L R (w+1) (t::e1++e2) tg (c1++uV F t tg::c2)
inductive CS (F:List dw) (L R:Int):Nat->List aN->List Ins->Prop
 |nil (p:Nat):CS F L R p [] []
 |set {p:Nat} {s:aN} {l:List aN} {c1 c2:List Ins} (hk:s.kind=1) (hn:0<=s.n/\s.n<L) (h1:CX F L R 1 s.e L c1) (h2:CS F L R (p+c1.length+1) l c2):CS F L R p (s::l) (c1++⟨2,s.n,L,0,[]⟩::c2)
 |put {p:Nat} {s:aN} {l:List aN} {c1 c2 c3:List Ins} (hk:s.kind=2) (hn:0<=s.n) (h1:CX F L R 1 s.e L c1) (h2:CX F L R 1 s.f (L+1) c2) (h3:CS F L R (p+c1.length+c2.length+1) l c3):CS F L R p (s::l) (c1++c2++⟨6,L,L+1,s.n,[]⟩::c3)
 |say {p:Nat} {s:aN} {l:List aN} {c1 c2:List Ins} (hk:s.kind=3) (h1:CX F L R 1 s.e L c1) (h2:CS F L R (p+c1.length+1) l c2):CS F L R p (s::l) (c1++⟨9,L,0,0,[]⟩::c2)
 |pause {p:Nat} {s:aN} {l:List aN} {c2:List Ins} (hk:s.kind=4) (he:s.e=[]) (h2:CS F L R (p+1) l c2):CS F L R p (s::l) (⟨10,0,0,0,[]⟩::c2)
 |go {p:Nat} {s:aN} {l:List aN} {c1 c2:List Ins} (hk:s.kind=5) (h1:CX F L R 1 s.e L c1) (h2:CS F L R (p+c1.length+1) l c2):CS F L R p (s::l) (c1++⟨11,L,0,0,[]⟩::c2)
 |ret {p:Nat} {s:aN} {l:List aN} {c1 c2:List Ins} (hk:s.kind=8) (h1:CX F L R 1 s.e L c1) (h2:CS F L R (p+c1.length+1) l c2):CS F L R p (s::l) (c1++⟨8,L,0,0,[]⟩::c2)
 |ite {p:Nat} {s:aN} {l:List aN} {c1 ca cb c2:List Ins} (hk:s.kind=6) (h1:CX F L R 1 s.e L c1) (ha:CS F L R (p+c1.length+1) s.a ca) (hb:CS F L R (p+c1.length+1+ca.length+1) s.b cb)
  (h2:CS F L R (p+c1.length+1+ca.length+1+cb.length) l c2):CS F L R p (s::l) (c1++⟨13,L,(p+c1.length+1+ca.length+1:Nat),0,[]⟩::(ca++⟨12,0,(p+c1.length+1+ca.length+1+cb.length:Nat),0,[]⟩::(cb++c2)))
 |loop {p:Nat} {s:aN} {l:List aN} {c1 ca c2:List Ins} (hk:s.kind=7) (h1:CX F L R 1 s.e L c1) (ha:CS F L R (p+c1.length+1) s.a ca)
  (h2:CS F L R (p+c1.length+1+ca.length+1) l c2):CS F L R p (s::l) (c1++⟨13,L,(p+c1.length+1+ca.length+1:Nat),0,[]⟩::(ca++⟨12,0,(p:Int),0,[]⟩::c2))
theorem CX.some{a:List dw}{L R:Int}{e:List Tok}{b:Int}{c:List Ins}(h:CX a L R 1 e b c):e≠[]:=by
 cases h;simp
structure PG(F:List dw)(x:dw)(y:aX):Prop where
 code:∃c,y.code=c++[⟨1,x.locals,0,0,[]⟩,⟨8,x.locals,0,0,[]⟩]/\CS F x.locals y.regs 0 x.body c
 regs:x.locals<y.regs
 LV:0<=x.params/\x.params<=x.locals
structure Made(F:List dw)(a:List aX):Prop where
 len:a.length=F.length
 all:∀k x,idx F k=some x->∃y,idx a k=some y/\PG F x y
def cost(o:Option Int)(p:Bool):Nat:=if p then 2000 else if o.isSome then 50 else 1
inductive Way (a:List aX):LX.State->Nat->List Int->LX.State->Prop
 |refl (s:LX.State):Way a s 0 [] s
 |step {s t u:LX.State} {o:Option Int} {p:Bool} {n:Nat} {l:List Int} (h0:(wake s).status=0) (h:ko a (wake s)=some (t,o,p)) (r:Way a t n l u):Way a s (cost o p+n) (o.toList++l) u
theorem Way.trans{a:List aX}{s t u:LX.State}{n m:Nat}{l k:List Int}(c:Way a s n l t)(b:Way a t m k u):Way a s (n+m) (l++k) u:=by
 induction c with
 |refl s=>rw[Nat.zero_add];exact b
 |step h0 h r ih=>rw[Nat.add_assoc,List.append_assoc];exact Way.step h0 h (ih b)
theorem Way.one{a:List aX}{s t:LX.State}{o:Option Int}{p:Bool}(b:(wake s).status=0)(h:ko a (wake s)=some (t,o,p)):Way a s (cost o p) o.toList t:=by
 have:=Way.step b h<|Way.refl t;rwa[Nat.add_zero,List.append_nil]at this
structure At(a:List aX)(s:LX.State)(pre:List LX.Frame)(k:Int)(y:aX)(p:Nat)(regs:List Val)(iN:Int)(cells:List (List Val)):Prop where
 here:wake s=⟨pre++[⟨k,p,regs,iN⟩],cells,0,0⟩
 proc:idx a k=some y
 len:(regs.length:Int)=y.regs
theorem At.ready{a:List aX}{s:LX.State}{pre:List LX.Frame}{k:Int}{y:aX}{p:Nat}{b:List Val}{c:Int}{cells:List (List Val)}(h:At a s pre k y p b c cells):(wake s).status=0:=by rw[h.here]
def Seg(C:List Ins)(p:Nat)(c:List Ins):Prop:=∃u v,C=u++(c++v)/\u.length=p/\v≠[]
theorem Seg.left'{C:List Ins}{p:Nat}{c d:List Ins}(h:Seg C p (c++d)):Seg C p c:=by
 obtain⟨u,v,e,b,a⟩:=h;exact⟨u,d++v,by rw[e,List.append_assoc],b,by simp[a]⟩
theorem Seg.right{C:List Ins}{p:Nat}{c d:List Ins}(h:Seg C p (c++d)):Seg C (p+c.length) d:=by
 obtain⟨u,v,e,b,a⟩:=h;exact⟨u++c,v,by rw[e];simp only[List.append_assoc],by rw[List.length_append,b],a⟩
theorem Seg.next{C:List Ins}{p:Nat}{i:Ins}{d:List Ins}(h:Seg C p (i::d)):Seg C (p+1) d:=by
 have:=Seg.right (c:=[i]) (d:=d) (by simpa using h);simpa using this
theorem Seg.ins{C:List Ins}{p:Nat}{i:Ins}{d:List Ins}(h:Seg C p (i::d)):idx C (p:Int)=some i/\min ((p:Int)+1) ((C.length:Int)-1)=((p+1:Nat):Int):=by
 obtain⟨u,v,c,b,e⟩:=h;have f:1<=v.length:=by
  cases v with
  |nil=>exact absurd Z e
  |cons x v=>simp
 have g:C.length=p+(d.length+1+v.length):=by rw[c];simp[b];omega
 have a:p<C.length:=by omega
 refine⟨?_,by omega⟩;rw[oJ a];congr 1;subst b;simp[c]
theorem At.step{a:List aX}{s:LX.State}{pre:List LX.Frame}{k:Int}{y:aX}{p:Nat}{b:List Val}{c:Int}{cells:List (List Val)}(h:At a s pre k y p b c cells){i:Ins}{d:List Ins}(g:Seg y.code p (i::d)):
  ko a (wake s)=iQ a pre ⟨k,p,b,c⟩ cells 0 0 y i/\N7 ⟨k,p,b,c⟩ y=⟨k,(p+1:Nat),b,c⟩:=by
 obtain⟨f,e⟩:=g.ins;refine⟨?_,by unfold N7;simp only;rw[e]⟩;rw[h.here];unfold ko Qd;simp only[List.getLast?_append,List.getLast?_singleton,Option.some_or,List.dropLast_concat,Option.bind_some,h.proc,f,Option.map_some]
end Cm
open Go Go.Proofs Go.LX
namespace Cm
theorem yM(r:List Val)(j:Nat):dP r (j:Int)=(r[j]?).getD ⟨0,0⟩:=by unfold dP;rw[pF]
theorem uW{r:List Val}{i:Int}(a:0<=i)(h:i<(r.length:Int))(v:Val){j:Int}(b:0<=j):dP (r.set i.toNat v) j=if j=i then v else dP r j:=by
  obtain⟨n,rfl⟩:=Int.eq_ofNat_of_zero_le a;obtain⟨m,rfl⟩:=Int.eq_ofNat_of_zero_le b;rw[yM,yM,Int.toNat_natCast,List.getElem?_set];by_cases e:n=m
  · subst e;rw[if_pos rfl,if_pos V,if_pos rfl];rfl
  · rw[if_neg e,if_neg V]
structure Inv(a:List aX)(L:Int)(s:LX.State)(pre:List LX.Frame)(k:Int)(y:aX)(p:Nat)(regs:List Val)(iN:Int)(vars:List Val)(m:MS):Prop where
 at_:At a s pre k y p regs iN m.cells
 agree:∀i,0<=i->i<L->dP regs i=dP vars i
 FE:(vars.length:Int)=L
 deep:m.deep=(pre.length:Int)+1
 left:0<=m.left
structure Does(a:List aX)(s:LX.State)(m:MS)(t:LX.State)(m':MS)(more:Int):Prop where
 way:∃w o,Way a s w o t/\m'.said=m.said++o/\(w:Int)<=2003*(m.left-m'.left)+more
 left:m'.left<=m.left
theorem Does.refl{a:List aX}{s:LX.State}{m:MS}:Does a s m s m 0:=⟨⟨0,[],Way.refl s,by simp,by omega⟩,Int.le_refl _⟩
theorem Does.trans{a:List aX}{s t u:LX.State}{m m' b:MS}{x y:Int}(g:Does a s m t m' x)(f:Does a t m' u b y):Does a s m u b (x+y):=by
 obtain⟨⟨w,o,c,d,k⟩,i⟩:=g;obtain⟨⟨v,q,h,e,j⟩,l⟩:=f;exact⟨⟨w+v,o++q,c.trans h,by rw[e,d,List.append_assoc],by omega⟩,by omega⟩
theorem Does.more{a:List aX}{s t:LX.State}{m m':MS}{x y:Int}(h:Does a s m t m' x)(e:x<=y):Does a s m t m' y:=by
 obtain⟨⟨w,o,b,d,f⟩,c⟩:=h;exact⟨⟨w,o,b,d,by omega⟩,c⟩
def Fails(a:List aX)(s:LX.State)(m:MS)(l:List Int)(more:Int):Prop:=
 ∃t w o,Way a s w o t/\l=m.said++o/\(w:Int)<=2003*m.left+more/\(wake t).status=0/\ko a (wake t)=none
theorem Does.fails{a:List aX}{s t:LX.State}{m m':MS}{x y:Int}{l:List Int}(g:Does a s m t m' x)(f:Fails a t m' l y):Fails a s m l (x+y):=by
 obtain⟨⟨w,o,b,c,n⟩,j⟩:=g;obtain⟨u,v,q,i,e,k,h,d⟩:=f;exact⟨u,w+v,o++q,b.trans i,by rw[e,c,List.append_assoc],by omega,h,d⟩
theorem Fails.more{a:List aX}{s:LX.State}{m:MS}{l:List Int}{x y:Int}(h:Fails a s m l x)(g:x<=y):Fails a s m l y:=by
 obtain⟨u,v,q,b,d,f,e,c⟩:=h;exact⟨u,v,q,b,d,by omega,e,c⟩
theorem Fails.here{a:List aX}{s:LX.State}{m:MS}(c:0<=m.left)(b:(wake s).status=0)(h:ko a (wake s)=none):Fails a s m m.said 0:=⟨s,0,[],Way.refl s,by simp,by omega,b,h⟩
def Ob(a:List aX)(L:Int)(y:aX)(k f:Int)(pre:List LX.Frame)(c:List Val)(b:List Val)(e:Int)(q:Nat)(v:Val)(s:LX.State)(m m':MS)(more:Int):Prop:=
 ∃t d,Does a s m t m' more/\Inv a L t pre k y q d f b m'/\dP d e=v/\∀i,0<=i->i<e->dP d i=dP c i
def Vw(b:List dw)(a:List aX)(d:VF):Prop:=∀(L:Int) (y:aX) (s:LX.State) (pre:List LX.Frame) (k:Int) (p:Nat) (g:List Val) (i:Int) (f:List Val) (m:MS) (e rest:List Tok) (h:Int) (c:List Ins),
 Inv a L s pre k y p g i f m->Seg y.code p c->CX b L y.regs 1 e h c->L<=h->match d (e++rest) f m with
 | .ok x m'=>x.2=e.length/\Ob a L y k i pre g f h (p+c.length) x.1 s m m' 0
 | .bad l=>Fails a s m l 0
 | .short=>True
def Od(t:LX.State)(pre:List LX.Frame)(a:Int)(v:Val)(cells:List (List Val)):Prop:=
 match pre.getLast? with
 |none=>t=⟨[],cells,1,0⟩
 |some h=>wake t=⟨pre.dropLast++[{h with regs:=h.regs.set a.toNat v}],cells,0,0⟩
structure SimR(F:List dw)(a:List aX)(R:RF):Prop where
 ten:∀(k:Int) (az:List Val) (m:MS),m.deep=10->R k az m=.short\/R k az m=.bad m.said
 go:∀(s:LX.State) (pre:List LX.Frame) (k tg:Int) (az:List Val) (m:MS) (x:dw) (y:aX),
  idx F k=some x->idx a k=some y->(az.length:Int)=x.params->wake s=⟨pre++[⟨k,0,zeros y.regs az,tg⟩],m.cells,0,0⟩->m.deep=(pre.length:Int)->m.deep≠10->0<=m.left->match R k az m with
  | .ok v m'=>∃t,Does a s m t m' 2/\Od t pre tg v m'.cells/\m'.deep=m.deep/\0<=m'.left
  | .bad l=>Fails a s m l 2
  | .short=>True
def GotA(a:List aX)(L:Int)(y:aX)(k g:Int)(pre:List LX.Frame)(c:List Val)(b:List Val)(e:Int)(q:Nat)(f:List Val)(s:LX.State)(m m':MS):Prop:=
 ∃t d,Does a s m t m' 0/\Inv a L t pre k y q d g b m'/\(∀j:Nat,j<f.length->dP d (e+j)=dP f j)/\∀i,0<=i->i<e->dP d i=dP c i
theorem Tt{b:List dw}{a:List aX}{d:VF}(E:Vw b a d):∀(w:Nat) (L:Int) (y:aX) (s:LX.State) (pre:List LX.Frame) (k:Int) (p:Nat) (h:List Val) (o:Int) (f:List Val) (m:MS) (e rest:List Tok) (n:Int) (c:List Ins),
    Inv a L s pre k y p h o f m->Seg y.code p c->CX b L y.regs w e n c->L<=n->0<=L->match Ex d f w (e++rest) m with
    | .ok x m'=>x.2=e.length/\x.1.length=w/\GotA a L y k o pre h f n (p+c.length) x.1 s m m'
    | .bad l=>Fails a s m l 0
    | .short=>True
  |0,L,y,s,pre,k,p,h,o,f,m,e,rest,n,c,hi,hs,hc,hL,hL0=>by
    cases hc;refine⟨Z,Z,s,h,Does.refl,hi,fun j z=>?_,fun i _ _=>rfl⟩;simp at z
  |w+1,L,y,s,pre,k,p,h,o,f,m,e,rest,n,c,hi,hs,hc,hL,hL0=>by
    cases hc with
    | @cons w t e1 e2 n c1 c2 ht hr h1 h2=>
    have u:Seg y.code p ((c1++[uV b t n])++c2):=by simpa using hs
    have T:CX b L y.regs 1 (t::e1) n (c1++[uV b t n]):=by
      have:=CX.cons ht hr h1<|CX.nil<|n+1;simpa using this
    have g:=E L y s pre k p h o f m (t::e1) (e2++rest) n _ hi u.left' T hL;have S:t::e1++e2++rest=(t::e1)++(e2++rest):=by simp
    unfold Ex;rw[S];cases hv:d ((t::e1)++(e2++rest)) f m with
    |short=>trivial
    |bad l=>rw[hv]at g;exact g
    |ok v m1=>
      rw[hv]at g;obtain⟨G,N,J,B,Q,O,P⟩:=g;simp only[Out.bind];rw[show List.drop v.2 (t::e1++(e2++rest))=e2++rest by rw[G,List.drop_left]];have q:=Tt E w L y N pre k _ J o f m1 e2 rest (n+1) c2 Q u.right h2 V hL0;cases hq:Ex d f w (e2++rest) m1 with
      |short=>trivial
      |bad l=>rw[hq]at q;exact(B.fails q).more V
      |ok x m2=>
        rw[hq]at q;obtain⟨X,q2,I,M,R,K,q5,C⟩:=q;refine⟨?_,by simp[q2],I,M,(B.trans R).more V,?_,?_,fun i r A=>?_⟩
        · show v.2+x.2=_;rw[G,X];simp;omega
        · have:p+(c1++uV b t n::c2).length=p+(c1++[uV b t n]).length+c2.length:=by simp;omega
          rw[this];exact K
        · intro j z;cases j with
          |zero=>
            rw[show n+((0:Nat):Int)=n by omega,C n V V,O];rfl
          |succ j=>
            have:=q5 j (by simpa using z);rw[show n+((j+1:Nat):Int)=n+1+(j:Int) by omega,this,yM,yM];rfl
        · rw[C i r V,P i r A]
end Cm
open Go Go.Proofs Go.LX
namespace Cm
theorem Does.tick{a:List aX}{s:LX.State}{m:MS}(h:¬m.left-1<0):Does a s m s ⟨m.said,m.left-1,m.cells,m.deep⟩ (-2003):=⟨⟨0,[],Way.refl s,by simp,by simp only;omega⟩,by simp only;omega⟩
theorem Does.one{a:List aX}{s t:LX.State}{m m':MS}{o:Option Int}{p:Bool}(c:(wake s).status=0)(h:ko a (wake s)=some (t,o,p))(b:m'.said=m.said++o.toList)(d:m'.left=m.left):Does a s m t m' (cost o p):=
 ⟨⟨_,_,Way.one c h,b,by omega⟩,by omega⟩
theorem FH{a:List aX}{L:Int}{s:LX.State}{pre:List LX.Frame}{k:Int}{y:aX}{p:Nat}{r:List Val}{g:Int}{c:List Val}{m m':MS}{e:Int}{v:Val}{i:Ins}{d:List Ins}
    (b:Inv a L s pre k y p r g c m) (t:Seg y.code p (i::d)) (x:L<=e) (f:0<=e) (w:e<y.regs)
    (j:iQ a pre ⟨k,p,r,g⟩ m.cells 0 0 y i=some (⟨pre++[⟨k,(p+1:Nat),r.set e.toNat v,g⟩],m'.cells,0,0⟩,none,false)) (q:m'.said=m.said) (o:m'.left=m.left) (u:m'.deep=m.deep):Ob a L y k g pre r c e (p+1) v s m m' 1:=by
  have l:e<(r.length:Int):=by rw[b.at_.len];exact w
  refine⟨_,r.set e.toNat v,Does.one b.at_.ready ((b.at_.step t).1.trans j) (by simp[q]) o,⟨⟨?_,b.at_.proc,by rw[List.length_set];exact b.at_.len⟩,fun i h n=>?_,b.FE,by rw[u];exact b.deep,by rw[o];exact b.left⟩,?_,fun i h n=>?_⟩
  · exact iG Z
  · rw[uW f l v h,if_neg V];exact b.agree i h n
  · rw[uW f l v f,if_pos rfl]
  · rw[uW f l v h,if_neg V]
theorem Ob.after{a:List aX}{L:Int}{y:aX}{k e:Int}{pre:List LX.Frame}{j r:List Val}{b:List Val}{c:Int}{q:Nat}{v:Val}{s t:LX.State}{m d m':MS}{x z:Int}
  (g:Ob a L y k e pre r b c q v t d m' z) (h:Does a s m t d x) (w:∀i,0<=i->i<c->dP r i=dP j i):Ob a L y k e pre j b c q v s m m' (x+z):=by
 obtain⟨u,n,B,p,A,o⟩:=g;exact⟨u,n,h.trans B,p,A,fun i l f=>by rw[o i l f,w i l f]⟩
theorem Ob.more{a:List aX}{L:Int}{y:aX}{k d:Int}{pre:List LX.Frame}{e:List Val}{b:List Val}{c:Int}{q:Nat}{v:Val}{s:LX.State}{m m':MS}{x z:Int}
  (g:Ob a L y k d pre e b c q v s m m' x) (h:x<=z):Ob a L y k d pre e b c q v s m m' z:=by
 obtain⟨u,f,n,i,l,j⟩:=g;exact⟨u,f,n.more h,i,l,j⟩
theorem end_sim{b:List dw}{a:List aX}{R:RF}(hM:Made b a)(hR:SimR b a R){L:Int}{y:aX}{s:LX.State}{pre:List LX.Frame}{k:Int}{p:Nat}{r:List Val}{A:Int}{C c:List Val}{m:MS}{t:Tok}{f:Int}{d:List Ins}
    (o:Inv a L s pre k y p r A C m) (N:Seg y.code p (uV b t f::d)) (ht:YV b L t) (q:0<=f/\f<y.regs) (Q:L<=f) (I:c.length=nZ b t) (G:∀j:Nat,j<c.length->dP r (f+j)=dP c j):
    match Tq R t C c m with
    | .ok v m'=>Ob a L y k A pre r C f (p+1) v s m m' 3
    | .bad l=>Fails a s m l 3
    | .short=>True:=by
  have a0:=(o.at_.step N).1;have O:=(o.at_.step N).2;have w:iQ a pre ⟨k,p,r,A⟩ m.cells 0 0 y (uV b t f)=none->Fails a s m m.said 3:=fun h=>(Fails.here o.left o.at_.ready<|a0.trans h).more V;unfold Tq;by_cases M:t.kind=1
  · rw[if_pos M];refine(FH o N Q q.1 q.2 ?_ Z Z Z).more V;unfold uV iQ;rw[if_pos M,O];rfl
  rw[if_neg M];by_cases J:t.kind=2
  · rw[if_pos J];refine(FH o N Q q.1 q.2 ?_ Z Z Z).more V;have hv:=ht.var J;unfold uV iQ;rw[if_neg M,if_pos J,O,<-o.agree _ hv.1 hv.2];rfl
  rw[if_neg J];by_cases E:t.kind=3
  · rw[if_pos E];have ha:c.length=2:=by rw[I];unfold nZ;rw[if_pos E]
    have T:=G 0 V;have P:=G 1 V;simp only[Int.natCast_zero,Int.add_zero,Int.natCast_one]at T P;have e:iQ a pre ⟨k,p,r,A⟩ m.cells 0 0 y (uV b t f)=(TM t.n (dP c 0)<|dP c 1).map fun v=>((⟨pre++[⟨k,(p+1:Nat),r.set f.toNat v,A⟩],m.cells,0,0⟩:LX.State),none,false):=by
      unfold uV iQ;rw[if_neg M,if_neg J,if_pos E,O,<-T,<-P];rfl
    cases ho:TM t.n (dP c 0) (dP c 1)with
    |none=>rw[ho]at e;exact w e
    |some v=>rw[ho]at e;exact(FH o N Q q.1 q.2 e Z Z Z).more V
  rw[if_neg E];by_cases K:t.kind=4
  · rw[if_pos K];have ha:c.length=1:=by rw[I];unfold nZ;rw[if_neg E,if_pos K]
    have T:=G 0 V;simp only[Int.natCast_zero,Int.add_zero]at T;have e:iQ a pre ⟨k,p,r,A⟩ m.cells 0 0 y (uV b t f)=if noCell m.cells (dP c 0) t.n then none else some ((⟨pre++[⟨k,(p+1:Nat),r.set f.toNat<|dP (cellAt m.cells (dP c 0).n) t.n,A⟩],m.cells,0,0⟩:LX.State),none,false):=by
      unfold uV iQ noCell;rw[if_neg M,if_neg J,if_neg E,if_pos K,O,<-T];rfl
    by_cases hb:noCell m.cells (dP c 0) t.n
    · rw[if_pos hb]at e⊢;exact w e
    · rw[if_neg hb]at e⊢;exact(FH o N Q q.1 q.2 e Z Z Z).more V
  rw[if_neg K];by_cases k5:t.kind=5
  · rw[if_pos k5];by_cases hc:m.cells.length=24
    · rw[if_pos hc];trivial
    · rw[if_neg hc];have e:iQ a pre ⟨k,p,r,A⟩ m.cells 0 0 y (uV b t f)=some ((⟨pre++[⟨k,(p+1:Nat),r.set f.toNat ⟨2,(m.cells.length:Int)⟩,A⟩],m.cells++[List.replicate t.n.toNat ⟨0,0⟩],0,0⟩:LX.State),none,false):=by
        unfold uV iQ;rw[if_neg M,if_neg J,if_neg E,if_neg K,if_pos k5,O];simp only[Int.reduceEq,if_false,if_true,OW,List.dropLast_concat,List.getLast?_append,List.getLast?_singleton,Option.some_or,Option.map_some,Option.toList_some];rw[if_neg hc];simp only[Int.reduceEq,if_false,if_true,OW,List.dropLast_concat,List.getLast?_append,List.getLast?_singleton,Option.some_or,Option.map_some,Option.toList_some];rw[if_neg hc];rfl
      have g:=FH (m':=⟨m.said,m.left,m.cells++[List.replicate t.n.toNat ⟨0,0⟩],m.deep⟩) o N Q q.1 q.2 e Z Z Z;exact Ob.more (z:=3) g V
  rw[if_neg k5];have k6:t.kind=6:=by have:=ht.kind;omega
  have hf:=ht.fn k6;obtain⟨n,hn⟩:=Int.eq_ofNat_of_zero_le hf.1;have hx:idx b t.n=some b[n]:=by rw[hn,oJ V]
  generalize b[n]=x at hx;obtain⟨z,hz,hg⟩:=hM.all _ _ hx;have hp:(c.length:Int)=x.params:=by
    rw[I];unfold nZ vO;rw[if_neg E,if_neg K,if_pos k6,hx];have:=hg.LV.1;simp only[Option.map_some,Option.getD_some];omega
  have B:((List.range<|vO b t.n).map fun j:Nat=>f+(j:Int)).map (dP r)=c:=by
    have X:vO b t.n=c.length:=by rw[I];unfold nZ;rw[if_neg E,if_neg K,if_pos k6]
    apply List.ext_getElem
    · simp[X]
    · intro j P h2;simp only[List.getElem_map,List.getElem_range];rw[G j h2,yM,List.getElem?_eq_getElem h2];rfl
  have e:iQ a pre ⟨k,p,r,A⟩ m.cells 0 0 y (uV b t f)=if pre.length+1=10 then none else some ((⟨pre++[⟨k,(p+1:Nat),r,A⟩]++[⟨t.n,0,zeros z.regs c,f⟩],m.cells,0,0⟩:LX.State),none,false):=by
    unfold uV iQ zeros;rw[if_neg M,if_neg J,if_neg E,if_neg K,if_neg k5,O];simp only[B,hz,Option.map_some,Option.getD_some];have a1:((List.range<|vO b t.n).map fun j:Nat=>f+(j:Int)).length=c.length:=by rw[<-B];simp
    rw[a1];rfl
  have hd:=o.deep;by_cases S:m.deep=10
  · rw[if_pos V]at e;rcases hR.ten t.n c m S with hh|hh
    · rw[hh];trivial
    · rw[hh];exact w e
  · rw[if_neg V]at e;have P:Does a s m _ m 1:=Does.one o.at_.ready (a0.trans e) zq3 Z;have g:=hR.go (⟨pre++[⟨k,(p+1:Nat),r,A⟩]++[⟨t.n,0,zeros z.regs c,f⟩],m.cells,0,0⟩:LX.State) (pre++[⟨k,(p+1:Nat),r,A⟩]) t.n f c m x z hx hz hp (iG Z) (by simp;omega) S o.left;cases hq:R t.n c m with
    |short=>trivial
    |bad l=>rw[hq]at g;exact(P.fails g).more V
    |ok v m'=>
      rw[hq]at g;obtain⟨u,g1,g2,g3,g4⟩:=g;unfold Od at g2;simp only[List.getLast?_append,List.getLast?_singleton,Option.some_or,List.dropLast_concat]at g2;have X:f<(r.length:Int):=by rw[o.at_.len];exact q.2
      refine⟨u,r.set f.toNat v,(P.trans g1).more V,⟨⟨g2,o.at_.proc,by rw[List.length_set];exact o.at_.len⟩,fun i i1 i2=>?_,o.FE,by rw[g3];exact o.deep,g4⟩,?_,fun i i1 i2=>?_⟩
      · rw[uW q.1 X v i1,if_neg V];exact o.agree i i1 i2
      · rw[uW q.1 X v q.1,if_pos rfl]
      · rw[uW q.1 X v i1,if_neg V]
theorem val_sim{b:List dw}{a:List aX}{d:VF}{R:RF}(N:Made b a)(K:Vw b a d)(J:SimR b a R):Vw b a (valR b d R):=by
  intro L y s pre k p i M f m e rest o c h z C u;have n:0<=L:=by have:=h.FE;omega
  cases C with
  | @cons w t e1 e2 o c1 c2 ht hr h1 h2=>
  cases h2;rw[List.append_nil];unfold valR tick;simp only[List.cons_append];by_cases r:m.left-1<0
  · rw[if_pos r];trivial
  · rw[if_neg r];have j:Does a s m s ⟨m.said,m.left-1,m.cells,m.deep⟩ (-2003):=Does.tick r;have g:=Tt K (nZ b t) L y s pre k p i M f ⟨m.said,m.left-1,m.cells,m.deep⟩ e1 rest o c1 ⟨h.at_,h.agree,h.FE,h.deep,by simp only;omega⟩ z.left' h1 u n;cases hq:Ex d f (nZ b t) (e1++rest) ⟨m.said,m.left-1,m.cells,m.deep⟩with
    |short=>trivial
    |bad l=>rw[hq]at g;exact(j.fails g).more V
    |ok x m2=>
      rw[hq]at g;obtain⟨O,E,Q,P,A,G,I,B⟩:=g;simp only[Out.bind];have q:=end_sim N J G z.right ht hr u E I;cases hz:Tq R t f x.1 m2 with
      |short=>trivial
      |bad l=>rw[hz]at q;exact((j.trans A).fails q).more V
      |ok v m3=>
        rw[hz]at q;refine⟨?_,?_⟩
        · show 1+x.2=_;rw[O];simp;omega
        · have e:p+(c1++[uV b t o]).length=p+c1.length+1:=by simp;omega
          rw[e];exact(q.after (j.trans A) B).more V
end Cm
open Go Go.Proofs Go.LX
namespace Cm
def GotS(a:List aX)(L:Int)(y:aX)(k b:Int)(pre:List LX.Frame)(q:Nat)(s:LX.State)(m:MS)(x:Option Val×List Val)(m':MS)(more:Int):Prop:=match x.1 with
 |none=>∃t r,Does a s m t m' more/\Inv a L t pre k y q r b x.2 m'
 |some v=>∃t,Does a s m t m' more/\Od t pre b v m'.cells/\m'.deep=(pre.length:Int)+1/\0<=m'.left
def El(a:List aX)(L:Int)(y:aX)(k b:Int)(pre:List LX.Frame)(q:Nat)(s:LX.State)(m:MS)(more:Int)(r:Out (Option Val×List Val)):Prop:=match r with
 | .ok x m'=>GotS a L y k b pre q s m x m' more
 | .bad l=>Fails a s m l more
 | .short=>True
def SimS(b:List dw)(a:List aX)(S:SF):Prop:=∀(L:Int) (y:aX) (s:LX.State) (pre:List LX.Frame) (k:Int) (p:Nat) (e:List Val) (f:Int) (d:List Val) (m:MS) (l:List aN) (c:List Ins),
 Inv a L s pre k y p e f d m->Seg y.code p c->CS b L y.regs p l c->L<y.regs->El a L y k f pre (p+c.length) s m 0 (S l d m)
theorem El.more{a:List aX}{L:Int}{y:aX}{k e:Int}{pre:List LX.Frame}{q:Nat}{s:LX.State}{m:MS}{x z:Int}{r:Out (Option Val×List Val)}(h:El a L y k e pre q s m x r)(b:x<=z):El a L y k e pre q s m z r:=by
 cases r with
 |short=>trivial
 |bad l=>exact Fails.more h b
 |ok x m'=>
  obtain⟨o,vs⟩:=x;cases o with
  |none=>obtain⟨t,r,d,c⟩:=h;exact⟨t,r,d.more b,c⟩
  |some v=>obtain⟨t,d,c⟩:=h;exact⟨t,d.more b,c⟩
theorem El.after{a:List aX}{L:Int}{y:aX}{k f:Int}{pre:List LX.Frame}{q:Nat}{s t:LX.State}{m e:MS}{x z:Int}{r:Out (Option Val×List Val)}(h:El a L y k f pre q t e z r)(d:Does a s m t e x):El a L y k f pre q s m (x+z) r:=by
 cases r with
 |short=>trivial
 |bad l=>exact d.fails h
 |ok x m'=>
  obtain⟨o,vs⟩:=x;cases o with
  |none=>obtain⟨t,r,c,b⟩:=h;exact⟨t,r,d.trans c,b⟩
  |some v=>obtain⟨t,c,b⟩:=h;exact⟨t,d.trans c,b⟩
def andThen(r:Out (Option Val×List Val))(K:List Val->MS->Out (Option Val×List Val)):Out (Option Val×List Val):=r.bind fun q m=>match q.1 with
 |some w=>.ok (some w,q.2) m
 |none=>K q.2 m
theorem El.seq{a:List aX}{L:Int}{y:aX}{k b:Int}{pre:List LX.Frame}{q q2:Nat}{s:LX.State}{m:MS}{z z2:Int}{r:Out (Option Val×List Val)}{K:List Val->MS->Out (Option Val×List Val)}
  (h:El a L y k b pre q s m z r) (e:∀t r vs m',Inv a L t pre k y q r b vs m'->El a L y k b pre q2 t m' z2 (K vs m')) (f:0<=z2):El a L y k b pre q2 s m (z+z2) (andThen r K):=by
 cases r with
 |short=>trivial
 |bad l=>exact Fails.more h V
 |ok x m'=>
  obtain⟨o,vs⟩:=x;cases o with
  |none=>
   obtain⟨t,r,d,c⟩:=h;exact(e t r vs m' c).after d
  |some v=>obtain⟨t,d,c⟩:=h;exact⟨t,d.more V,c⟩
theorem Inv.moves{a:List aX}{L:Int}{s t:LX.State}{pre:List LX.Frame}{k:Int}{y:aX}{p q:Nat}{r e:List Val}{g:Int}{c vars':List Val}{m m':MS}{o:Option Int}{b:Bool}(d:Inv a L s pre k y p r g c m)
  (f:ko a (wake s)=some (t,o,b)) (j:wake t=⟨pre++[⟨k,(q:Int),e,g⟩],m'.cells,0,0⟩) (v:e.length=r.length) (u:∀i,0<=i->i<L->dP e i=dP vars' i) (w:(vars'.length:Int)=L) (l:m'.said=m.said++o.toList) (h:m'.left=m.left) (n:m'.deep=m.deep):
  Does a s m t m' (cost o b)/\Inv a L t pre k y q e g vars' m':=
 ⟨Does.one d.at_.ready f l h,⟨⟨j,d.at_.proc,by rw[v];exact d.at_.len⟩,u,w,by rw[n];exact d.deep,by rw[h];exact d.left⟩⟩
theorem jumps{a:List aX}{L:Int}{s:LX.State}{pre:List LX.Frame}{k:Int}{y:aX}{p q:Nat}{r:List Val}{f:Int}{b:List Val}{m:MS}{d:List Ins}(c:Inv a L s pre k y p r f b m)(i:Seg y.code p (⟨12,0,(q:Int),0,[]⟩::d)):
  ∃t,Does a s m t m 1/\Inv a L t pre k y q r f b m:=by
 have h:=c.at_.step i;have e:ko a (wake s)=some ((⟨pre++[⟨k,(q:Int),r,f⟩],m.cells,0,0⟩:LX.State),none,false):=by
  rw[h.1];unfold iQ;rw[h.2];rfl
 have g:=c.moves (m':=m) e (iG Z) Z c.agree c.FE zq3 Z Z;exact⟨_,g.1.more (by unfold cost;simp),g.2⟩
theorem Tu{a:List aX}{L:Int}{s:LX.State}{pre:List LX.Frame}{k:Int}{y:aX}{p q:Nat}{r:List Val}{f:Int}{b:List Val}{m:MS}{d:List Ins}(c:Inv a L s pre k y p r f b m)(j:Seg y.code p (⟨13,L,(q:Int),0,[]⟩::d)):
    ∃t,Does a s m t m 1/\Inv a L t pre k y (if uC (dP r L)then p+1 else q) r f b m:=by
  have h:=c.at_.step j;by_cases i:uC (dP r L)
  · have e:ko a (wake s)=some ((⟨pre++[⟨k,((p+1:Nat):Int),r,f⟩],m.cells,0,0⟩:LX.State),none,false):=by
      rw[h.1];unfold iQ;rw[h.2];have hn:¬((dP r L).kind≠2/\(dP r L).n=0):=by unfold uC at i;omega
      simp only[Int.reduceEq,if_false,if_true];rw[if_neg hn]
    rw[if_pos i];have g:=c.moves (m':=m) e (iG Z) Z c.agree c.FE zq3 Z Z;exact⟨_,g.1.more (by unfold cost;simp),g.2⟩
  · have e:ko a (wake s)=some ((⟨pre++[⟨k,(q:Int),r,f⟩],m.cells,0,0⟩:LX.State),none,false):=by
      rw[h.1];unfold iQ;rw[h.2];have hn:(dP r L).kind≠2/\(dP r L).n=0:=by unfold uC at i;omega
      simp only[Int.reduceEq,if_false,if_true];rw[if_pos hn]
    rw[if_neg i];have g:=c.moves (m':=m) e (iG Z) Z c.agree c.FE zq3 Z Z;exact⟨_,g.1.more (by unfold cost;simp),g.2⟩
theorem Oe{b:List dw}{a:List aX}{d:VF}(q:Vw b a d){L:Int}{y:aX}{s:LX.State}{pre:List LX.Frame}{k:Int}{p:Nat}{r:List Val}{i:Int}{f:List Val}{m:MS}{e:List Tok}{c:List Ins}{h:Int}
  (t:Inv a L s pre k y p r i f m) (n:Seg y.code p c) (o:CX b L y.regs 1 e h c) (j:L<=h):match d e f m with
  | .ok x m'=>Ob a L y k i pre r f h (p+c.length) x.1 s m m' 0
  | .bad l=>Fails a s m l 0
  | .short=>True:=by
 have g:=q L y s pre k p r i f m e [] h c t n o j;rw[List.append_nil]at g;cases hv:d e f m with
 |short=>trivial
 |bad l=>rw[hv]at g;exact g
 |ok x m'=>rw[hv]at g;exact g.2
theorem Qe{b:List dw}{a:List aX}{c:VF}{S:SF}(I:Vw b a c)(N:SimS b a S){L:Int}{y:aX}{pre:List LX.Frame}{k:Int}{p:Nat}{A:Int}{st:aN}{c1 h c2:List Ins}
    (O:CX b L y.regs 1 st.e L c1) (J:CS b L y.regs (p+c1.length+1) st.a h) (v:Seg y.code p (c1++⟨13,L,(p+c1.length+1+h.length+1:Nat),0,[]⟩::(h++⟨12,0,(p:Int),0,[]⟩::c2))) (B:L<y.regs):∀(n:Nat) (s:LX.State) (r:List Val) (d:List Val) (m:MS),
    Inv a L s pre k y (p+c1.length) r A d m->El a L y k A pre (p+c1.length+1+h.length+1) s m 1 (yL c S st n (dP r L) d m)
  |0,s,r,d,m,hi=>trivial
  |n+1,s,r,d,m,hi=>by
    have i:=v.right;obtain⟨t,M,o⟩:=Tu hi i;unfold yL;by_cases P:uC (dP r L)
    · rw[if_pos P]at o⊢;have j:=i.next;have g:=N L y t pre k _ r A d m st.a h o j.left' J B;have R:=(g.after M).seq (q2:=p+c1.length+1+h.length+1) (z2:=0) (K:=fun vs m=>tick m fun m=>(c st.e vs m).bind fun x m=>yL c S st n x.1 vs m) (fun t2 r2 vs f X=>by
        obtain⟨E,G,u⟩:=jumps X j.right;unfold tick;by_cases w:f.left-1<0
        · rw[if_pos w];trivial
        · rw[if_neg w];dsimp only;have C:Does a E f E ⟨f.said,f.left-1,f.cells,f.deep⟩ (-2003):=Does.tick w;have q:=Oe I (m:=⟨f.said,f.left-1,f.cells,f.deep⟩) ⟨u.at_,u.agree,u.FE,u.deep,by simp only;omega⟩ v.left' O (Int.le_refl _);cases hv:c st.e vs ⟨f.said,f.left-1,f.cells,f.deep⟩with
          |short=>exact True.intro
          |bad l=>rw[hv]at q;exact Fails.more (y:=0) ((G.trans C).fails q) V
          |ok x m3=>
            rw[hv]at q;obtain⟨t4,Q,q1,q2,T,q4⟩:=q;have:=Qe I N O J v B n t4 Q vs m3 q2;rw[T]at this;exact El.more (z:=0) (this.after ((G.trans C).trans q1)) V) (Int.le_refl _)
      exact R.more V
    · rw[if_neg P]at o⊢;exact⟨t,r,M,o⟩
end Cm
open Go Go.Proofs Go.LX
namespace Cm
theorem Vx{a:VF}{s:aN}{b:List Val}{m:MS}(h:s.e≠[]):Oa a s b m=a s.e b m:=if_neg h
theorem Inv.left_{a:List aX}{L:Int}{s:LX.State}{pre:List LX.Frame}{k:Int}{y:aX}{p:Nat}{r:List Val}{d:Int}{b:List Val}{m:MS}(c:Inv a L s pre k y p r d b m)(h:¬m.left-1<0):Inv a L s pre k y p r d b ⟨m.said,m.left-1,m.cells,m.deep⟩:=
 ⟨c.at_,c.agree,c.FE,c.deep,by simp only;omega⟩
theorem Rt{d:List dw}{a:List aX}{j:VF}{S:SF}(hV:Vw d a j)(hS:SimS d a S)(N:Nat){L:Int}{y:aX}{pre:List LX.Frame}{k:Int}{P:Int}(hL:L<y.regs):∀(l:List aN) (s:LX.State) (p:Nat) (r:List Val) (u:List Val) (m:MS) (c:List Ins),
    Inv a L s pre k y p r P u m->Seg y.code p c->CS d L y.regs p l c->El a L y k P pre (p+c.length) s m 0 (LB j S N l u m)
  |[],s,p,r,u,m,c,hi,hs,hc=>by
    cases hc;exact⟨s,r,Does.refl,hi⟩
  |st::l,s,p,r,u,m,c,hi,hs,hc=>by
    have a3:0<=L:=by have:=hi.FE;omega
    unfold LB tick;by_cases hl:m.left-1<0
    · rw[if_pos hl];exact True.intro
    rw[if_neg hl];dsimp only;have d0:Does a s m s ⟨m.said,m.left-1,m.cells,m.deep⟩ (-2003):=Does.tick hl;have i0:=hi.left_ hl;generalize (⟨m.said,m.left-1,m.cells,m.deep⟩:MS)=m0 at d0 i0
    --with a condition ahead
    have O:∀(c1 J c2:List Ins) (z:Int),z<=2000->c=c1++(J++c2)->CX d L y.regs 1 st.e L c1->CS d L y.regs (p+c1.length+J.length) l c2->
        (∀t A E,Inv a L t pre k y (p+c1.length) A P u E->Seg y.code (p+c1.length) J->El a L y k P pre (p+c1.length+J.length) t E z (TN j S N st u (dP A L) E))->
        El a L y k P pre (p+c.length) s m 0 ((Oa j st u m0).bind fun x m=>(TN j S N st u x.1 m).bind fun q m=>match q.1 with
          |some w=>.ok (some w,q.2) m
          |none=>LB j S N l q.2 m):=by
      intro c1 J c2 z hz a2 M G hd;subst a2;rw[Vx M.some];have q:=Oe hV i0 hs.left' M<|Int.le_refl _;cases hv:j st.e u m0 with
      |short=>exact True.intro
      |bad l=>rw[hv]at q;exact Fails.more (y:=0) (d0.fails q) V
      |ok x E=>
        rw[hv]at q;obtain⟨t,A,q1,q2,q3,q4⟩:=q;have g:=hd t A E q2 hs.right.left';rw[q3]at g;have g2:=g.seq (q2:=p+c1.length+J.length+c2.length) (z2:=0) (K:=fun vs m=>LB j S N l vs m) (fun t2 r2 vs R i2=>Rt hV hS N hL l t2 _ r2 vs R c2 i2 hs.right.right G)<|Int.le_refl _;have e:p+(c1++(J++c2)).length=p+c1.length+J.length+c2.length:=by simp;omega
        rw[e];exact El.more (z:=0) (g2.after<|d0.trans q1) V
    cases hc with
    | @set _ _ _ c1 c2 hk hn M G=>
      refine O c1 [⟨2,st.n,L,0,[]⟩] c2 1 V zq3 M (by simpa using G) ?_;intro t A E B C;have I:=B.at_.step C;have a0:st.n<(A.length:Int):=by rw[B.at_.len];omega
      have e:ko a (wake t)=some ((⟨pre++[⟨k,((p+c1.length+1:Nat):Int),A.set st.n.toNat<|dP A L,P⟩],E.cells,0,0⟩:LX.State),none,false):=by
        rw[I.1];unfold iQ;rw[I.2];rfl
      have g:=B.moves (vars':=u.set st.n.toNat (dP A L)) (m':=E) e (iG Z) zq3 (fun i h3 h4=>by
        rw[uW hn.1 a0 _ h3,uW hn.1 (by rw[B.FE];exact hn.2) _ h3];by_cases T:i=st.n
        · rw[if_pos T,if_pos T]
        · rw[if_neg T,if_neg T];exact B.agree i h3 h4) (by rw[List.length_set];exact B.FE) zq3 Z Z
      unfold TN;rw[if_neg V,if_pos hk];exact⟨_,_,g.1.more (by unfold cost;simp),g.2⟩
    | @put _ _ _ c1 c2 c3 hk hn M G h3=>
      have el:p+c1.length+(c2++[(⟨6,L,L+1,st.n,[]⟩:Ins)]).length=p+c1.length+c2.length+1:=by simp;omega
      refine O c1 (c2++[⟨6,L,L+1,st.n,[]⟩]) c3 1 V zq3 M (by rw[el];exact h3) ?_;intro t A E B C;unfold TN;rw[if_neg V,if_neg V,if_pos hk];have q:=Oe hV B C.left' G (show L<=L+1 by omega);cases hv:j st.f u E with
      |short=>exact True.intro
      |bad l=>rw[hv]at q;exact Fails.more (y:=1) q V
      |ok x R=>
        rw[hv]at q;obtain⟨t2,r2,q1,q2,q3,q4⟩:=q;have e0:dP r2 L=dP A L:=q4 L a3 V;have I:=q2.at_.step C.right;have e:ko a (wake t2)=if noCell R.cells (dP A L) st.n then none else some ((⟨pre++[⟨k,((p+c1.length+c2.length+1:Nat):Int),r2,P⟩],R.cells.set (dP A L).n.toNat ((cellAt R.cells (dP A L).n).set st.n.toNat x.1),0,0⟩:LX.State),none,false):=by
          rw[I.1];unfold iQ;rw[I.2,<-q3,<-e0];rfl
        simp only[Out.bind];by_cases Q:noCell R.cells (dP A L) st.n
        · rw[if_pos Q]at e⊢;exact Fails.more (y:=1) (q1.fails<|Fails.here q2.left q2.at_.ready e) V
        · rw[if_neg Q]at e⊢;have g:=q2.moves (m':=⟨R.said,R.left,R.cells.set (dP A L).n.toNat ((cellAt R.cells (dP A L).n).set st.n.toNat x.1),R.deep⟩) e (iG Z) Z q2.agree q2.FE zq3 Z Z;have e4:p+c1.length+(c2++[(⟨6,L,L+1,st.n,[]⟩:Ins)]).length=p+c1.length+c2.length+1:=by simp;omega
          refine⟨_,r2,(q1.trans g.1).more (by unfold cost;simp),?_⟩;rw[e4];exact g.2
    | @say _ _ _ c1 c2 hk M G=>
      refine O c1 [⟨9,L,0,0,[]⟩] c2 50 V zq3 M (by simpa using G) ?_;intro t A E B C;have I:=B.at_.step C;have e:ko a (wake t)=if(dP A L).kind=1 then some ((⟨pre++[⟨k,((p+c1.length+1:Nat):Int),A,P⟩],E.cells,0,0⟩:LX.State),some (dP A L).n,false)else none:=by
        rw[I.1];unfold iQ;rw[I.2];rfl
      unfold TN;by_cases Q:(dP A L).kind=1
      · rw[if_pos Q]at e;rw[if_neg V,if_neg V,if_neg V,if_pos hk];have g:=B.moves (m':=⟨E.said++[(dP A L).n],E.left,E.cells,E.deep⟩) e (iG Z) Z B.agree B.FE Z Z Z;exact⟨_,A,g.1.more (by unfold cost;simp),g.2⟩
      · rw[if_neg Q]at e;rw[if_pos ⟨Or.inl hk,Q⟩];exact Fails.more (y:=50) (Fails.here B.left B.at_.ready e) V
    | @go _ _ _ c1 c2 hk M G=>
      refine O c1 [⟨11,L,0,0,[]⟩] c2 2000 V zq3 M (by simpa using G) ?_;intro t A E B C;have I:=B.at_.step C;have e:ko a (wake t)=if(dP A L).kind=1 then some ((⟨pre++[⟨k,((p+c1.length+1:Nat):Int),A,P⟩],E.cells,3,(dP A L).n⟩:LX.State),none,true)else none:=by
        rw[I.1];unfold iQ;rw[I.2];rfl
      unfold TN;by_cases Q:(dP A L).kind=1
      · rw[if_pos Q]at e;rw[if_neg V,if_neg V,if_neg V,if_neg V,if_neg V,if_neg V,if_neg V];have g:=B.moves (m':=E) e (by unfold wake;rw[if_pos rfl]) rfl B.agree B.FE zq3 rfl rfl;exact⟨_,A,g.1.more (by unfold cost;simp),g.2⟩
      · rw[if_neg Q]at e;rw[if_pos ⟨Or.inr hk,Q⟩];exact Fails.more (y:=2000) (Fails.here B.left B.at_.ready e) V
    | @ret _ _ _ c1 c2 hk M G=>
      refine O c1 [⟨8,L,0,0,[]⟩] c2 1 V zq3 M (by simpa using G) ?_;intro t A E B C;have I:=B.at_.step C;unfold TN;rw[if_neg V,if_neg V,if_neg V,if_neg V,if_pos hk];have e:ko a (wake t)=some ((match pre.getLast? with
          |none=>⟨[],E.cells,1,0⟩
          |some h=>⟨pre.dropLast++[{h with regs:=h.regs.set P.toNat (dP A L)}],E.cells,0,0⟩:LX.State),none,false):=by
        rw[I.1];unfold iQ;rw[I.2];rfl
      refine⟨_,(Does.one (m':=E) B.at_.ready e zq3 Z).more (by unfold cost;simp),?_,B.deep,B.left⟩;unfold Od;cases pre.getLast? with
      |none=>rfl
      |some h=>exact iG Z
    | @pause _ _ _ c2 hk he G=>
      have I:=i0.at_.step hs;have e:ko a (wake s)=some ((⟨pre++[⟨k,((p+1:Nat):Int),r,P⟩],m0.cells,0,0⟩:LX.State),none,true):=by
        rw[I.1];unfold iQ;rw[I.2];rfl
      have g:=i0.moves (m':=m0) e (iG Z) Z i0.agree i0.FE zq3 Z Z;have hd:TN j S N st u ⟨0,0⟩ m0=.ok (none,u) m0:=by
        unfold TN;rw[if_neg V,if_neg V,if_neg V,if_neg V,if_neg V,if_neg V,if_neg V]
      have a1:Oa j st u m0=.ok (⟨0,0⟩,0) m0:=if_pos he;rw[a1];simp only[Out.bind,hd];have q:=Rt hV hS N hL l _ _ r u m0 c2 g.2 hs.next G;have e4:p+((⟨10,0,0,0,[]⟩:Ins)::c2).length=p+1+c2.length:=by simp;omega
      rw[e4];exact El.more (z:=0) (q.after (d0.trans g.1)) (by unfold cost;simp)
    | @ite _ _ _ c1 ca cb c2 hk M ha Q G=>
      refine O c1 (⟨13,L,(p+c1.length+1+ca.length+1:Nat),0,[]⟩::(ca++⟨12,0,(p+c1.length+1+ca.length+1+cb.length:Nat),0,[]⟩::cb)) c2 2 V zq3 M (by
        have e:p+c1.length+((⟨13,L,(p+c1.length+1+ca.length+1:Nat),0,[]⟩:Ins)::(ca++⟨12,0,(p+c1.length+1+ca.length+1+cb.length:Nat),0,[]⟩::cb)).length=p+c1.length+1+ca.length+1+cb.length:=by simp;omega
        rw[e];exact G) ?_
      intro t A E B C;have e:p+c1.length+((⟨13,L,(p+c1.length+1+ca.length+1:Nat),0,[]⟩:Ins)::(ca++⟨12,0,(p+c1.length+1+ca.length+1+cb.length:Nat),0,[]⟩::cb)).length=p+c1.length+1+ca.length+1+cb.length:=by simp;omega
      rw[e];unfold TN;rw[if_neg V,if_neg V,if_neg V,if_neg V,if_neg V,if_pos hk];obtain⟨t2,d1,i2⟩:=Tu B C;have X:=C.next;by_cases ht:uC (dP A L)
      · rw[if_pos ht]at i2⊢;have g:=hS L y t2 pre k _ A P u E st.a ca i2 X.left' ha hL;cases hr:S st.a u E with
        |short=>exact True.intro
        |bad l=>rw[hr]at g;exact Fails.more (y:=2) (d1.fails g) V
        |ok x R=>
          rw[hr]at g;obtain⟨o,vs⟩:=x;cases o with
          |some v=>obtain⟨t3,g1,g2⟩:=g;exact⟨t3,(d1.trans g1).more V,g2⟩
          |none=>
            obtain⟨t3,r3,g1,g2⟩:=g;obtain⟨t4,d4,i4⟩:=jumps g2 X.right;exact⟨t4,r3,((d1.trans g1).trans d4).more V,i4⟩
      · rw[if_neg ht]at i2⊢;have g:=hS L y t2 pre k _ A P u E st.b cb i2 (by have:=X.right.next;exact this) Q hL;exact El.more (z:=2) (g.after d1) V
    | @loop _ _ _ c1 ca c2 hk M ha G=>
      refine O c1 (⟨13,L,(p+c1.length+1+ca.length+1:Nat),0,[]⟩::(ca++[⟨12,0,(p:Int),0,[]⟩])) c2 1 V zq3 M (by
        have e:p+c1.length+((⟨13,L,(p+c1.length+1+ca.length+1:Nat),0,[]⟩:Ins)::(ca++[⟨12,0,(p:Int),0,[]⟩])).length=p+c1.length+1+ca.length+1:=by simp;omega
        rw[e];exact G) ?_
      intro t A E B C;have e:p+c1.length+((⟨13,L,(p+c1.length+1+ca.length+1:Nat),0,[]⟩:Ins)::(ca++[⟨12,0,(p:Int),0,[]⟩])).length=p+c1.length+1+ca.length+1:=by simp;omega
      rw[e];unfold TN;rw[if_neg V,if_neg V,if_neg V,if_neg V,if_neg V,if_neg V,if_pos hk];exact Qe hV hS M ha hs hL N t A u E B
theorem run_sim{b:List dw}{a:List aX}{S:SF}(hM:Made b a)(hS:SimS b a S):SimR b a (YU b S):=by
  constructor
  · intro k e m h;unfold YU;rw[if_pos h];exact Or.inr Z
  · intro s pre k p e m x y Q J hp T hd K hl;obtain⟨y',u,g⟩:=hM.all k x Q;obtain rfl:y=y':=by rw[J]at u;exact osi u
    obtain⟨c,C,I⟩:=g.code;have R:=g.regs;have P:=g.LV;have j:((zeros y.regs e).length:Int)=y.regs:=by unfold zeros;simp;omega
    have N:((zeros x.locals e).length:Int)=x.locals:=by unfold zeros;simp;omega
    have hi:Inv a x.locals s pre k y 0 (zeros y.regs e) p (zeros x.locals e) ⟨m.said,m.left,m.cells,m.deep+1⟩:=by
      refine⟨⟨T,J,j⟩,fun i h0 h1=>?_,N,by simp only;omega,hl⟩;obtain⟨n,rfl⟩:=Int.eq_ofNat_of_zero_le h0;rw[yM,yM];unfold zeros;by_cases hn:n<e.length
      · rw[List.getElem?_append_left hn,List.getElem?_append_left hn]
      · rw[List.getElem?_append_right V,List.getElem?_append_right V];rw[List.getElem?_replicate,List.getElem?_replicate,if_pos V,if_pos V]
    have X:Seg y.code 0 c:=⟨[],_,C,Z,by simp⟩;have q:=hS x.locals y s pre k 0 _ p _ _ x.body c hi X I R;unfold YU;rw[if_neg K,Q];simp only;cases hr:S x.body (zeros x.locals e) ⟨m.said,m.left,m.cells,m.deep+1⟩with
    |short=>exact True.intro
    |bad l=>rw[hr]at q;exact Fails.more (y:=2) q V
    |ok z m1=>
      rw[hr]at q;obtain⟨o,vs⟩:=z;cases o with
      |some v=>
        obtain⟨t,M,q2,q3,q4⟩:=q;obtain⟨⟨w,o,B,E,A⟩,G⟩:=M;exact⟨t,⟨⟨w,o,B,E,by simp only at A⊢;omega⟩,G⟩,q2,by simp only;omega,q4⟩
      |none=>
        obtain⟨t,r,M,q2⟩:=q;rw[Nat.zero_add]at q2;have a0:=q2.FE;have L:x.locals<(r.length:Int):=by rw[q2.at_.len];exact R
        have O:=q2.at_.step (i:=⟨1,x.locals,0,0,[]⟩) (d:=[]) ⟨c,[⟨8,x.locals,0,0,[]⟩],by simpa using C,Z,by simp⟩;have s1:ko a (wake t)=some ((⟨pre++[⟨k,((c.length+1:Nat):Int),r.set x.locals.toNat ⟨1,0⟩,p⟩],m1.cells,0,0⟩:LX.State),none,false):=by
          rw[O.1];unfold iQ;rw[O.2];rfl
        have d1:=Does.one (m:=m1) (m':=m1) q2.at_.ready s1 zq3 Z;have s2:ko a (wake (⟨pre++[⟨k,((c.length+1:Nat):Int),r.set x.locals.toNat ⟨1,0⟩,p⟩],m1.cells,0,0⟩:LX.State))=some ((match pre.getLast? with
            |none=>⟨[],m1.cells,1,0⟩
            |some h=>⟨pre.dropLast++[{h with regs:=h.regs.set p.toNat ⟨1,0⟩}],m1.cells,0,0⟩:LX.State),none,false):=by
          rw[iG rfl];have f:idx y.code ((c.length+1:Nat):Int)=some ⟨8,x.locals,0,0,[]⟩:=by
            rw[pF,C,List.getElem?_append_right V];rw[show c.length+1-c.length=1 by omega];rfl
          unfold ko Qd;simp only[List.getLast?_append,List.getLast?_singleton,Option.some_or,List.dropLast_concat,Option.bind_some,J,f,Option.map_some];unfold iQ;have:dP (r.set x.locals.toNat ⟨1,0⟩) x.locals=⟨1,0⟩:=by rw[uW V L _ V,if_pos Z]
          simp only[Int.reduceEq,if_false,if_true,this];all_goals (cases pre.getLast?<;>rfl)
        have d2:=Does.one (m:=m1) (m':=m1) (by rw[iG Z]) s2 zq3 Z;obtain⟨⟨w,o,B,E,A⟩,G⟩:=(M.trans d1).trans d2;refine⟨_,⟨⟨w,o,B,E,?_⟩,G⟩,?_,?_,q2.left⟩
        · unfold cost at A;simp only[Option.isSome_none,if_false]at A;simp at A⊢;omega
        · unfold Od;cases pre.getLast? with
          |none=>rfl
          |some h=>exact iG Z
        · have:=q2.deep;simp only;omega
theorem ev_sim{b:List dw}{a:List aX}(e:Made b a):∀N,Vw b a (ev b N).val/\SimS b a (ev b N).sts/\SimR b a (ev b N).run
 |0=>⟨fun _ _ _ _ _ _ _ _ _ _ _ _ _ _ _ _ _ _=>trivial,fun _ _ _ _ _ _ _ _ _ _ _ _ _ _ _ _=>trivial,⟨fun _ _ _ _=>Or.inl Z,fun _ _ _ _ _ _ _ _ _ _ _ _ _ _ _=>trivial⟩⟩
 |N+1=>by
  obtain⟨g,f,h⟩:=ev_sim e N;exact⟨val_sim e g h,fun L y s pre k p r q d m l c o j n i=>Rt g f N i l s p r d m c o j n,run_sim e f⟩
end Cm
open Go Go.Proofs Go.LX
namespace Cm
def rT(a:List aX):Nat->LX.State->Nat
 |0,_=>0
 |n+1,s=>if(wake s).status≠0 then 0 else match ko a (wake s)with
  |none=>0
  |some (t,o,p)=>cost o p+rT a n t
theorem Em{a:List aX}{s:LX.State}(h:(wake s).status≠0):∀n,rT a n s=0
 |0=>rfl
 |n+1=>by unfold rT;rw[if_pos h]
theorem H8{a:List aX}{s:LX.State}(h:ko a (wake s)=none):∀n,rT a n s=0
 |0=>rfl
 |n+1=>by unfold rT;rw[h];split<;>rfl
theorem Br{a:List aX}{s t:LX.State}{o:Option Int}{p:Bool}(b:(wake s).status=0)(h:ko a (wake s)=some (t,o,p))(n:Nat):rT a (n+1) s=cost o p+rT a n t:=by
 conv=>lhs;unfold rT
 rw[if_neg V,h]
theorem zy{a:List aX}{s t:LX.State}{o:Option Int}{p:Bool}(b:(wake s).status=0)(h:ko a (wake s)=some (t,o,p)):stepW a s=some (t,o.toList):=by
 unfold stepW;rw[if_neg V,h]
theorem En{a:List aX}{s:LX.State}(b:(wake s).status=0)(h:ko a (wake s)=none):stepW a s=some ({wake s with status:=2},[]):=by
 unfold stepW;rw[if_neg V,h]
theorem over{s:LX.State}:(wake ({wake s with status:=2}:LX.State)).status≠0:=KM zq3 zq3
theorem F6{a:List aX}:∀(j k:Nat) (s:LX.State),rT a (j+k) s=rT a j s+rT a k (lK a j s).1
  |0,k,s=>by rw[Nat.zero_add];show _=0+rT a k s;rw[Nat.zero_add]
  |j+1,k,s=>by
    rw[show j+1+k=(j+k)+1 by omega];by_cases b:(wake s).status=0
    · cases h:ko a (wake s)with
      |none=>rw[H8 h,H8 h,jJ (En b h),Bq over,Em over]
      |some q=>
        obtain⟨t,o,p⟩:=q;rw[Br b h,Br b h,jJ (zy b h),F6 j k t,Nat.add_assoc]
    · rw[Em b,Em b,Bq b,Em b]
theorem Vy{a:List aX}{j n:Nat}(h:j<=n)(s:LX.State):rT a j s<=rT a n s:=by
 obtain⟨k,rfl⟩:=Nat.le.dest h;rw[F6];omega
theorem Tw{a:List aX}{s t:LX.State}{w:Nat}{o:List Int}(h:Way a s w o t):∃n,lK a n s=(t,o)/\rT a n s=w:=by
 induction h with
 |refl s=>exact⟨0,rfl,rfl⟩
 |step h0 h r ih=>
  obtain⟨n,c,b⟩:=ih;exact⟨n+1,by rw[jJ (zy h0 h),c],by rw[Br h0 h,b]⟩
theorem Vz{a:List aX}{s:LX.State}{n:Nat}(hn:1<=n)(b:(wake s).status=0):rT a n (wake s)=rT a n s:=by
 obtain⟨m,rfl⟩:∃m,n=m+1:=⟨n-1,by omega⟩;unfold rT;rw[KL]
theorem Tx{a:List aX}(r:kU a):∀(m:Nat) (b:List Int) (n:Nat) (s:LX.State),vH a s->s.status=0->b.length<=40->
    ∃k,(qc a m b n s).1=(lK a k s).1/\(qc a m b n s).2.1=b++(lK a k s).2/\((wake (qc a m b n s).1).status=0->min m (50*(40-b.length))<=rT a k s)
  |0,b,n,s,hs,h0,hl=>⟨0,rfl,by simp[qc,lK],fun _=>by simp⟩
  |m+1,b,n,s,hs,h0,hl=>by
    have c:(wake s).status=0:=by rw[iG h0];exact h0
    unfold qc;rw[if_neg V];by_cases g:b.length=40/\FC a s=9
    · rw[if_pos g];exact⟨0,Z,by simp[lK],fun _=>by rw[g.1];simp⟩
    · rw[if_neg g];cases e:ko a s with
      |none=>
        refine⟨1,?_,?_,fun h=>absurd h ?_⟩
        · rw[jJ (En c (by rw[iG h0];exact e)),iG h0];rfl
        · rw[jJ (En c (by rw[iG h0];exact e))];simp[lK]
        · have:=over (s:=s);rwa[iG h0]at this
      |some q=>
        obtain⟨t,o,p⟩:=q;have d:ko a (wake s)=some (t,o,p):=by rw[iG h0];exact e
        have j:=FD r hs h0 e;cases p with
        |true=>
          refine⟨1,?_,?_,fun _=>?_⟩
          · simp only[if_true];rw[jJ (zy c d)];rfl
          · simp only[if_true];rw[jJ (zy c d)];simp[lK]
          · rw[Br c d];unfold cost;simp only[if_true,rT];omega
        |false=>
          simp only[Bool.false_eq_true,if_false];by_cases l:t.status=0
          · have f:(b++o.toList).length<=40:=by
              cases o with
              |none=>simpa using hl
              |some z=>
                have:FC a s=9:=(j.2.2 Z).2;have:b.length≠40:=fun x=>g ⟨x,this⟩;simp;omega
            obtain⟨k,v,w,u⟩:=Tx r m (b++o.toList) (n+1) t j.1 l f;refine⟨k+1,?_,?_,fun h=>?_⟩
            · rw[v,jJ (zy c d)]
            · rw[w,jJ (zy c d),List.append_assoc]
            · have:=u h;rw[Br c d];cases o with
              |none=>unfold cost;simp at this⊢;omega
              |some z=>unfold cost;simp at this⊢;omega
          · have i:t.status≠3:=by
              rcases j.2.1 with h|h|h
              · omega
              · omega
              · cases h.2
            have y:qc a m (b++o.toList) (n+1) t=(t,b++o.toList,n+1):=by
              cases m with
              |zero=>rfl
              |succ m=>unfold qc;rw[if_pos l]
            rw[y];refine⟨1,?_,?_,fun h=>absurd h<|KM l i⟩
            · rw[jJ (zy c d)];rfl
            · rw[jJ (zy c d)];simp[lK]
theorem Qf{a:List aX}(l:kU a):∀(T:Nat) (b:List Int) (s:LX.State),vH a s->
    ∃k,p9 a 2000 T b s=(b++(lK a k s).2,(lK a k s).1)/\((wake (lK a k s).1).status=0->2000*T<=rT a k s)
  |0,b,s,hs=>⟨0,by simp[p9,lK],fun _=>by simp⟩
  |T+1,b,s,hs=>by
    by_cases h:(wake s).status=0
    · rw[Tp V];obtain⟨k,c,i,m⟩:=Tx l 2000 [] 0 (wake s) (Rs hs) h zq3;have o:=KJ l 2000 [] 0 (wake s) (Rs hs) zq3;obtain⟨j,n,p⟩:=Qf l T (b++(qc a 2000 [] 0<|wake s).2.1) (qc a 2000 [] 0<|wake s).1 o.1;have e:1<=k\/k=0:=by omega
      rcases e with e|e
      · rw[Vv e h]at c i;refine⟨k+j,?_,fun d=>?_⟩
        · rw[n,c,i,AJ];simp
        · rw[AJ,<-c]at d;have q:=p d;rw[F6,<-c];by_cases f:(wake (qc a 2000 [] 0 (wake s)).1).status=0
          · have g:=m f;have r:rT a k (wake s)=rT a k s:=Vz e h;simp at g;omega
          · rw[Bq f]at d;exact absurd d f
      · subst e;simp only[lK,List.append_nil]at c i;have g:=m (by rw[c,KL];exact h);simp[rT]at g
    · rw[N9 h];exact⟨0,by simp[lK],fun d=>absurd d h⟩
theorem Qg{a:List aX}(c:kU a){s t:LX.State}(e:vH a s){n T:Nat}{o:List Int}(h:lK a n s=(t,o))(i:(wake t).status≠0)(l:rT a n s<2000*T):p9 a 2000 T [] s=(o,t):=by
  obtain⟨k,f,b⟩:=Qf c T [] s e;rw[f,List.nil_append];rcases Nat.le_total n k with hk|hk
  · obtain⟨j,rfl⟩:=Nat.le.dest hk;rw[AJ,h,Bq i];simp
  · obtain⟨j,rfl⟩:=Nat.le.dest hk;have d:(wake (lK a k s).1).status≠0:=fun g=>by
      have:=b g;have:=Vy (a:=a) hk s;omega
    rw[AJ,Bq d]at h;simp only[List.append_nil,Prod.mk.injEq]at h;rw[h.1,h.2]
theorem means{b:List dw}{a:List aX}(r:Made b a)(i:kU a){x:dw}(q:idx b 0=some x)(hp:x.params=0)(N:Nat):match (ev b N).run 0 [] ⟨[],2000,[],0⟩with
    | .ok v m'=>∃st,p9 a 2000 3000 [] (oV a)=(m'.said,st)/\st.status=1
    | .bad l=>∃st,p9 a 2000 3000 [] (oV a)=(l,st)/\st.status=2
    | .short=>True:=by
  obtain⟨y,p,B⟩:=r.all 0 x q;have s:=(ev_sim r N).2.2;have u:oV a=⟨[]++[⟨0,0,zeros y.regs [],0⟩],[],0,0⟩:=by unfold oV zeros;rw[p];simp
  have c:=Tn i;have g:=s.go (oV a) [] 0 0 [] ⟨[],2000,[],0⟩ x y q p (by simp[hp]) (by rw[u];exact iG Z) Z zq3 zq3;cases hr:(ev b N).run 0 [] ⟨[],2000,[],0⟩with
  |short=>trivial
  |bad l=>
    rw[hr]at g;obtain⟨t,w,o,k,d,j,m,f⟩:=g;obtain⟨n,e,h⟩:=Tw k;simp only[List.nil_append]at d;subst d;refine⟨{wake t with status:=2},Qg i c (n:=n+1) ?_ over ?_,Z⟩
    · rw[AJ,e,jJ (En m f)];simp[lK]
    · rw[F6,e,H8 f,h];simp only at j;omega
  |ok v m'=>
    rw[hr]at g;obtain⟨t,⟨⟨w,o,k,d,j⟩,m⟩,f,A,C⟩:=g;obtain⟨n,e,h⟩:=Tw k;simp only[List.nil_append]at d;have z:t=⟨[],m'.cells,1,0⟩:=f;subst z;show∃st,p9 a 2000 3000 [] (oV a)=(m'.said,st)/\st.status=1;rw[d];refine⟨_,Qg i c e (KM zq3 zq3) ?_,Z⟩;rw[h];simp only at j;omega
end Cm
open Go Go.Proofs Go.LX
namespace Cc
def Jf(ps:List Int)(n:Int):Int:=if 0<=n/\n<ps.length then(ps[n.toNat]?).getD 0 else 0
def zA(ps:List Int)(t:Tok):Int:=if t.kind=3 then 2 else if t.kind=4 then 1 else if t.kind=6 then Jf ps t.n else 0
def GA(ps:List Int)(c:Int)(t:Tok):Prop:=
 (t.kind=1/\ -1000000000<=t.n/\t.n<=1000000000)\/(t.kind=2/\0<=t.n/\t.n<c)\/(t.kind=3/\1<=t.n/\t.n<=5)\/(t.kind=4/\0<=t.n/\t.n<4)\/(t.kind=5/\1<=t.n/\t.n<=4)\/(t.kind=6/\0<=t.n/\t.n<ps.length)
def wants(ps:List Int):Int->List Tok->Prop
 |w,[]=>w=0
 |w,t::r=>0<w/\wants ps (w+(zA ps t-1)) r
def wG(ps:List Int)(c:Int)(e:List Tok):Prop:=e.length<=24/\(∀t∈e,GA ps c t)/\wants ps 1 e
def Shape(ps:List Int)(c:Int)(s:aN):Prop:=
 (s.kind=1/\(0<=s.n/\s.n<c)/\wG ps c s.e/\s.f=[]/\s.a=[]/\s.b=[])\/
 (s.kind=2/\(0<=s.n/\s.n<4)/\wG ps c s.e/\wG ps c s.f/\s.a=[]/\s.b=[])\/
 (s.kind=3/\s.n=0/\wG ps c s.e/\s.f=[]/\s.a=[]/\s.b=[])\/
 (s.kind=4/\s.n=0/\s.e=[]/\s.f=[]/\s.a=[]/\s.b=[])\/
 (s.kind=5/\s.n=0/\wG ps c s.e/\s.f=[]/\s.a=[]/\s.b=[])\/
 (s.kind=6/\s.n=0/\wG ps c s.e/\s.f=[])\/
 (s.kind=7/\s.n=0/\wG ps c s.e/\s.f=[]/\s.b=[])\/
 (s.kind=8/\s.n=0/\wG ps c s.e/\s.f=[]/\s.a=[]/\s.b=[])
def Ab(ps:List Int)(c:Int):Nat->List aN->Prop
 |0,l=>l=[]
 |k+1,l=>l.length<=30/\∀s∈l,Shape ps c s/\Ab ps c k s.a/\Ab ps c k s.b
theorem Ab.nil{ps:List Int}{c:Int}:∀k,Ab ps c k []
 |0=>rfl
 |k+1=>⟨by simp,by simp⟩
structure FunOk(ps:List Int)(x:dw):Prop where
 params:0<=x.params/\x.params<=3
 locals:x.params<=x.locals/\x.locals<=6
 body:Ab ps x.locals 4 x.body
structure VA(f:List dw):Prop where
  many:1<=f.length/\f.length<=4
  fn:∀x∈f,FunOk (f.map (·.params)) x
theorem og{α σ ρ:Type}{body:α->σ->(σ->ρ)->ρ}{k:σ->ρ}(x:α)(l:List α)(s:σ):each body k (x::l) s=body x s (each body k l):=rfl
inductive Bt (ps:List Int) (c:Int):List aN->Prop
 |mk {l:List aN} (h1:∀s∈l,Shape ps c s) (h2:∀s∈l,Bt ps c s.a) (h3:∀s∈l,Bt ps c s.b):Bt ps c l
theorem KN(ps:List Int)(c:Int):∀(k:Nat) (l:List aN) (N:Nat),k<N->k<=4->∃r,cK N l (5-(k:Int))=some r/\(0<=r.1/\r.1<=30)/\(r.2=true->Bt ps c l->Ab ps c k l)
  |k,l,0,h,_=>by omega
  |0,l,N+1,h,h4=>⟨(0,false),rfl,by decide,fun h=>by cases h⟩
  |k+1,l,N+1,h,h4=>by
    have w:=fun Q=>KN ps c k Q N V V;show∃r,lT (cK N) l (5-((k+1:Nat):Int))=some r/\_;unfold lT;rw[dF V,cond_false];generalize E:l=l0;have A:(5-((k+1:Nat):Int))+1=5-(k:Int):=by omega
    generalize S:5-((k+1:Nat):Int)=bb at A⊢;have B:∀(m:List aN) (d:Int),0<=d->d<=30->∃r,each (iC (cK N) l0 bb) jC m d=some r/\(0<=r.1/\r.1<=30)/\(r.2=true->d+m.length<=30/\∀s∈m,(s.a=[]\/∃q,cK N s.a (5-(k:Int))=some q/\q.2=true)/\(s.b=[]\/∃q,cK N s.b (5-(k:Int))=some q/\q.2=true)):=by
      intro m;induction m with
      |nil=>intro d L C;exact⟨(d,true),Z,⟨L,C⟩,fun _=>⟨by simpa using C,by simp⟩⟩
      |cons s m ihm=>
        intro d L C;rw[og,iC,gI V V];by_cases J:30<d+1
        · rw[dT J];exact⟨(0,false),Z,by decide,fun h=>by cases h⟩
        · rw[dF J,cond_false];have K:∀x:Int,d+1<=x->x<=30->∃r,jB (cK N) s bb (each (iC (cK N) l0 bb) jC m) x=some r/\(0<=r.1/\r.1<=30)/\(r.2=true->d+1+m.length<=30/\(∀s∈m,(s.a=[]\/∃q,cK N s.a (5-(k:Int))=some q/\q.2=true)/\(s.b=[]\/∃q,cK N s.b (5-(k:Int))=some q/\q.2=true))/\(s.b=[]\/∃q,cK N s.b (5-(k:Int))=some q/\q.2=true)):=by
            intro x O z;unfold jB mZ;by_cases p:s.b=[]
            · rw[dT (show((s.b.length:Int):Int)=0 by rw[p];rfl),cond_true];obtain⟨r,i,g,e⟩:=ihm x V z;exact⟨r,i,g,fun h=>⟨by have:=(e h).1;omega,(e h).2,.inl p⟩⟩
            · have:s.b.length≠0:=fun h=>p<|List.eq_nil_of_length_eq_zero h;rw[dF V,cond_false,gI V V,A];obtain⟨q,j,q2,R⟩:=w s.b;rw[j,Option.bind_some,gI V V];generalize v:((!q.2)||decide ((30:Int)<(x+q.1)))=D;cases D with
              |true=>exact⟨(0,false),rfl,by decide,fun h=>by cases h⟩
              |false=>
                simp only[Bool.or_eq_false_iff,Bool.not_eq_false',decide_eq_false_iff_not]at v;rw[cond_false];obtain⟨r,i,g,e⟩:=ihm (x+q.1) V V;exact⟨r,i,g,fun h=>⟨by have:=(e h).1;omega,(e h).2,.inr ⟨q,rfl,v.1⟩⟩⟩
          by_cases p:s.a=[]
          · rw[dT (show((s.a.length:Int):Int)=0 by rw[p];rfl),cond_true];obtain⟨r,i,g,e⟩:=K (d+1) V V;refine⟨r,i,g,fun h=>?_⟩;obtain⟨I,t,G⟩:=e h;refine⟨by simp only[List.length_cons];omega,fun y n=>?_⟩;rcases List.mem_cons.1 n with rfl|n
            · exact⟨.inl p,G⟩
            · exact t y n
          · have:s.a.length≠0:=fun h=>p<|List.eq_nil_of_length_eq_zero h;rw[dF V,cond_false,gI V V,A];obtain⟨q,j,q2,R⟩:=w s.a;rw[j,Option.bind_some,gI V V];generalize v:((!q.2)||decide ((30:Int)<((d+1)+q.1)))=D;cases D with
            |true=>exact⟨(0,false),rfl,by decide,fun h=>by cases h⟩
            |false=>
              simp only[Bool.or_eq_false_iff,Bool.not_eq_false',decide_eq_false_iff_not]at v;rw[cond_false];obtain⟨r,i,g,e⟩:=K ((d+1)+q.1) V V;refine⟨r,i,g,fun h=>?_⟩;obtain⟨I,t,G⟩:=e h;refine⟨by simp only[List.length_cons];omega,fun y n=>?_⟩;rcases List.mem_cons.1 n with rfl|n
              · exact⟨.inr ⟨q,j,v.1⟩,G⟩
              · exact t y n
    subst E;obtain⟨r,i,g,e⟩:=B l 0 zq1 zq1;refine⟨r,i,g,fun P M=>?_⟩;obtain⟨I,t⟩:=e P;cases M with
    |mk s1 s2 s3=>
      refine⟨by omega,fun s u=>⟨s1 s u,?_,?_⟩⟩
      · rcases(t s u).1 with h0|⟨q,j,q2⟩
        · rw[h0];exact Ab.nil k
        · obtain⟨T,f,_,o⟩:=w s.a;rw[j]at f;cases f;exact o q2<|s2 s u
      · rcases(t s u).2 with h0|⟨q,j,q2⟩
        · rw[h0];exact Ab.nil k
        · obtain⟨T,f,_,o⟩:=w s.b;rw[j]at f;cases f;exact o q2<|s3 s u
theorem yc(a b:Int):(decide (0<=a)&&decide (a<b))=aS a b:=rfl
theorem Wv(a b c:Int):(decide (b<=a)&&decide (a<=c))=bB a b c:=rfl
theorem lv(a b:Int):(decide (a<0)||decide (b<=a))= !aS a b:=by
 unfold aS;rw[Bool.eq_iff_iff];simp;try omega
theorem yN(a:Int):aS a 4=bB a 0 3:=by
 unfold aS bB;rw[Bool.eq_iff_iff];simp;omega
theorem EG{α:Type}(x:α)(l:List α):idx (x::l) 0=some x:=by simp[idx]
theorem in_t{x a b:Int}(d:a<=x)(c:x<=b):bB x a b=true:=by
 unfold bB;rw[dT d,dT c];rfl
theorem last_ok{x:aX}{pre:List Ins}{a:Int}(h:x.code=pre++[⟨8,a,0,0,[]⟩])(c:Unit->Option Int)(d:x.code.length<=5000):nu x c ()=c ():=by
 have b:x.code.length=pre.length+1:=by rw[h];simp
 unfold nu;rw[gI V V,show((x.code.length:Int)-1)=(pre.length:Int) by omega,pF,h];simp
theorem WO(a:List aX)(x:aX)(k:Unit->Option Int):∀(l:List Ins) (i:Int),(∀c∈l,∀i,dR c i a x.regs (x.code.length:Int)=some 0)->gF (eX a x) k i l ()=k ()
 |[],i,_=>rfl
 |c::l,i,h=>by
  have b:=WO a x k l (i+1) fun d f=>h d<|List.mem_cons_of_mem _ f;have e:gF (eX a x) k i (c::l) ()=eX a x i c () (gF (eX a x) k (i+1) l):=rfl;rw[e];generalize gF (eX a x) k (i+1) l=nx at b⊢;unfold eX;rw[h c zq3,Option.bind_some,dF zq3,cond_false,b]
end Cc
open Go Go.Proofs Go.LX
namespace Cc
open Cm
theorem CX.app1{a:List dw}{L R:Int}{w:Nat}{b d:List Tok}{c:Int}{c1 c2:List Ins}(e:CX a L R 1 b c c1)(f:CX a L R w d (c+1) c2):CX a L R (w+1) (b++d) c (c1++c2):=by
 cases e with
 | @cons _ t b e0 _ d1 d0 ht hr h3 h4=>
  cases h4;have:=CX.cons ht hr h3 f;simpa using this
theorem CX.tok{a:List dw}{L R:Int}{t:Tok}{r:List Tok}{b:Int}{c:List Ins}(e:YV a L t)(d:0<=b/\b<R)(h:CX a L R (nZ a t) r b c):CX a L R 1 (t::r) b (c++[uV a t b]):=by
 have:=CX.cons e d h<|CX.nil<|b+1;simpa using this
def sO(R x:Int):Prop:=0<=x/\x<R
def qH(ps:List Int)(R L:Int)(c:Ins):Prop:=
 (c.op=1/\sO R c.a/\(-1000000000<=c.b/\c.b<=1000000000)/\c.c=0/\c.args=[])\/
 (c.op=2/\sO R c.a/\sO R c.b/\c.c=0/\c.args=[])\/
 (c.op=3/\sO R c.a/\sO R c.b/\sO R c.c/\∃n,c.args=[n]/\1<=n/\n<=5)\/
 ((c.op=4\/c.op=6)/\sO R c.a/\sO R c.b/\(0<=c.c/\c.c<4)/\c.args=[])\/
 (c.op=5/\sO R c.a/\(1<=c.b/\c.b<=4)/\c.c=0/\c.args=[])\/
 (c.op=7/\sO R c.a/\(0<=c.b/\c.b<ps.length)/\c.c=0/\(c.args.length:Int)=Jf ps c.b/\∀x∈c.args,sO R x)\/
 ((c.op=8\/c.op=9\/c.op=11)/\sO R c.a/\c.b=0/\c.c=0/\c.args=[])\/
 (c.op=10/\c.a=0/\c.b=0/\c.c=0/\c.args=[])\/
 (c.op=12/\c.a=0/\(0<=c.b/\c.b<=L)/\c.c=0/\c.args=[])\/
 (c.op=13/\sO R c.a/\(0<=c.b/\c.b<=L)/\c.c=0/\c.args=[])
theorem sO.up{R R' x:Int}(h:sO R x)(a:R<=R'):sO R' x:=⟨h.1,by have:=h.2;omega⟩
theorem qH.up{ps:List Int}{R R' L L':Int}{c:Ins}(h:qH ps R L c)(a:R<=R')(d:L<=L'):qH ps R' L' c:=by
  rcases h with⟨h1,h2,h3,h4,h5⟩|⟨h1,h2,h3,h4,h5⟩|⟨h1,h2,h3,h4,h5⟩|⟨h1,h2,h3,h4,h5⟩|⟨h1,h2,h3,h4,h5⟩|⟨h1,h2,h3,h4,h5,h6⟩|⟨h1,h2,h3,h4,h5⟩|h|⟨h1,h2,h3,h4,h5⟩|⟨h1,h2,h3,h4,h5⟩
  · exact .inl ⟨h1,h2.up a,h3,h4,h5⟩
  · exact .inr<|.inl ⟨h1,h2.up a,h3.up a,h4,h5⟩
  · exact .inr<|.inr<|.inl ⟨h1,h2.up a,h3.up a,h4.up a,h5⟩
  · exact .inr<|.inr<|.inr<|.inl ⟨h1,h2.up a,h3.up a,h4,h5⟩
  · exact .inr<|.inr<|.inr<|.inr<|.inl ⟨h1,h2.up a,h3,h4,h5⟩
  · exact .inr<|.inr<|.inr<|.inr<|.inr<|.inl ⟨h1,h2.up a,h3,h4,h5,fun x b=>(h6 x b).up a⟩
  · exact .inr<|.inr<|.inr<|.inr<|.inr<|.inr<|.inl ⟨h1,h2.up a,h3,h4,h5⟩
  · exact .inr<|.inr<|.inr<|.inr<|.inr<|.inr<|.inr<|.inl h
  · exact .inr<|.inr<|.inr<|.inr<|.inr<|.inr<|.inr<|.inr<|.inl ⟨h1,h2,⟨h3.1,by omega⟩,h4,h5⟩
  · exact .inr<|.inr<|.inr<|.inr<|.inr<|.inr<|.inr<|.inr<|.inr ⟨h1,h2.up a,⟨h3.1,by omega⟩,h4,h5⟩
structure Ct(f:List dw)(M:dB):Prop where
  hf:M.f=f
  ins:∀c∈M.code,qH (f.map (·.params)) M.regs M.code.length c
  regs:0<=M.regs
theorem Ct.need{f:List dw}{M:dB}(h:Ct f M)(n:Int):Ct f (bC M n):=
 ⟨h.hf,fun c a=>(h.ins c a).up (by show M.regs<=max M.regs n;omega) (Int.le_refl _),by show 0<=max M.regs n;have:=h.regs;omega⟩
theorem zT{f:List dw}{M:dB}(h:Ct f M){c:Ins}(b:qH (f.map (·.params)) M.regs (M.code.length+1) c)(e:M.code.length<=5000):
    dL M c=some ((M.code.length:Int),⟨M.f,M.code++[c],M.regs⟩)/\Ct f ⟨M.f,M.code++[c],M.regs⟩:=by
  constructor
  · unfold dL;rw[uY ⟨by simp only[List.length_singleton];omega,by simp only[List.length_singleton];omega⟩,gI (by simp only[List.length_append,List.length_singleton];omega) (by simp only[List.length_append,List.length_singleton];omega)];simp
  · refine⟨h.hf,fun d a=>?_,h.regs⟩;simp only[List.length_append,List.length_singleton,Int.natCast_add,Int.natCast_one];rcases List.mem_append.1 a with a|a
    · exact(h.ins d a).up (Int.le_refl _) V
    · rw[List.mem_singleton.1 a];exact b
theorem Og(e rest:List Tok)(k:Nat)(a:k<=e.length):sub? (e++rest) (k:Int) ((e++rest).length:Int)=some (e.drop k++rest):=by
 rw[sub_s (by simp;omega) (Nat.le_refl _),List.take_length,List.drop_append_of_le_length a]
theorem Qh(t:Tok)(r rest:List Tok):sub? (t::r++rest) 1 ((t::r++rest).length:Int)=some (r++rest):=Og (t::r) rest 1 zq3
theorem YW(t:Tok)(r rest:List Tok)(k:Nat)(a:k<=r.length):sub? (t::r++rest) (1+(k:Int)) ((t::r++rest).length:Int)=some (r.drop k++rest):=by
 have:=Og (t::r) rest (k+1) (by simpa using a);rw[show((k+1:Nat):Int)=1+(k:Int) by omega]at this;exact this
theorem Qi{ps:List Int}{w:Int}{e:List Tok}(h:wants ps w e)(a:1<=w):∃t r,e=t::r/\wants ps (w+(zA ps t-1)) r:=by
 cases e with
 |nil=>have:w=0:=h;omega
 |cons t r=>exact⟨t,r,rfl,h.2⟩
theorem tokG{ps:List Int}{f:List dw}(a:ps=f.map (·.params)){c:Int}{t:Tok}(h:GA ps c t):YV f c t:=by
  unfold GA at h;have:(ps.length:Int)=f.length:=by rw[a];simp
  exact⟨by omega,by omega,by omega,by omega⟩
structure ExprR(c:Int)(ps:List Int)(f:List dw)(w b:Int)(e:List Tok)(M:dB)(k:Nat)(M':dB):Prop where
 hk:1<=k/\k<=e.length
 rest:wants ps (w-1) (e.drop k)
 ok:Ct f M'
 new:∃new,M'.code=M.code++new/\new.length=k/\∀R,M'.regs<=R->CX f c R 1 (e.take k) b new
 up:M.regs<=M'.regs
 most:M'.regs<=max M.regs (b+k)
 has:b+1<=M'.regs
theorem YX{f:List dw}{ps:List Int}(E:ps=f.map (·.params))(c b:Int)(hb:0<=b)(a3:b<=100)(e rest:List Tok)(w:Int)(hw:1<=w)(t:Tok)(x:dw)(q:Nat)(hq:x.params=q)(a2:q<=3)(Q:0<=t.n/\t.n<ps.length)(hc:Jf ps t.n=q)(d:Nat)(i:Nat)
    (IH:∀(l:List Tok) (w' b':Int) (M:dB),l.length<d->l.length+6<=i->1<=w'->wants ps w' l->(∀t∈l,GA ps c t)->Ct f M->0<=b'->b'+l.length<=100->c<=M.regs->M.code.length+l.length<=4000->∃(k:Nat) (h:dB),eQ i M (l++rest) b'=some ((k:Int),h)/\ExprR c ps f w' b' l M k h)
    (a4:e.length<=d) (a0:e.length+5<=i) (A:∀t∈e,GA ps c t) (a1:b+e.length<=100):
    ∀(j m:Nat) (N:Nat) (args:List Int) (M:dB),j<=q->q-j<N->m<=e.length->j+1<=m->wants ps (w-1+(q-j)) (e.drop m)->args=((List.range j).map fun j:Nat=>b+(j:Int))->(∀x∈args,sO M.regs x)->Ct f M->c<=M.regs->b+1<=M.regs->M.code.length+(e.length-m)<=4000->
      ∃(k:Nat) (h:dB),again (fO (eQ i) x (e++rest) b t) N ((m:Int),args,(j:Int),M.f,M.code,M.regs)=some ((k:Int),h)/\m<=k/\k<=e.length/\wants ps (w-1) (e.drop k)/\Ct f h/\(∃cs,h.code=M.code++(cs++[⟨7,b,t.n,0,(List.range q).map fun j:Nat=>b+(j:Int)⟩])/\cs.length=k-m/\∀R,h.regs<=R->CX f c R (q-j) ((e.drop m).take (k-m)) (b+j) cs)/\M.regs<=h.regs/\h.regs<=max M.regs (b+k):=by
  intro j;generalize hg:q-j=g;induction g generalizing j with
  |zero=>
    intro m N args M hj hN C J r a o P u O B;have z:args.length=j:=by rw[a];simp
    obtain⟨N,rfl⟩:∃n,N=n+1:=⟨N-1,by omega⟩;have:j=q:=by omega
    subst this;show∃(k:Nat) (h:dB),fO (eQ i) x (e++rest) b t ((m:Int),args,(j:Int),M.f,M.code,M.regs) _=some ((k:Int),h)/\_;generalize again (fO (eQ i) x (e++rest) b t) N=nx;unfold fO;simp only;rw[dF V,cond_false];have hI:qH (f.map (·.params)) M.regs (M.code.length+1) ⟨7,b,t.n,0,args⟩:=by
      rw[<-E];exact .inr (.inr (.inr (.inr (.inr (.inl ⟨Z,⟨hb,by show b<_;omega⟩,Q,rfl,by rw[hc];simp[z],o⟩)))))
    obtain⟨p1,p2⟩:=zT P hI V;rw[show(⟨M.f,M.code,M.regs⟩:dB)=M from rfl,p1,Option.bind_some];exact⟨m,_,Z,Nat.le_refl _,C,by simpa using r,p2,⟨[],by rw[<-a];rfl,by simp,fun R _=>by simp only[Nat.sub_self,List.take_zero];exact .nil _⟩,Int.le_refl _,by show M.regs<=_;omega⟩
  |succ g ih=>
    intro m N args M hj hN C J r a o P u O B;have z:args.length=j:=by rw[a];simp
    obtain⟨N,rfl⟩:∃n,N=n+1:=⟨N-1,by omega⟩;show∃(k:Nat) (h:dB),fO (eQ i) x (e++rest) b t ((m:Int),args,(j:Int),M.f,M.code,M.regs) (again (fO (eQ i) x (e++rest) b t) N)=some ((k:Int),h)/\_;generalize K:again (fO (eQ i) x (e++rest) b t) N=nx;unfold fO;simp only;rw[dT V,cond_true,Og e rest m C,Option.bind_some,gI V V];obtain⟨s,M1,e1,p⟩:=IH (e.drop m) (w-1+(q-j)) (b+j) M (by simp;omega) (by simp;omega) V r (fun t Q=>A t (List.mem_of_mem_drop Q)) P V (by simp;omega) u (by simp;omega);have L:=p.hk;simp only[List.length_drop]at L;obtain⟨Bu,T,n2,x1⟩:=p.new;have l1:M1.code.length=M.code.length+s:=by rw[T];simp[n2]
    rw[show(⟨M.f,M.code,M.regs⟩:dB)=M from rfl,e1,Option.bind_some];simp only;rw[gI V V,gI V V,uY ⟨by simp only[List.length_singleton];omega,by simp only[List.length_singleton];omega⟩,gI V V,<-K,show((m:Int)+(s:Int))=((m+s:Nat):Int) by omega,show((j:Int)+1)=((j+1:Nat):Int) by omega];have I:=p.up;have G:=p.most;have X:=p.has;obtain⟨k,h,e2,g1,g2,g3,g4,⟨KO,g5,g6,x2⟩,g7,g8⟩:=ih (j+1) V (m+s) N (args++[b+j]) M1 V V V V (by
      have:=p.rest;rw[List.drop_drop]at this;rw[show w-1+((q:Int)-((j+1:Nat):Int))=w-1+(q-j)-1 by omega];exact this) (by rw[a,List.range_succ,List.map_append];rfl) (fun y v=>by
        rcases List.mem_append.1 v with v|v
        · exact(o y v).up I
        · rw[List.mem_singleton.1 v];exact⟨by omega,by omega⟩) p.ok V V V
    refine⟨k,h,e2,by omega,g2,g3,g4,⟨Bu++KO,by rw[g5,T];simp only[List.append_assoc],by rw[List.length_append,n2,g6];omega,fun R hR=>?_⟩,by omega,by omega⟩;have y1:=x1 R V;have S:=x2 R hR;rw[show b+((j+1:Nat):Int)=b+(j:Int)+1 by omega]at S;have y3:=CX.app1 y1 S;rw[show k-m=s+(k-(m+s)) by omega,List.take_add,List.drop_drop];exact y3
theorem WQ{f:List dw}{ps:List Int}(B:ps=f.map (·.params))(a0:∀x∈f,0<=x.params/\x.params<=3)(a4:f.length<=4)(c:Int)(a6:c<=6)(rest:List Tok):∀(d:Nat) (e:List Tok) (w b:Int) (M:dB) (N:Nat),e.length<d->e.length+6<=N->1<=w->wants ps w e->(∀t∈e,GA ps c t)->Ct f M->0<=b->b+e.length<=100->c<=M.regs->M.code.length+e.length<=4000->
    ∃(k:Nat) (s:dB),eQ N M (e++rest) b=some ((k:Int),s)/\ExprR c ps f w b e M k s
  |0,e,w,b,M,N,hd,_,_,_,_,_,_,_,_,_=>absurd hd (Nat.not_lt_zero _)
  |d+1,e,w,b,M,0,hd,hN,_,_,_,_,_,_,_,_=>by omega
  |d+1,e,w,b,M,N+1,hd,hN,hw,hwa,htok,hM,hb,hbe,hcM,hlen=>by
    obtain⟨t,r,rfl,a⟩:=Qi hwa hw;simp only[List.length_cons]at hd hN hbe hlen;have ht:=htok t zq3;have O:∀t∈r,GA ps c t:=fun x hx=>htok x<|List.mem_cons_of_mem _ hx;have G:=hM.need<|b+1;have l:(bC M<|b+1).regs=max M.regs (b+1):=rfl;have o:(bC M<|b+1).code=M.code:=rfl;have IH:=fun(e':List Tok)(w' b':Int)(s:dB)(h:e'.length<d)(h2:e'.length+6<=N)=>WQ B a0 a4 c a6 rest d e' w' b' s N h h2;show∃(k:Nat) (s:dB),sH N (eQ N) M (t::r++rest) b=some ((k:Int),s)/\_;unfold sH;rw[gI V V,show idx (t::r++rest) 0=some t by simp[idx],Option.bind_some];have I:=tokG B ht;have one:∀i:Ins,qH (f.map (·.params)) (max M.regs<|b+1) (M.code.length+1) i->zA ps t=0->i=uV f t b->nZ f t=0->∃(k:Nat) (s:dB),((dL (bC M<|b+1) i).bind fun y=>some ((1:Int),y.2))=some ((k:Int),s)/\ExprR c ps f w b (t::r) M k s:=by
      intro i hi Q a3 a2;obtain⟨p1,X⟩:=zT G (c:=i) hi (by rw[o];omega);rw[p1,Option.bind_some];refine⟨1,_,Z,⟨by simp,?_,X,⟨[i],Z,Z,fun R u=>?_⟩,?_,?_,?_⟩⟩
      · rw[Q]at a;rw[show w-1=w+(0-1) by omega];exact a
      · rw[a3];have u:max M.regs (b+1)<=R:=u;exact CX.tok (R:=R) I ⟨hb,by omega⟩ (by rw[a2];exact .nil _)
      · show M.regs<=max M.regs (b+1);omega
      · show max M.regs (b+1)<=max M.regs (b+(1:Nat));omega
      · show b+1<=max M.regs (b+1);omega
    have a1:=ht;unfold GA at a1;rcases a1 with⟨hk,hn⟩|⟨hk,hn⟩|⟨hk,hn⟩|⟨hk,hn⟩|⟨hk,hn⟩|⟨hk,hn⟩
    · rw[dT hk,cond_true];exact one _ (.inl ⟨Z,⟨hb,by show b<_;omega⟩,hn,rfl,rfl⟩) (by simp[zA,hk]) (by simp[uV,hk]) (by simp[nZ,hk])
    · rw[dF V,cond_false,dT hk,cond_true];exact one _ (.inr (.inl ⟨Z,⟨hb,by show b<_;omega⟩,⟨hn.1,by show t.n<_;omega⟩,rfl,rfl⟩)) (by simp[zA,hk]) (by simp[uV,hk]) (by simp[nZ,hk])
    · rw[dF V,cond_false,dF V,cond_false,dF V,cond_false,dT hk,cond_true];have Q:zA ps t=2:=by simp[zA,hk]
      rw[Qh,Option.bind_some];obtain⟨p,C,T,g⟩:=IH r (w+1) b (bC M (b+1)) V V V (by rw[Q]at a;exact a) O G hb V (by rw[l];omega) (by rw[o];omega);have q1:=g.hk;obtain⟨Bu,K,A,x1⟩:=g.new;rw[o]at K;have l1:C.code.length=M.code.length+p:=by rw[K];simp[A]
      have u1:=g.up;have m1:=g.most;have h1:=g.has;rw[l]at u1 m1;rw[T,Option.bind_some];simp only;rw[gI V V,YW t r rest p V,Option.bind_some,gI V V];obtain⟨P,M2,e2,L⟩:=IH (r.drop p) w (b+1) C (by simp;omega) (by simp;omega) hw (by have:=g.rest;rwa[show w+1-1=w by omega]at this) (fun x hx=>O x (List.mem_of_mem_drop hx)) g.ok V (by simp;omega) V (by simp;omega);have q2:=L.hk;simp only[List.length_drop]at q2;obtain⟨KO,n2,S,x2⟩:=L.new;have l2:M2.code.length=C.code.length+P:=by rw[n2];simp[S]
      have u2:=L.up;have m2:=L.most;have h2:=L.has;rw[e2,Option.bind_some];simp only;rw[gI V V,gI V V];obtain⟨p1,X⟩:=zT L.ok (c:=⟨3,b,b,b+1,[t.n]⟩) (.inr (.inr (.inl ⟨Z,⟨hb,by show b<_;omega⟩,⟨hb,by show b<_;omega⟩,⟨by show 0<=b+1;omega,by show b+1<_;omega⟩,t.n,rfl,hn⟩))) V;rw[p1,Option.bind_some];refine⟨p+1+P,_,by simp only[Option.some.injEq,Prod.mk.injEq,and_true];omega,⟨by simp only[List.length_cons];omega,?_,X,⟨Bu++KO++[⟨3,b,b,b+1,[t.n]⟩],by show M2.code++[(⟨3,b,b,b+1,[t.n]⟩:Ins)]=_;rw[n2,K];simp only[List.append_assoc],by simp[A,S];omega,fun R u=>by
        have u:M2.regs<=R:=u;have y:=CX.app1 (x1 R V)<|CX.app1 (x2 R u)<|.nil _;have z:=CX.tok (R:=R) (r:=r.take p++((r.drop p).take P++[])) (c:=Bu++(KO++[])) I ⟨hb,by omega⟩ (by rw[show nZ f t=0+1+1 by simp[nZ,hk]];exact y);rw[show uV f t b=⟨3,b,b,b+1,[t.n]⟩ by simp[uV,hk]]at z;rw[show p+1+P=(p+P)+1 by omega,List.take_succ_cons,List.take_add];simpa using z⟩,by show M.regs<=M2.regs;omega,by show M2.regs<=_;omega,by show b+1<=M2.regs;omega⟩⟩
      have:=L.rest;rw[List.drop_drop]at this;rw[show p+1+P=(p+P)+1 by omega,List.drop_succ_cons];exact this
    · rw[dF V,cond_false,dF V,cond_false,dF V,cond_false,dF V,cond_false,dT hk,cond_true];have Q:zA ps t=1:=by simp[zA,hk]
      rw[Qh,Option.bind_some];obtain⟨p,C,T,g⟩:=IH r w b (bC M (b+1)) V V V (by rw[Q]at a;simpa using a) O G hb V (by rw[l];omega) (by rw[o];omega);have q1:=g.hk;obtain⟨Bu,K,A,x1⟩:=g.new;rw[o]at K;have l1:C.code.length=M.code.length+p:=by rw[K];simp[A]
      have u1:=g.up;have m1:=g.most;have h1:=g.has;rw[l]at u1 m1;rw[T,Option.bind_some];simp only;rw[gI V V];obtain⟨p1,X⟩:=zT g.ok (c:=⟨4,b,b,t.n,[]⟩) (.inr (.inr (.inr (.inl ⟨.inl Z,⟨hb,by show b<_;omega⟩,⟨hb,by show b<_;omega⟩,hn,rfl⟩)))) V;rw[p1,Option.bind_some];refine⟨p+1,_,by simp only[Option.some.injEq,Prod.mk.injEq,and_true];omega,⟨by simp only[List.length_cons];omega,?_,X,⟨Bu++[⟨4,b,b,t.n,[]⟩],by show C.code++[(⟨4,b,b,t.n,[]⟩:Ins)]=_;rw[K];simp only[List.append_assoc],by simp[A],fun R u=>by
        have u:C.regs<=R:=u;have z:=CX.tok (R:=R) I ⟨hb,by omega⟩ (by rw[show nZ f t=1 by simp[nZ,hk]];exact x1 R u);rw[show uV f t b=⟨4,b,b,t.n,[]⟩ by simp[uV,hk]]at z;rw[List.take_succ_cons];exact z⟩,by show M.regs<=C.regs;omega,by show C.regs<=_;omega,by show b+1<=C.regs;omega⟩⟩
      rw[List.drop_succ_cons];exact g.rest
    · rw[dF V,cond_false,dF V,cond_false,dT hk,cond_true];exact one _ (.inr (.inr (.inr (.inr (.inl ⟨Z,⟨hb,by show b<_;omega⟩,hn,rfl,rfl⟩))))) (by simp[zA,hk]) (by simp[uV,hk]) (by simp[nZ,hk])
    · rw[dF V,cond_false,dF V,cond_false,dF V,cond_false,dF V,cond_false,dF V,cond_false,dT hk,cond_true];have a8:t.n<f.length:=by rw[B]at hn;simpa using hn.2
      obtain⟨m,hm⟩:=Int.eq_ofNat_of_zero_le hn.1;have E:m<f.length:=by omega
      have hx:=a0 f[m]<|List.getElem_mem E;obtain⟨q,hq⟩:=Int.eq_ofNat_of_zero_le hx.1;have v:Jf ps t.n=q:=by
        rw[hm,B];simp[Jf,E,hq]
      have Q:zA ps t=q:=by simp[zA,hk,v]
      rw[show(bC M (b+1)).f=f from hM.hf,hm,oJ E,Option.bind_some];obtain⟨k,s,T,g1,g2,g3,g4,⟨a7,g5,g6,x1⟩,g7,g8⟩:=YX B c b hb V (t::r) rest w hw t f[m] q hq V hn v d N IH (by simp only[List.length_cons];omega) (by simp only[List.length_cons];omega) htok (by simp only[List.length_cons];omega)
        0 1 N [] (bC M (b+1)) V V zq3 V (by rw[Q]at a;rw[show w-1+((q:Int)-((0:Nat):Int))=w+((q:Int)-1) by omega];exact a) Z zq3 G (by rw[l];omega) (by rw[l];omega) (by rw[o];simp only[List.length_cons];omega)
      rw[o]at g5;rw[l]at g7 g8;have a5:again (fO (eQ N) f[m] (t::r++rest) b t) N (1,[],0,f,(bC M<|b+1).code,(bC M<|b+1).regs)=some ((k:Int),s):=by
        have:=T;rw[show(bC M (b+1)).f=f from hM.hf]at this;exact this
      rw[a5];refine⟨k,s,Z,⟨by omega,g3,g4,⟨_,g5,by rw[List.length_append,List.length_singleton];omega,fun R u=>?_⟩,by omega,by omega,by omega⟩⟩;have J:vO f t.n=q:=by unfold vO;rw[hm,oJ E];simp[hq]
      have y:=x1 R u;rw[show b+((0:Nat):Int)=b by omega,Nat.sub_zero]at y;have z:=CX.tok (R:=R) I ⟨hb,by omega⟩ (by rw[show nZ f t=q by simp[nZ,hk,J]];exact y);rw[show uV f t b=⟨7,b,t.n,0,(List.range q).map fun j:Nat=>b+(j:Int)⟩ by simp[uV,hk,J]]at z;rw[show k=(k-1)+1 by omega,List.take_succ_cons];exact z
end Cc
open Go Go.Proofs Go.LX
namespace Cc
open Cm
def yO:Nat->List aN->Nat
 |0,_=>0
 |k+1,l=>(l.map fun s=>1+yO k s.a+yO k s.b).sum
theorem Ty(k:Nat):yO k []=0:=by cases k<;>rfl
theorem Qj:∀(k:Nat) (l:List aN) (N:Nat) (r:Int),k<N->k<=4->cK N l (5-(k:Int))=some (r,true)->r=(yO k l:Int)
  |k,l,0,r,h,_,_=>by omega
  |0,l,N+1,r,h,h4,c=>by
    have e:cK (N+1) l (5-((0:Nat):Int))=some (0,false):=rfl;rw[e]at c;cases c
  |k+1,l,N+1,r,h,h4,c=>by
    have w:=fun z y=>Qj k z N y V V;have f:lT (cK N) l (5-((k+1:Nat):Int))=some (r,true):=c;unfold lT at f;rw[dF V,cond_false]at f;have v:(5-((k+1:Nat):Int))+1=5-(k:Int):=by omega
    generalize i:iC (cK N) l (5-((k+1:Nat):Int))=B at f;have p:∀(m:List aN) (g r:Int),each B jC m g=some (r,true)->r=g+((m.map fun s=>1+yO k s.a+yO k s.b).sum:Nat):=by
      intro m;induction m with
      |nil=>
        intro g r c;have:some (g,true)=some (r,true):=c;cases this;simp
      |cons s m ihm=>
        intro g r c;rw[og,<-i,i]at c;have c:iC (cK N) l (5-((k+1:Nat):Int)) s g (each B jC m)=some (r,true):=by rw[i];exact c
        generalize each B jC m=nx at ihm c;unfold iC at c;obtain⟨_,c⟩:=bg c;have n:∀x r,jB (cK N) s (5-((k+1:Nat):Int)) nx x=some (r,true)->r=x+yO k s.b+((m.map fun s=>1+yO k s.a+yO k s.b).sum:Nat):=by
          intro x r c;unfold jB mZ at c;by_cases o:s.b.length=0
          · rw[dT V,cond_true]at c;have:s.b=[]:=List.eq_nil_of_length_eq_zero o;rw[this,Ty,ihm _ _ c];simp
          · rw[dF V,cond_false]at c;obtain⟨_,c⟩:=bg c;obtain⟨q,j,c⟩:=aC c;obtain⟨_,c⟩:=bg c;rw[v]at j;obtain⟨t,q2⟩:=q;cases q2 with
            |false=>cases c
            |true=>
              simp only[Bool.not_true,Bool.false_or]at c;by_cases d:30<x+t
              · rw[dT d]at c;cases c
              · rw[dF d,cond_false]at c;rw[ihm _ _ c,w _ _ j]
        by_cases u:30<g+1
        · rw[dT u]at c;cases c
        · rw[dF u,cond_false]at c;simp only[List.map_cons,List.sum_cons];by_cases o:s.a.length=0
          · rw[dT V,cond_true]at c;have:s.a=[]:=List.eq_nil_of_length_eq_zero o;rw[n _ _ c,this,Ty];omega
          · rw[dF V,cond_false]at c;obtain⟨_,c⟩:=bg c;obtain⟨q,j,c⟩:=aC c;obtain⟨_,c⟩:=bg c;rw[v]at j;obtain⟨t,q2⟩:=q;cases q2 with
            |false=>cases c
            |true=>
              simp only[Bool.not_true,Bool.false_or]at c;by_cases d:30<g+1+t
              · rw[dT d]at c;cases c
              · rw[dF d,cond_false]at c;rw[n _ _ c,w _ _ j];omega
    have:=p l 0 r f;rw[this,yO];simp
theorem set_mid{α:Type}(pre:List α)(z z':α)(a:List α):(pre++z::a).set pre.length z'=pre++z'::a:=by
 rw[List.set_append_right _ _ (Nat.le_refl _)];simp
theorem Ct.patch{f:List dw}{M:dB}(h:Ct f M){pre b:List Ins}{z z':Ins}(d:M.code=pre++z::b)(e:qH (f.map (·.params)) M.regs M.code.length z'):Ct f ⟨M.f,pre++z'::b,M.regs⟩:=by
  have g:(pre++z'::b).length=M.code.length:=by rw[d];simp
  refine⟨h.hf,fun c a=>?_,h.regs⟩;show qH _ M.regs ((pre++z'::b).length:Int) c;rw[g];have a:c∈pre++z'::b:=a;rcases List.mem_append.1 a with a|a
  · exact h.ins c (by rw[d];exact List.mem_append_left _ a)
  · rcases List.mem_cons.1 a with rfl|a
    · exact e
    · exact h.ins c (by rw[d];exact List.mem_append_right _ (List.mem_cons_of_mem _ a))
def CS1(f:List dw)(c R:Int)(p:Nat)(s:aN)(a:List Ins):Prop:=∀l c2,CS f c R (p+a.length) l c2->CS f c R p (s::l) (a++c2)
structure StR1(f:List dw)(c:Int)(s:aN)(n:Nat)(M M':dB):Prop where
 ok:Ct f M'
 new:∃new,M'.code=M.code++new/\new.length<=50*n/\∀R,M'.regs<=R->CS1 f c R M.code.length s new
 up:M.regs<=M'.regs
 most:M'.regs<=max M.regs (c+26)
structure StR(f:List dw)(c:Int)(l:List aN)(n:Nat)(M M':dB):Prop where
 ok:Ct f M'
 new:∃new,M'.code=M.code++new/\new.length<=50*n/\∀R,M'.regs<=R->CS f c R M.code.length l new
 up:M.regs<=M'.regs
 most:M'.regs<=max M.regs (c+26)
theorem OX{ps:List Int}{c:Int}{e:List Tok}(h:wG ps c e):0<e.length:=by
 obtain⟨t,r,a,_⟩:=Qi h.2.2 zq1;rw[a];simp
section
variable{f:List dw}{ps:List Int}{c:Int}
theorem WR(i:ps=f.map (·.params))(l:∀x∈f,0<=x.params/\x.params<=3)(h:f.length<=4)(u:0<=c)(m:c<=6){e:List Tok}(j:wG ps c e)(b:Int)(t:0<=b)(z:b<=10)(M:dB)(A:Ct f M)(g:c<=M.regs)(I:M.code.length<=3900)(N:Nat)(G:30<=N):
    ∃(k:Nat) (d:dB),eQ N M e b=some ((k:Int),d)/\k<=24/\Ct f d/\(∃a,d.code=M.code++a/\a.length=k/\∀R,d.regs<=R->CX f c R 1 e b a)/\M.regs<=d.regs/\d.regs<=max M.regs (b+24)/\b+1<=d.regs:=by
  have p:=j.1;obtain⟨k,d,o,r⟩:=WQ i l h c m [] 25 e 1 b M N V V zq1 j.2.2 j.2.1 A t V g V;rw[List.append_nil]at o;have E:=r.hk;have C:=r.most;have B:e.take k=e:=by
    have n:=r.rest;rcases hq:e.drop k with _|⟨y,ys⟩
    · rw[List.drop_eq_nil_iff]at hq;exact List.take_of_length_le hq
    · rw[hq]at n;have:=n.1;omega
  obtain⟨a,q,v,w⟩:=r.new;exact⟨k,d,o,by omega,r.ok,⟨a,q,v,fun R s=>by have:=w R s;rwa[B]at this⟩,r.up,by omega,r.has⟩
theorem st_ok(a2:ps=f.map (·.params))(a3:∀x∈f,0<=x.params/\x.params<=3)(a4:f.length<=4)(r:0<=c)(a5:c<=6)(N:Nat)(hN:30<=N)(F0:dB->List aN->Int->Option dB)(k:Nat)
    (hF:∀(l:List aN) (M:dB),Ab ps c k l->Ct f M->c+1<=M.regs->M.code.length+50*yO k l<=3000->∃C,F0 M l c=some C/\StR f c l (yO k l) M C)
    (s:aN) (h:Shape ps c s) (ha:Ab ps c k s.a) (hb:Ab ps c k s.b) (M:dB) (hM:Ct f M) (b0:c+1<=M.regs) (hl:M.code.length+50*(1+yO k s.a+yO k s.b)<=3000) (a0:List aN) (nx:List dw×List Ins×Int->Option dB):
    ∃C,jX N F0 c a0 s (M.f,M.code,M.regs) nx=nx (C.f,C.code,C.regs)/\StR1 f c s (1+yO k s.a+yO k s.b) M C:=by
  have Tv:sO M.regs c:=⟨r,by omega⟩;unfold jX;simp only;rw[show(⟨M.f,M.code,M.regs⟩:dB)=M from rfl];by_cases h4:s.kind=4
  · have hs:s.e=[]:=by
      unfold Shape at h;rcases h with h|h|h|h|h|h|h|h
      all_goals first|exact absurd h.1 V|exact h.2.2.1
    rw[hs,dF zq3,cond_false];unfold gP eu;rw[dF V,cond_false,dF V,cond_false,dF V,cond_false,dT h4,cond_true,show(⟨M.f,M.code,M.regs⟩:dB)=M from rfl];obtain⟨T,Q⟩:=zT hM (c:=⟨10,0,0,0,[]⟩) (.inr<|.inr<|.inr<|.inr<|.inr<|.inr<|.inr<|.inl ⟨Z,Z,Z,Z,Z⟩) V;rw[T,Option.bind_some];exact⟨_,Z,Q,⟨[_],Z,by simp;omega,fun R q l c2 o=>.pause h4 hs o⟩,Int.le_refl _,by show M.regs<=_;omega⟩
  have he:wG ps c s.e:=by
    unfold Shape at h;rcases h with h|h|h|h|h|h|h|h
    all_goals first|exact h.2.2.1|exact absurd h.1 h4
  rw[dT (by have:=OX he;omega),cond_true];obtain⟨k1,d,e1,b4,J,⟨u,n1,G,S⟩,u1,m1,g1⟩:=WR a2 a3 a4 r a5 he c r V M hM V V N hN;have l1:d.code.length=M.code.length+k1:=by rw[n1];simp[G]
  have Qk:sO d.regs c:=⟨r,by omega⟩;rw[e1,Option.bind_some];simp only
  --a p instruction of its own
  have p:∀(i:Ins) (M2:dB) (O:List Ins),Ct f M2->(M2.code=d.code++O/\O.length<=24)->(∀R,M2.regs<=R->CS1 f c R M.code.length s (u++O++[i]))->d.regs<=M2.regs->M2.regs<=max M.regs (c+26)->qH (f.map (·.params)) M2.regs (M2.code.length+1) i->
      ∃C,((dL M2 i).bind fun y=>eu nx y.2.f y.2.code y.2.regs)=nx (C.f,C.code,C.regs)/\StR1 f c s (1+yO k s.a+yO k s.b) M C:=by
    intro i M2 O P hn a7 hu hm hi;obtain⟨n2,a6⟩:=hn;have l2:M2.code.length=d.code.length+O.length:=by rw[n2];simp
    obtain⟨T,Q⟩:=zT P hi V;rw[T,Option.bind_some];exact⟨_,Z,Q,⟨u++O++[i],by show M2.code++[i]=_;rw[n2,n1];simp only[List.append_assoc],by simp;omega,a7⟩,by show M.regs<=M2.regs;omega,hm⟩
  have j:Ct f d/\(d.code=d.code++[]/\([]:List Ins).length<=24):=⟨J,by simp,by simp⟩;have t:∀(x:List Ins) (i:Ins),M.code.length+(u++x++[i]).length=M.code.length+u.length+x.length+1:=fun x i=>by simp;omega
  have zero:∀B,qH (f.map (·.params)) B 1 ⟨0,0,0,0,[]⟩->True:=fun _ _=>trivial;unfold Shape at h;rcases h with⟨hk,h1,_,_⟩|⟨hk,h1,_,hff,_⟩|⟨hk,_⟩|⟨hk,_⟩|⟨hk,_⟩|⟨hk,_⟩|⟨hk,h1,_,hfe,hbe⟩|⟨hk,_⟩
  · rw[dF V,cond_false];unfold gP;rw[dT hk,cond_true];exact p _ d [] j.1 j.2 (fun R q l c2 o=>by
      rw[t]at o;have z:=CS.set hk h1 (S R q) o;simpa using z) (Int.le_refl _) V (.inr (.inl ⟨Z,⟨h1.1,by show s.n<_;omega⟩,Qk,rfl,rfl⟩))
  · rw[dF V,cond_false];unfold gP;rw[dF V,cond_false,dT hk,cond_true,gI V V];obtain⟨k2,M2,e2,b3,P,⟨O,n2,a6,x2⟩,u2,m2,g2⟩:=WR a2 a3 a4 r a5 hff (c+1) V V d J V V N hN;rw[show(⟨d.f,d.code,d.regs⟩:dB)=d from rfl,e2,Option.bind_some,gI V V];exact p _ M2 O P ⟨n2,by omega⟩ (fun R q l c2 o=>by
      rw[t]at o;have z:=CS.put hk h1.1 (S R V) (x2 R q) o;simpa using z) u2 V (.inr (.inr (.inr (.inl ⟨.inr Z,⟨r,by show c<_;omega⟩,⟨by show 0<=c+1;omega,by show c+1<_;omega⟩,h1,rfl⟩))))
  · rw[dF V,cond_false];unfold gP;rw[dF V,cond_false,dF V,cond_false,dT hk,cond_true];exact p _ d [] j.1 j.2 (fun R q l c2 o=>by
      rw[t]at o;have z:=CS.say hk (S R q) o;simpa using z) (Int.le_refl _) V (.inr (.inr (.inr (.inr (.inr (.inr (.inl ⟨.inr (.inl Z),Qk,Z,Z,Z⟩)))))))
  · exact absurd hk h4
  · rw[dF V,cond_false];unfold gP;rw[dF V,cond_false,dF V,cond_false,dF V,cond_false,dF V,cond_false,dT hk,cond_true];exact p _ d [] j.1 j.2 (fun R q l c2 o=>by
      rw[t]at o;have z:=CS.go hk (S R q) o;simpa using z) (Int.le_refl _) V (.inr (.inr (.inr (.inr (.inr (.inr (.inl ⟨.inr (.inr Z),Qk,Z,Z,Z⟩)))))))
  · rw[dF V,cond_false];unfold gP eu;rw[dF V,cond_false,dF V,cond_false,dF V,cond_false,dF V,cond_false,dF V,cond_false,dF V,cond_false,dT hk,cond_true,show(⟨d.f,d.code,d.regs⟩:dB)=d from rfl];obtain⟨T,Q⟩:=zT J (c:=⟨13,c,0,0,[]⟩) (.inr (.inr (.inr (.inr (.inr (.inr (.inr (.inr (.inr ⟨Z,Qk,⟨by show(0:Int)<=0;omega,by show(0:Int)<=_;omega⟩,rfl,rfl⟩))))))))) V;rw[T,Option.bind_some];simp only;obtain⟨g,e3,K⟩:=hF s.a ⟨d.f,d.code++[⟨13,c,0,0,[]⟩],d.regs⟩ ha Q (by show c+1<=d.regs;omega) (by show(d.code++[_]).length+_<=_;simp;omega);obtain⟨m,X,a9,xa⟩:=K.new;have ua:=K.up;have ma:=K.most;simp only at X ua ma xa;have l3:g.code.length=d.code.length+1+m.length:=by rw[X];simp only[List.length_append,List.length_singleton]
    rw[e3,Option.bind_some];obtain⟨q1,q2⟩:=zT K.ok (c:=⟨12,0,0,0,[]⟩) (.inr (.inr (.inr (.inr (.inr (.inr (.inr (.inr (.inl ⟨Z,Z,⟨by show(0:Int)<=0;omega,by show(0:Int)<=_;omega⟩,rfl,rfl⟩))))))))) V;rw[q1,Option.bind_some];simp only;have v:g.code++[(⟨12,0,0,0,[]⟩:Ins)]=d.code++⟨13,c,0,0,[]⟩::(m++[⟨12,0,0,0,[]⟩]):=by rw[X];simp
    have l4:(g.code++[(⟨12,0,0,0,[]⟩:Ins)]).length=g.code.length+1:=by simp
    have A:sO g.regs c:=⟨r,by omega⟩;have P1:=q2.patch (z':=⟨13,c,((g.code++[(⟨12,0,0,0,[]⟩:Ins)]).length:Int),0,[]⟩) v<|.inr<|.inr<|.inr<|.inr<|.inr<|.inr<|.inr<|.inr<|.inr ⟨Z,A,⟨Int.natCast_nonneg _,Int.le_refl _⟩,Z,Z⟩;have i1:idx (g.code++[(⟨12,0,0,0,[]⟩:Ins)]) (d.code.length:Int)=some ⟨13,c,0,0,[]⟩:=by rw[v,pF];simp
    rw[i1,Option.bind_some,Int.toNat_natCast];simp only;have a1:(g.code++[(⟨12,0,0,0,[]⟩:Ins)]).set d.code.length ⟨13,c,((g.code++[(⟨12,0,0,0,[]⟩:Ins)]).length:Int),0,[]⟩=d.code++⟨13,c,((g.code++[(⟨12,0,0,0,[]⟩:Ins)]).length:Int),0,[]⟩::(m++[⟨12,0,0,0,[]⟩]):=by
      conv=>lhs;arg 1;rw[v]
      rw[set_mid]
    rw[a1];have E:(⟨13,c,((g.code++[(⟨12,0,0,0,[]⟩:Ins)]).length:Int),0,[]⟩:Ins)=⟨13,c,(M.code.length+u.length+1+m.length+1:Nat),0,[]⟩:=by rw[l4,l3,l1,G]
    generalize b1:(⟨13,c,((g.code++[(⟨12,0,0,0,[]⟩:Ins)]).length:Int),0,[]⟩:Ins)=z1 at P1⊢E;obtain⟨w,e5,r5⟩:=hF s.b ⟨g.f,d.code++z1::(m++[⟨12,0,0,0,[]⟩]),g.regs⟩ hb P1 (by show c+1<=g.regs;omega) (by show(d.code++z1::(m++[_])).length+_<=_;simp;omega);obtain⟨VB,nb,b2,xb⟩:=r5.new;have ub:=r5.up;have mb:=r5.most;simp only at nb ub mb xb;rw[e5,Option.bind_some];have L:g.code.length=(d.code++z1::m).length:=by rw[l3];simp;omega
    have I:w.code=(d.code++z1::m)++⟨12,0,0,0,[]⟩::VB:=by rw[nb];simp
    have P2:=r5.ok.patch (z':=⟨12,0,(w.code.length:Int),0,[]⟩) I<|.inr<|.inr<|.inr<|.inr<|.inr<|.inr<|.inr<|.inr<|.inl ⟨Z,Z,⟨Int.natCast_nonneg _,Int.le_refl _⟩,Z,Z⟩;have i2:idx w.code (g.code.length:Int)=some ⟨12,0,0,0,[]⟩:=by rw[I,L,pF];simp
    rw[i2,Option.bind_some,Int.toNat_natCast];simp only;have a8:w.code.set g.code.length ⟨12,0,(w.code.length:Int),0,[]⟩=(d.code++z1::m)++⟨12,0,(w.code.length:Int),0,[]⟩::VB:=by
      conv=>lhs;arg 1;rw[I]
      rw[L,set_mid]
    rw[a8];refine⟨⟨w.f,(d.code++z1::m)++⟨12,0,(w.code.length:Int),0,[]⟩::VB,w.regs⟩,Z,P2,⟨u++z1::m++⟨12,0,(w.code.length:Int),0,[]⟩::VB,?_,?_,fun R q l c2 o=>?_⟩,by show M.regs<=w.regs;omega,by show w.regs<=_;omega⟩
    · show(d.code++z1::m)++_=_;rw[n1];simp only[List.append_assoc,List.cons_append]
    · simp only[List.length_append,List.length_cons];omega
    · have q:w.regs<=R:=q;have l5:w.code.length=M.code.length+u.length+1+m.length+1+VB.length:=by rw[I];simp only[List.length_append,List.length_cons];rw[l1,G];omega
      have ya:=xa R V;have yb:=xb R q;rw[show(d.code++[(⟨13,c,0,0,[]⟩:Ins)]).length=M.code.length+u.length+1 by simp only[List.length_append,List.length_singleton];omega]at ya;rw[show(d.code++z1::(m++[(⟨12,0,0,0,[]⟩:Ins)])).length=M.code.length+u.length+1+m.length+1 by simp only[List.length_append,List.length_cons,List.length_nil];omega]at yb;rw[show M.code.length+(u++z1::m++(⟨12,0,(w.code.length:Int),0,[]⟩:Ins)::VB).length=M.code.length+u.length+1+m.length+1+VB.length by simp only[List.length_append,List.length_cons];omega]at o;have z:=CS.ite hk (S R V) ya yb o;rw[<-E,<-l5]at z;simpa using z
  · rw[dT hk,cond_true];unfold eu;obtain⟨T,Q⟩:=zT J (c:=⟨13,c,0,0,[]⟩) (.inr (.inr (.inr (.inr (.inr (.inr (.inr (.inr (.inr ⟨Z,Qk,⟨by show(0:Int)<=0;omega,by show(0:Int)<=_;omega⟩,rfl,rfl⟩))))))))) V;rw[T,Option.bind_some];simp only;obtain⟨g,e3,K⟩:=hF s.a ⟨d.f,d.code++[⟨13,c,0,0,[]⟩],d.regs⟩ ha Q (by show c+1<=d.regs;omega) (by show(d.code++[_]).length+_<=_;simp;omega);obtain⟨m,X,a9,xa⟩:=K.new;have ua:=K.up;have ma:=K.most;simp only at X ua ma xa;have l3:g.code.length=d.code.length+1+m.length:=by rw[X];simp only[List.length_append,List.length_singleton]
    rw[e3,Option.bind_some];obtain⟨q1,q2⟩:=zT K.ok (c:=⟨12,0,(M.code.length:Int),0,[]⟩) (.inr (.inr (.inr (.inr (.inr (.inr (.inr (.inr (.inl ⟨Z,Z,⟨by show(0:Int)<=(M.code.length:Int);omega,by show(M.code.length:Int)<=_;omega⟩,rfl,rfl⟩))))))))) V;rw[q1,Option.bind_some];simp only;have v:g.code++[(⟨12,0,(M.code.length:Int),0,[]⟩:Ins)]=d.code++⟨13,c,0,0,[]⟩::(m++[⟨12,0,(M.code.length:Int),0,[]⟩]):=by rw[X];simp
    have A:sO g.regs c:=⟨r,by omega⟩;have P1:=q2.patch (z':=⟨13,c,((g.code++[(⟨12,0,(M.code.length:Int),0,[]⟩:Ins)]).length:Int),0,[]⟩) v<|.inr<|.inr<|.inr<|.inr<|.inr<|.inr<|.inr<|.inr<|.inr ⟨Z,A,⟨Int.natCast_nonneg _,Int.le_refl _⟩,Z,Z⟩;have i1:idx (g.code++[(⟨12,0,(M.code.length:Int),0,[]⟩:Ins)]) (d.code.length:Int)=some ⟨13,c,0,0,[]⟩:=by rw[v,pF];simp
    rw[i1,Option.bind_some,Int.toNat_natCast];simp only;have a1:(g.code++[(⟨12,0,(M.code.length:Int),0,[]⟩:Ins)]).set d.code.length ⟨13,c,((g.code++[(⟨12,0,(M.code.length:Int),0,[]⟩:Ins)]).length:Int),0,[]⟩=d.code++⟨13,c,((g.code++[(⟨12,0,(M.code.length:Int),0,[]⟩:Ins)]).length:Int),0,[]⟩::(m++[⟨12,0,(M.code.length:Int),0,[]⟩]):=by
      conv=>lhs;arg 1;rw[v]
      rw[set_mid]
    rw[a1];have l4:(g.code++[(⟨12,0,(M.code.length:Int),0,[]⟩:Ins)]).length=g.code.length+1:=by simp
    have E:(⟨13,c,((g.code++[(⟨12,0,(M.code.length:Int),0,[]⟩:Ins)]).length:Int),0,[]⟩:Ins)=⟨13,c,(M.code.length+u.length+1+m.length+1:Nat),0,[]⟩:=by rw[l4,l3,l1,G]
    generalize (⟨13,c,((g.code++[(⟨12,0,(M.code.length:Int),0,[]⟩:Ins)]).length:Int),0,[]⟩:Ins)=z1 at P1⊢E;refine⟨⟨g.f,d.code++z1::(m++[⟨12,0,(M.code.length:Int),0,[]⟩]),g.regs⟩,Z,P1,⟨u++z1::(m++[⟨12,0,(M.code.length:Int),0,[]⟩]),?_,?_,fun R q l c2 o=>?_⟩,by show M.regs<=g.regs;omega,by show g.regs<=_;omega⟩
    · show d.code++_=_;rw[n1];simp only[List.append_assoc]
    · simp only[List.length_append,List.length_cons,List.length_nil];omega
    · have q:g.regs<=R:=q;have ya:=xa R q;rw[show(d.code++[(⟨13,c,0,0,[]⟩:Ins)]).length=M.code.length+u.length+1 by simp only[List.length_append,List.length_singleton];omega]at ya;rw[show M.code.length+(u++z1::(m++[(⟨12,0,(M.code.length:Int),0,[]⟩:Ins)])).length=M.code.length+u.length+1+m.length+1 by simp only[List.length_append,List.length_cons,List.length_nil];omega]at o;have z:=CS.loop hk (S R V) ya o;rw[<-E]at z;simpa using z
  · rw[dF V,cond_false];unfold gP;rw[dF V,cond_false,dF V,cond_false,dF V,cond_false,dF V,cond_false,dF V,cond_false,dT hk,cond_true];exact p _ d [] j.1 j.2 (fun R q l c2 o=>by
      rw[t]at o;have z:=CS.ret hk (S R q) o;simpa using z) (Int.le_refl _) V (.inr (.inr (.inr (.inr (.inr (.inr (.inl ⟨.inl Z,Qk,Z,Z,Z⟩)))))))
end
theorem StR.trans{f:List dw}{c:Int}{n m:Nat}{s:aN}{l:List aN}{M g M2:dB}(e:StR1 f c s n M g)(d:StR f c l m g M2):StR f c (s::l) (n+m) M M2:=by
 obtain⟨a,h,p,k⟩:=e.new;obtain⟨b,o,q,j⟩:=d.new;have:=e.up;have:=e.most;have:=d.up;have:=d.most;exact⟨d.ok,⟨a++b,by rw[o,h,List.append_assoc],by simp only[List.length_append];omega,fun R i=>k R V l b (by have:=j R i;rwa[h,List.length_append]at this)⟩,by omega,by omega⟩
theorem Tz{f:List dw}{ps:List Int}{c:Int}(i:ps=f.map (·.params))(j:∀x∈f,0<=x.params/\x.params<=3)(o:f.length<=4)(g:0<=c)(n:c<=6):∀(k:Nat) (l:List aN) (M:dB) (N:Nat),Ab ps c k l->k+31<=N->Ct f M->c+1<=M.regs->M.code.length+50*yO k l<=3000->∃d,iR N M l c=some d/\StR f c l (yO k l) M d
  |k,l,M,0,_,h,_,_,_=>by omega
  |0,l,M,N+1,h,hN,e,p,r=>by
    have:l=[]:=h;subst this;exact⟨M,Z,e,⟨[],by simp,by simp,fun _ _=>.nil _⟩,Int.le_refl _,by omega⟩
  |k+1,l,M,N+1,h,hN,e,p,r=>by
    show∃d,qO N (iR N) M l c=some d/\_;unfold qO;have t:∀(m:List aN) (M:dB),(∀s∈m,Shape ps c s/\Ab ps c k s.a/\Ab ps c k s.b)->Ct f M->c+1<=M.regs->M.code.length+50*(m.map fun s=>1+yO k s.a+yO k s.b).sum<=3000->
        ∃d,each (jX N (iR N) c l) pM m (M.f,M.code,M.regs)=some d/\StR f c m (m.map fun s=>1+yO k s.a+yO k s.b).sum M d:=by
      intro m;induction m with
      |nil=>intro M _ e _ _;exact⟨M,Z,e,⟨[],by simp,by simp,fun _ _=>.nil _⟩,Int.le_refl _,by omega⟩
      |cons s m ih=>
        intro M w e p r;simp only[List.map_cons,List.sum_cons]at r⊢;obtain⟨O,A,K⟩:=w s zq3;rw[og];obtain⟨v,y,q⟩:=st_ok i j o g n N V (iR N) k (fun G d I q2 L E=>Tz i j o g n k G d N I V q2 L E) s O A K M e p V l<|each (jX N (iR N) c l) pM m;rw[y];obtain⟨u,z,Q,-⟩:=q.new;have P:v.code.length=M.code.length+u.length:=by rw[z];simp
        obtain⟨M2,C,J⟩:=ih v (fun x B=>w x (List.mem_cons_of_mem _ B)) q.ok (by have:=q.up;omega) V;exact⟨M2,C,StR.trans q J⟩
    exact t l M h.2 e p r
end Cc
open Go Go.Proofs Go.LX
namespace Cc
open Cm
theorem mW{R x:Int}(h:sO R x):aS x R=true:=by
 unfold aS;rw[dT h.1,dT h.2];rfl
theorem b8_all(R:Int):∀l:List Int,(∀x∈l,sO R x)->each (lL R) rV l ()=some 0
 |[],_=>rfl
 |x::l,h=>by
  rw[og];have a:=b8_all R l fun y b=>h y<|List.mem_cons_of_mem _ b;generalize each (lL R) rV l=nx at a⊢;unfold lL;rw[dT (h x zq3).1,dT (h x zq3).2];exact a
theorem VC{out:List aX}{ps:List Int}(g:ps=out.map (·.params)){R L e:Int}(o:L<e){c:Ins}(h:qH ps R L c)(i:Int):dR c i out R e=some 0:=by
  obtain⟨op,a,b,d,args⟩:=c;unfold qH at h;simp only at h;rcases h with⟨rfl,h2,h3,rfl,rfl⟩|⟨rfl,h2,h3,rfl,rfl⟩|⟨rfl,h2,h3,h4,n,rfl,h5⟩|⟨rfl|rfl,h2,h3,h4,rfl⟩|⟨rfl,h2,h3,rfl,rfl⟩|⟨rfl,h2,h3,rfl,h5,h6⟩|⟨rfl|rfl|rfl,h2,rfl,rfl,rfl⟩|⟨rfl,rfl,rfl,rfl,rfl⟩|⟨rfl,rfl,h3,rfl,rfl⟩|⟨rfl,h2,h3,rfl,rfl⟩
  · simp[dR,di,dh,dC,dG,dx,bH,cZ,bU,bT,bQ,EG,yc,Wv,lv,yN,mW h2,in_t h3.1 h3.2]
  · simp[dR,di,dh,dC,dG,dx,bH,cZ,bU,bT,bQ,EG,yc,Wv,lv,yN,mW h2,mW h3]
  · simp[dR,di,dh,dC,dG,dx,bH,cZ,bU,bT,bQ,EG,yc,Wv,lv,yN,mW h2,mW h3,mW h4,in_t h5.1 h5.2]
  · simp[dR,di,dh,dC,dG,dx,bH,cZ,bU,bT,bQ,EG,yc,Wv,lv,yN,mW h2,mW h3,in_t h4.1 (show d<=3 by omega)]
  · simp[dR,di,dh,dC,dG,dx,bH,cZ,bU,bT,bQ,EG,yc,Wv,lv,yN,mW h2,mW h3,in_t h4.1 (show d<=3 by omega)]
  · simp[dR,di,dh,dC,dG,dx,bH,cZ,bU,bT,bQ,EG,yc,Wv,lv,yN,mW h2,in_t h3.1 h3.2]
  · have k:b<(out.length:Int):=by rw[g]at h3;simpa using h3.2
    obtain⟨m,rfl⟩:=Int.eq_ofNat_of_zero_le h3.1;have j:m<out.length:=by omega
    have l:Jf ps (m:Int)=out[m].params:=by rw[g];simp[Jf,j]
    rw[l]at h5;have f:aS (m:Int) (out.length:Int)=true:=mW ⟨h3.1,k⟩;simp[dR,di,dh,dC,dG,dx,bH,cZ,bU,bT,bQ,EG,yc,Wv,lv,yN,mW h2,f,oJ j,h5];rw[show(decide ((m:Int)<0)||decide (out.length<=m))=false by simp only[Bool.or_eq_false_iff,decide_eq_false_iff_not];omega,cond_false];exact b8_all R args h6
  · simp[dR,di,dh,dC,dG,dx,bH,cZ,bU,bT,bQ,EG,yc,Wv,lv,yN,mW h2]
  · simp[dR,di,dh,dC,dG,dx,bH,cZ,bU,bT,bQ,EG,yc,Wv,lv,yN,mW h2]
  · simp[dR,di,dh,dC,dG,dx,bH,cZ,bU,bT,bQ,EG,yc,Wv,lv,yN,mW h2]
  · simp[dR,di,dh,dC,dG,dx,bH,cZ,bU,bT,bQ,EG,yc,Wv,lv,yN]
  · have f:aS b e=true:=mW ⟨h3.1,by omega⟩;simp[dR,di,dh,dC,dG,dx,bH,cZ,bU,bT,bQ,EG,yc,Wv,lv,yN,f]
  · have f:aS b e=true:=mW ⟨h3.1,by omega⟩;simp[dR,di,dh,dC,dG,dx,bH,cZ,bU,bT,bQ,EG,yc,Wv,lv,yN,f,mW h2]
inductive KP {α β:Type} (R:α->β->Prop):List α->List β->Prop
 |nil:KP R [] []
 |cons {x:α} {y:β} {l:List α} {m:List β}:R x y->KP R l m->KP R (x::l) (y::m)
theorem KP.length_eq{α β:Type}{R:α->β->Prop}:∀{l:List α} {m:List β},KP R l m->l.length=m.length
 |_,_,.nil=>rfl
 |_,_,.cons _ h=>by simp[h.length_eq]
theorem KP.right{α β:Type}{R:α->β->Prop}:∀{l:List α} {m:List β},KP R l m->∀y∈m,∃x,R x y
  |_,_,.nil,y,hy=>by cases hy
  |_,_,.cons h hs,y,hy=>by
    rcases List.mem_cons.1 hy with rfl|hy
    · exact⟨_,h⟩
    · exact hs.right y hy
theorem KP.at_{α β:Type}{R:α->β->Prop}{l:List α}{m:List β}(h:KP R l m):∀{k:Int} {x:α},idx l k=some x->∃y,idx m k=some y/\R x y:=by
 induction h with
 |nil=>intro k x d;obtain⟨e,c⟩:=aD d;simp at c
 | @cons a b l m g gs ih=>
  intro k x d;obtain⟨e,c⟩:=aD d;obtain⟨n,rfl⟩:=Int.eq_ofNat_of_zero_le e;cases n with
  |zero=>
   obtain rfl:a=x:=by simpa using c
   exact⟨b,by simp[idx],g⟩
  |succ n=>
   obtain⟨y,f,i⟩:=ih (k:=(n:Int)) (x:=x) (by rw[pF];simpa using c);rw[pF]at f;exact⟨y,by rw[pF];simpa using f,i⟩
structure WS(ps:List Int)(x:dw)(y:aX):Prop where
 params:y.params=x.params
 regs:x.locals+1<=y.regs/\y.regs<=40
 len:1<=y.code.length/\y.code.length<=2000
 last:∃pre a,y.code=pre++[⟨8,a,0,0,[]⟩]
 ins:∀c∈y.code,qH ps y.regs ((y.code.length:Int)-1) c
theorem WT(a:List aX)(ps:List Int)(d:ps=a.map (·.params)):∀l:List aX,(∀y∈l,∃x,WS ps x y)->each (jQ a) ny l ()=some 0
  |[],_=>rfl
  |y::l,h=>by
    have e:=WT a ps d l fun z f=>h z<|List.mem_cons_of_mem _ f;obtain⟨x,g⟩:=h y zq3;obtain⟨pre,b,k⟩:=g.last;rw[og];generalize each (jQ a) ny l=nx at e⊢;unfold jQ;rw[WO a y _ y.code 0 (fun c j i=>VC d V (g.ins c j) i),last_ok k nx (by have:=g.len;omega),e]
theorem Dq(ps:List Int):∀(f:List dw) (out:List aX) (i:Nat),KP (WS ps) f out->(∀x∈f,(0<=x.params/\x.params<=3)/\x.params<=x.locals)->(i=0->∀x r,f=x::r->x.params=0)->heads i out=0
 |_,_,i,.nil,_,_=>rfl
 |x::f,y::out,i,.cons g gs,h,h0=>by
  have k:=h x zq3;have b:=Dq ps f out (i+1) gs (fun z a=>h z<|List.mem_cons_of_mem _ a) (fun h=>by omega);have hp:=g.params;have j:=g.regs;have l:=g.len;have a:i=0->y.params=0:=fun c=>by rw[hp];exact h0 c x f Z
  have e:zR i y=0:=by
   unfold zR;rw[if_pos ⟨by omega,by omega,by rintro⟨d,q2⟩;exact q2 (a d)⟩,if_pos V]
  unfold heads;rw[if_neg V,b]
theorem YY{f:List dw}{ps:List Int}{out:List aX}(a:ps=f.map (·.params))(i:1<=f.length/\f.length<=4)(g:KP (WS ps) f out)(h:∀x∈f,(0<=x.params/\x.params<=3)/\x.params<=x.locals)(d:∀x r,f=x::r->x.params=0):mg out=some 0:=by
  have b:out.length=f.length:=g.length_eq.symm;have c:ps=out.map (·.params):=by
    rw[a];clear a i h d b;induction g with
    |nil=>rfl
    |cons g gs ih=>simp only[List.map_cons,g.params,ih]
  unfold mg;rw[show(decide (((out.length:Int):Int)=0)||decide ((4:Int)<(out.length:Int)))=false by simp only[Bool.or_eq_false_iff,decide_eq_false_iff_not];omega,cond_false];have e:gF jR (lU out) 0 out ()=_:=I9 (lU out) out 0;rw[e,Dq ps f out 0 g h (fun _=>d),if_neg V];exact WT out ps c out g.right
theorem Ld(k:Unit->Option Int):∀(l:List dw) (i:Nat),gF fM k (i:Int) l ()=some 0->k ()=some 0/\(i=0->∀x r,l=x::r->x.params<=0)
 |[],i,h=>⟨h,fun _ x r h=>by cases h⟩
 |x::l,i,h=>by
  have e:gF fM k (i:Int) (x::l) ()=fM (i:Int) x () (gF fM k ((i+1:Nat):Int) l):=rfl;rw[e]at h;have a:=Ld k l<|i+1;generalize gF fM k ((i+1:Nat):Int) l=nx at a h;unfold fM at h;generalize c:((((decide ((x.params:Int)<0)||decide ((3:Int)<x.params))||decide ((x.locals:Int)<x.params))||decide ((6:Int)<x.locals))||(decide ((i:Int)=0)&&decide ((0:Int)<x.params)))=A at h;cases A with
  |true=>cases h
  |false=>
   simp only[Bool.or_eq_false_iff,Bool.and_eq_false_iff,decide_eq_false_iff_not]at c;refine⟨(a h).1,fun d y r b=>?_⟩;cases b;omega
theorem Le(N:Nat)(j:10<=N)(a:List dw):∀l:List dw,each (mf N a) rH l ()=some 0->∀x∈l,yO 4 x.body<=30
  |[],_,x,hx=>by cases hx
  |y::l,h,x,hx=>by
    rw[og]at h;have d:=Le N j a l;generalize each (mf N a) rH l=nx at d h;unfold mf at h;obtain⟨q,e,h⟩:=aC h;obtain⟨g,q2⟩:=q;cases q2 with
    |false=>cases h
    |true=>
      simp only[Bool.not_true,cond_false]at h;obtain⟨z,k,h⟩:=aC h;by_cases b:z=0
      · rw[dF V,cond_false]at h;rcases List.mem_cons.1 hx with rfl|hx
        · have m:=Qj 4 x.body N g V zq1 e;obtain⟨r,f,i,_⟩:=KN [] 0 4 x.body N V zq1;have c:cK N x.body 1=some r:=f;rw[e]at c;cases c;simp only at i;omega
        · exact d h x hx
      · rw[dT b,cond_true]at h;cases h;exact absurd Z b
theorem Oh{N:Nat}(b:10<=N){f:List dw}(h:pK N f=some 0):(∀x r,f=x::r->x.params<=0)/\∀x∈f,yO 4 x.body<=30:=by
 unfold pK at h;generalize (decide (((f.length:Int):Int)=0)||decide ((4:Int)<(f.length:Int)))=A at h;cases A with
 |true=>cases h
 |false=>
  rw[cond_false]at h;have d:gF fM (vZ N f) ((0:Nat):Int) f ()=some 0:=h;obtain⟨a,c⟩:=Ld _ f 0 d;exact⟨c Z,Le N b f f a⟩
theorem Jg{f:List dw}(g:VA f)(e:∀x∈f,yO 4 x.body<=30)(N:Nat)(L:60<=N):∀(l:List dw) (d:List aX),(∀x∈l,x∈f)->d.length+l.length<=10->∃out,each (wm N f) rM l d=rM (d++out)/\KP (WS (f.map (·.params))) l out/\KP (Cm.PG f) l out
  |[],d,_,_=>⟨[],by rw[List.append_nil];rfl,.nil,.nil⟩
  |x::l,d,hl,hacc=>by
    have t:=hl x zq3;have k:=g.fn x t;have R:=k.params;have P:=k.locals;simp only[List.length_cons]at hacc;have o:∀y∈f,0<=y.params/\y.params<=3:=fun y p=>(g.fn y p).params;have r:Ct f (bC ⟨f,[],0⟩ (x.locals+1)):=Ct.need (M:=⟨f,[],0⟩) ⟨Z,(by intro c b;cases b),Int.le_refl 0⟩ _;have j:(bC ⟨f,[],0⟩<|x.locals+1).regs=max 0 (x.locals+1):=rfl;have h:(bC ⟨f,[],0⟩<|x.locals+1).code=[]:=rfl;have I:=e x t;obtain⟨a,v,i⟩:=Tz (c:=x.locals) Z o g.many.2 V V 4 x.body (bC ⟨f,[],0⟩ (x.locals+1)) N k.body V r (by rw[j];omega) (by rw[h];simp only[List.length_nil];omega);obtain⟨q,n,Q,C⟩:=i.new;have G:=i.up;have z:=i.most;rw[j]at G z;rw[h,List.nil_append]at n;have s:a.code.length<=1500:=by rw[n];omega
    have m:sO a.regs x.locals:=⟨by omega,by omega⟩;obtain⟨E,B⟩:=zT i.ok (c:=⟨1,x.locals,0,0,[]⟩) (.inl ⟨Z,m,⟨by show(-1000000000:Int)<=0;omega,by show(0:Int)<=1000000000;omega⟩,rfl,rfl⟩) V;obtain⟨J,O⟩:=zT B (c:=⟨8,x.locals,0,0,[]⟩) (.inr (.inr (.inr (.inr (.inr (.inr (.inl ⟨.inl Z,m,Z,Z,Z⟩))))))) (by simp;omega);rw[og,wm,gI V V,v,Option.bind_some,E,Option.bind_some];simp only;rw[J,Option.bind_some];simp only;rw[uY ⟨by simp only[List.length_singleton];omega,by simp only[List.length_singleton];omega⟩];obtain⟨out,A,w,K⟩:=Jg g e N L l (d++[⟨x.params,a.regs,a.code++[⟨1,x.locals,0,0,[]⟩]++[⟨8,x.locals,0,0,[]⟩]⟩]) (fun y p=>hl y (List.mem_cons_of_mem _ p)) (by simp only[List.length_append,List.length_singleton];omega);refine⟨⟨x.params,a.regs,a.code++[⟨1,x.locals,0,0,[]⟩]++[⟨8,x.locals,0,0,[]⟩]⟩::out,by rw[A];simp,.cons ⟨rfl,⟨by show x.locals+1<=a.regs;omega,by show a.regs<=40;omega⟩,⟨by simp,by simp;omega⟩,⟨_,_,rfl⟩,fun c b=>?_⟩ w,.cons ⟨⟨q,by rw[n];simp,by have:=C a.regs (Int.le_refl _);rwa[h]at this⟩,by show x.locals<a.regs;omega,k.params.1,k.locals.1⟩ K⟩;have b:c∈a.code++[⟨1,x.locals,0,0,[]⟩]++[⟨8,x.locals,0,0,[]⟩]:=b;show qH _ a.regs (((a.code++[(⟨1,x.locals,0,0,[]⟩:Ins)]++[(⟨8,x.locals,0,0,[]⟩:Ins)]).length:Int)-1) c;have u:(((a.code++[(⟨1,x.locals,0,0,[]⟩:Ins)]++[(⟨8,x.locals,0,0,[]⟩:Ins)]).length:Int)-1)=a.code.length+1:=by simp;omega
    rw[u];rcases List.mem_append.1 b with b|b
    · rcases List.mem_append.1 b with b|b
      · exact(i.ok.ins c b).up (Int.le_refl _) V
      · rw[List.mem_singleton.1 b];exact .inl ⟨Z,m,⟨by show(-1000000000:Int)<=0;omega,by show(0:Int)<=1000000000;omega⟩,rfl,rfl⟩
    · rw[List.mem_singleton.1 b];exact .inr<|.inr<|.inr<|.inr<|.inr<|.inr<|.inl ⟨.inl Z,m,Z,Z,Z⟩
theorem VD{f:List dw}{N:Nat}(m:60<=N)(d:pK N f=some 0)(g:VA f):∃out,uN N f=some (out,0)/\mg out=some 0/\Cm.Made f out:=by
 obtain⟨i,n⟩:=Oh V d;obtain⟨out,j,c,l⟩:=Jg g n N m f [] (fun _ h=>h) (by have:=g.many;simp;omega);have a:=YY Z g.many c (fun x b=>⟨(g.fn x b).params,(g.fn x b).locals.1⟩) (fun x r e=>by have:=i x r e;have:=(g.fn x (by rw[e];simp)).params;omega);refine⟨out,?_,a,c.length_eq.symm,fun k x b=>l.at_ b⟩;unfold uN;rw[d,Option.bind_some,dF zq3,cond_false,j,List.nil_append];unfold rM;rw[a,Option.bind_some,dF zq3,cond_false]
theorem TA{f:List dw}{N:Nat}{r:Int}(a:pK N f=some r)(b:r≠0):uN N f=some ([],r):=by
 unfold uN;rw[a,Option.bind_some,dT b,cond_true]
end Cc
open Go Go.Proofs Go.LX
namespace Cc
open Cm
def okP(b:List dw):Bool:=b.all fun x=>decide (0<=x.params)&&decide (x.params<=3)
theorem expr1(a:List Tok)(b:List dw)(c:Int):wL a b c=if 24<a.length then some 2 else if okP b then each (o7 b c) l9 a 1 else some 3:=by
  unfold wL;by_cases h:24<a.length
  · rw[dT V,cond_true,if_pos h]
  · rw[dF V,cond_false,if_neg h,Int.toNat_natCast];have e:∀(m i:Nat),i+m=b.length->upto (pg b c a) (vX b c a) (i:Int) m ()=if okP (b.drop i)then each (o7 b c) l9 a 1 else some 3:=by
      intro m;induction m with
      |zero=>intro i h;rw[List.drop_eq_nil_of_le V];rfl
      |succ m ih=>
        intro i h;have f:i<b.length:=by omega
        rw[List.drop_eq_getElem_cons f];show pg b c a (i:Int) () (upto _ _ ((i:Int)+1) m)=_;have d:=ih (i+1) V;rw[show((i+1:Nat):Int)=(i:Int)+1 from rfl]at d;generalize upto (pg b c a) (vX b c a) ((i:Int)+1) m=nx at d⊢;unfold pg;rw[oJ f,Option.bind_some];by_cases g:0<=b[i].params/\b[i].params<=3
        · rw[show(decide ((b[i].params:Int)<0)||decide ((3:Int)<b[i].params))=false by simp only[Bool.or_eq_false_iff,decide_eq_false_iff_not];omega,cond_false,d];have:okP (b[i]::b.drop (i+1))=okP (b.drop<|i+1):=by unfold okP;rw[List.all_cons,dT g.1,dT g.2];rfl
          rw[this]
        · rw[show(decide ((b[i].params:Int)<0)||decide ((3:Int)<b[i].params))=true by simp only[Bool.or_eq_true,decide_eq_true_eq];omega,cond_true,dT V];have:okP (b[i]::b.drop (i+1))=false:=by
            simp only[okP,List.all_cons,Bool.and_eq_false_iff,decide_eq_false_iff_not];omega
          rw[this];rfl
    have:=e b.length 0 V;simpa using this
abbrev Du(b:List dw):List Int:=b.map (·.params)
theorem tok_tot(a:Tok)(b:List dw)(c:Int):∃n e,DU a b c=some (n,e)/\(e=0->GA (Du b) c a/\n=zA (Du b) a):=by
  obtain⟨k,m⟩:=a;unfold DU pX;simp only;by_cases f:k=1
  · subst f;rw[dT rfl,cond_true];by_cases h: -1000000000<=m/\m<=1000000000
    · rw[dT h.1,dT h.2];exact⟨0,0,Z,fun _=>⟨.inl ⟨Z,h⟩,Z⟩⟩
    · rw[show(decide ((-1000000000:Int)<=m)&&decide (m<=(1000000000:Int)))=false by simp only[Bool.and_eq_false_iff,decide_eq_false_iff_not];omega];exact⟨0,3,Z,fun h=>absurd h zq1⟩
  rw[dF f,cond_false];by_cases j:k=2
  · subst j;rw[dT rfl,cond_true];by_cases h:0<=m/\m<c
    · rw[dT h.1,dT h.2];exact⟨0,0,Z,fun _=>⟨.inr<|.inl ⟨Z,h⟩,Z⟩⟩
    · rw[show(decide ((0:Int)<=m)&&decide (m<c))=false by simp only[Bool.and_eq_false_iff,decide_eq_false_iff_not];omega];exact⟨0,3,Z,fun h=>absurd h zq1⟩
  rw[dF j,cond_false];by_cases d:k=3
  · subst d;rw[dT rfl,cond_true];by_cases h:1<=m/\m<=5
    · rw[dT h.1,dT h.2];exact⟨2,0,Z,fun _=>⟨.inr<|.inr<|.inl ⟨Z,h⟩,Z⟩⟩
    · rw[show(decide ((1:Int)<=m)&&decide (m<=(5:Int)))=false by simp only[Bool.and_eq_false_iff,decide_eq_false_iff_not];omega];exact⟨0,3,Z,fun h=>absurd h zq1⟩
  rw[dF d,cond_false];by_cases i:k=4
  · subst i;rw[dT rfl,cond_true];by_cases h:0<=m/\m<4
    · rw[dT h.1,dT h.2];exact⟨1,0,Z,fun _=>⟨.inr<|.inr<|.inr<|.inl ⟨Z,h⟩,Z⟩⟩
    · rw[show(decide ((0:Int)<=m)&&decide (m<(4:Int)))=false by simp only[Bool.and_eq_false_iff,decide_eq_false_iff_not];omega];exact⟨0,3,Z,fun h=>absurd h zq1⟩
  rw[dF i,cond_false];by_cases g:k=5
  · subst g;rw[dT rfl,cond_true];by_cases h:1<=m/\m<=4
    · rw[dT h.1,dT h.2];exact⟨0,0,Z,fun _=>⟨.inr<|.inr<|.inr<|.inr<|.inl ⟨Z,h⟩,Z⟩⟩
    · rw[show(decide ((1:Int)<=m)&&decide (m<=(4:Int)))=false by simp only[Bool.and_eq_false_iff,decide_eq_false_iff_not];omega];exact⟨0,3,Z,fun h=>absurd h zq1⟩
  rw[dF g,cond_false];by_cases l:k=6
  · subst l;rw[dT rfl,cond_true];by_cases h:0<=m/\m<b.length
    · rw[show(decide (m<(0:Int))||decide (((b.length:Int):Int)<=m))=false by simp only[Bool.or_eq_false_iff,decide_eq_false_iff_not];omega,cond_false];obtain⟨n,rfl⟩:=Int.eq_ofNat_of_zero_le h.1;have hn:n<b.length:=by omega
      rw[oJ hn,Option.bind_some];refine⟨_,0,Z,fun _=>⟨.inr<|.inr<|.inr<|.inr<|.inr ⟨Z,by simpa using h⟩,?_⟩⟩;simp[zA,Jf,Du,hn]
    · rw[show(decide (m<(0:Int))||decide (((b.length:Int):Int)<=m))=true by simp only[Bool.or_eq_true,decide_eq_true_eq];omega];exact⟨0,5,Z,fun h=>absurd h zq1⟩
  rw[dF l,cond_false];exact⟨0,4,Z,fun h=>absurd h zq1⟩
theorem asks_bd{b:List dw}(a:okP b=true)(t:Tok):0<=zA (Du b) t/\zA (Du b) t<=3:=by
  unfold zA;split
  · omega
  · split
    · omega
    · split
      · unfold Jf;split
        · rename_i h;have hn:t.n.toNat<b.length:=by simp[Du]at h;omega
          have:=List.all_eq_true.1 a _<|List.getElem_mem hn;simp only[Bool.and_eq_true,decide_eq_true_eq]at this;simp[Du,hn];omega
        · omega
      · omega
theorem Ql(b:List dw)(c:Int)(g:okP b=true):∀(l:List Tok) (w:Int),0<=w->w+3*l.length<=1000->∃r,each (o7 b c) l9 l w=some r/\(r=0->(∀t∈l,GA (Du b) c t)/\wants (Du b) w l)
  |[],w,hw,_=>by
    show∃r,l9 w=some r/\_;unfold l9;by_cases h:0<w
    · rw[dT h];exact⟨4,Z,fun h=>absurd h zq1⟩
    · rw[dF h];exact⟨0,Z,fun _=>⟨by simp,show w=0 by omega⟩⟩
  |t::l,w,hw,hl=>by
    rw[og,o7];obtain⟨n,e,s,o⟩:=tok_tot t b c;rw[s,Option.bind_some];simp only[List.length_cons]at hl;by_cases d:e=0
    · obtain⟨j,i⟩:=o d;subst d;have hn:=asks_bd g t;rw[<-i]at hn;rw[dF zq3,cond_false];by_cases a:w=0
      · rw[dT a];exact⟨4,Z,fun h=>absurd h zq1⟩
      · rw[dF a,cond_false,gI V V,gI V V];obtain⟨r,k,p⟩:=Ql b c g l (w+(n-1)) V V;refine⟨r,k,fun q=>?_⟩;obtain⟨u,m⟩:=p q;refine⟨fun x f=>?_,by omega,by rw[<-i];exact m⟩;rcases List.mem_cons.1 f with rfl|f
        · exact j
        · exact u x f
    · rw[dT d,cond_true];exact⟨e,Z,fun h=>absurd h d⟩
theorem TB(a:List Tok)(b:List dw)(c:Int):∃r,wL a b c=some r/\(r=0->wG (Du b) c a):=by
  rw[expr1];by_cases h:24<a.length
  · rw[if_pos h];exact⟨2,Z,fun h=>absurd h zq1⟩
  · rw[if_neg h];by_cases d:okP b=true
    · rw[if_pos d];obtain⟨r,g,f⟩:=Ql b c d a 1 zq1 V;exact⟨r,g,fun e=>⟨by omega,(f e).1,(f e).2⟩⟩
    · rw[if_neg d];exact⟨3,Z,fun h=>absurd h zq1⟩
theorem KQ{α:Type}{P:α->Prop}{x:α}{l:List α}(c:P x)(b:∀s∈l,P s):∀s∈x::l,P s:=fun s a=>by
  rcases List.mem_cons.1 a with rfl|a
  · exact c
  · exact b s a
theorem KR(a:aN)(b:List dw)(c:Int)(n e f x y:Bool):∃r,kF a b c n e f x y=some r/\(r=0->
    (n=false->a.n=0)/\(e=false->a.e=[])/\(f=false->a.f=[])/\(x=false->a.a=[])/\(y=false->a.b=[])/\(e=true->wG (Du b) c a.e)/\(f=true->wG (Du b) c a.f)/\(a.kind=1->0<=a.n/\a.n<c)/\(a.kind=2->0<=a.n/\a.n<4)):=by
  unfold kF;generalize k:((((((!n)&&decide ((a.n:Int)≠0))||((!e)&&decide ((0:Int)<(a.e.length:Int))))||((!f)&&decide ((0:Int)<(a.f.length:Int))))||((!x)&&decide ((0:Int)<(a.a.length:Int))))||((!y)&&decide ((0:Int)<(a.b.length:Int))))=A;cases A with
  |true=>exact⟨4,rfl,fun h=>absurd h zq1⟩
  |false=>
    rw[cond_false];generalize t:((decide ((a.kind:Int)=1)&&(decide ((a.n:Int)<0)||decide ((c:Int)<=a.n)))||(decide ((a.kind:Int)=2)&&(decide ((a.n:Int)<0)||decide ((4:Int)<=a.n))))=B;cases B with
    |true=>exact⟨3,rfl,fun h=>absurd h zq1⟩
    |false=>
      rw[cond_false];simp only[Bool.or_eq_false_iff,Bool.and_eq_false_iff,Bool.not_eq_false',decide_eq_false_iff_not,Decidable.not_not]at k t;obtain⟨⟨⟨⟨s,w⟩,I⟩,E⟩,G⟩:=k;have nil:∀{α:Type} {l:List α},¬((0:Int)<(l.length:Int))->l=[]:=fun h=>List.eq_nil_of_length_eq_zero V;have d:(n=false->a.n=0)/\(e=false->a.e=[])/\(f=false->a.f=[])/\(x=false->a.a=[])/\(y=false->a.b=[]):=by
        refine⟨fun h=>?_,fun h=>?_,fun h=>?_,fun h=>?_,fun h=>?_⟩
        · rcases s with q|q
          · rw[h]at q;cases q
          · exact q
        · rcases w with q|q
          · rw[h]at q;cases q
          · exact nil q
        · rcases I with q|q
          · rw[h]at q;cases q
          · exact nil q
        · rcases E with q|q
          · rw[h]at q;cases q
          · exact nil q
        · rcases G with q|q
          · rw[h]at q;cases q
          · exact nil q
      have g:(a.kind=1->0<=a.n/\a.n<c)/\(a.kind=2->0<=a.n/\a.n<4):=by omega
      obtain⟨re,u,J⟩:=TB a.e b c;obtain⟨C,z,v⟩:=TB a.f b c;have j:∃r,sV f a b c=some r/\(r=0->(f=true->wG (Du b) c a.f)):=by
        unfold sV;cases f with
        |true=>exact⟨C,by rw[cond_true,z];rfl,fun h _=>v h⟩
        |false=>exact⟨0,rfl,fun _ h=>by cases h⟩
      obtain⟨m,o,p⟩:=j;cases e with
      |true=>
        rw[cond_true,u,Option.bind_some];by_cases i:re=0
        · rw[dF V,cond_false];exact⟨m,o,fun h=>⟨d.1,d.2.1,d.2.2.1,d.2.2.2.1,d.2.2.2.2,fun _=>J i,p h,g.1,g.2⟩⟩
        · rw[dT i,cond_true];exact⟨re,Z,fun h=>absurd h i⟩
      |false=>
        rw[cond_false];exact⟨m,o,fun h=>⟨d.1,d.2.1,d.2.2.1,d.2.2.2.1,d.2.2.2.2,(fun h=>by cases h),p h,g.1,g.2⟩⟩
theorem stmt_tot(a:aN)(b:List dw)(c:Int):∃r,BO a b c=some r/\(r=0->Shape (Du b) c a):=by
  unfold BO;by_cases q:a.kind=1
  · rw[dT q,cond_true];obtain⟨r,k,j⟩:=KR a b c true true false false false;exact⟨r,k,fun h=>by obtain⟨i,q2,e,g,d,f,n,l,m⟩:=j h;exact .inl ⟨q,l q,f Z,e Z,g Z,d Z⟩⟩
  rw[dF q,cond_false];by_cases p:a.kind=2
  · rw[dT p,cond_true];obtain⟨r,k,j⟩:=KR a b c true true true false false;exact⟨r,k,fun h=>by obtain⟨i,q2,e,g,d,f,n,l,m⟩:=j h;exact .inr (.inl ⟨p,m p,f Z,n Z,g Z,d Z⟩)⟩
  rw[dF p,cond_false];obtain⟨u,y,o⟩:=KR a b c false true false false false;by_cases s:a.kind=3
  · rw[dT s,cond_true];unfold nk;rw[cond_true];exact⟨u,y,fun h=>by obtain⟨i,q2,e,g,d,f,n,l,m⟩:=o h;exact .inr (.inr (.inl ⟨s,i Z,f Z,e Z,g Z,d Z⟩))⟩
  rw[dF s,cond_false];by_cases w:a.kind=5
  · rw[dT w,cond_true];unfold nk;rw[cond_true];exact⟨u,y,fun h=>by obtain⟨i,q2,e,g,d,f,n,l,m⟩:=o h;exact .inr (.inr (.inr (.inr (.inl ⟨w,i Z,f Z,e Z,g Z,d Z⟩))))⟩
  rw[dF w,cond_false];unfold nk;by_cases t:a.kind=8
  · rw[dT t,cond_true];exact⟨u,y,fun h=>by obtain⟨i,q2,e,g,d,f,n,l,m⟩:=o h;exact .inr (.inr (.inr (.inr (.inr (.inr (.inr ⟨t,i Z,f Z,e Z,g Z,d Z⟩))))))⟩
  rw[dF t,cond_false];by_cases v:a.kind=4
  · rw[dT v,cond_true];obtain⟨r,k,j⟩:=KR a b c false false false false false;exact⟨r,k,fun h=>by obtain⟨i,q2,e,g,d,f,n,l,m⟩:=j h;exact .inr (.inr (.inr (.inl ⟨v,i Z,q2 Z,e Z,g Z,d Z⟩)))⟩
  rw[dF v,cond_false];by_cases x:a.kind=6
  · rw[dT x,cond_true];obtain⟨r,k,j⟩:=KR a b c false true false true true;exact⟨r,k,fun h=>by obtain⟨i,q2,e,g,d,f,n,l,m⟩:=j h;exact .inr (.inr (.inr (.inr (.inr (.inl ⟨x,i Z,f Z,e Z⟩)))))⟩
  rw[dF x,cond_false];by_cases z:a.kind=7
  · rw[dT z,cond_true];obtain⟨r,k,j⟩:=KR a b c false true false true false;exact⟨r,k,fun h=>by obtain⟨i,q2,e,g,d,f,n,l,m⟩:=j h;exact .inr (.inr (.inr (.inr (.inr (.inr (.inl ⟨z,i Z,f Z,e Z,d Z⟩))))))⟩
  rw[dF z,cond_false];exact⟨4,Z,fun h=>absurd h zq1⟩
def Deep:Nat->List aN->Prop
 |0,_=>False
 |k+1,l=>∀s∈l,(s.a=[]\/Deep k s.a)/\(s.b=[]\/Deep k s.b)
theorem YZ(b:List dw)(c:Int){N:Nat}(a:1<=N):kG N [] b c=some 0:=by
 obtain⟨n,rfl⟩:∃n,N=n+1:=⟨N-1,by omega⟩;rfl
theorem Qm(b:List dw)(c:Int):∀(d:Nat) (l:List aN) (N:Nat),Deep d l->d+2<=N->∃r,kG N l b c=some r/\(r=0->Bt (Du b) c l)
  |0,_,_,h,_=>h.elim
  |d+1,_,0,h,hN=>by omega
  |d+1,l,N+1,h,hN=>by
    have o:∀e,(e=[]\/Deep d e)->∃r,kG N e b c=some r/\(r=0->Bt (Du b) c e):=fun e j=>by
      rcases j with rfl|j
      · exact⟨0,YZ b c V,fun _=>.mk zq3 zq3 zq3⟩
      · exact Qm b c d e N j V
    show∃r,xu (kG N) l b c=some r/\_;unfold xu;generalize g:l=l0;have i:∀(k:List aN),(∀s∈k,(s.a=[]\/Deep d s.a)/\(s.b=[]\/Deep d s.b))->∃r,each (rG (kG N) b c l0) vY k ()=some r/\(r=0->Bt (Du b) c k):=by
      intro k;induction k with
      |nil=>intro _;exact⟨0,Z,fun _=>.mk zq3 zq3 zq3⟩
      |cons x k ihk=>
        intro p;obtain⟨r,q,B⟩:=ihk fun s w=>p s<|List.mem_cons_of_mem _ w;obtain⟨E,y⟩:=p x zq3;rw[og];generalize each (rG (kG N) b c l0) vY k=nx at q⊢;unfold rG;obtain⟨u,J,C⟩:=stmt_tot x b c;obtain⟨v,I,A⟩:=o x.a E;obtain⟨z,G,t⟩:=o x.b y;rw[J,Option.bind_some];by_cases n:u=0
        · rw[dF V,cond_false,I,Option.bind_some];by_cases m:v=0
          · rw[dF V,cond_false,G,Option.bind_some];by_cases f:z=0
            · rw[dF V,cond_false];refine⟨r,q,fun K=>?_⟩;cases B K with
              |mk q1 q2 q3=>
                exact .mk (KQ (C n) q1) (KQ (A m) q2)<|KQ (t f) q3
            · rw[dT f];exact⟨z,Z,fun h=>absurd h f⟩
          · rw[dT m];exact⟨v,Z,fun h=>absurd h m⟩
        · rw[dT n];exact⟨u,Z,fun h=>absurd h n⟩
    subst g;exact i l h
theorem Oi:∀(k:Nat) (l:List aN) (N:Nat),k<N->k<=4->∃r,cK N l (5-(k:Int))=some r/\(0<=r.1/\r.1<=30)/\(r.2=true->Deep k l)
  |k,l,0,h,_=>by omega
  |0,l,N+1,h,h4=>⟨(0,false),rfl,by decide,fun h=>(by cases h)⟩
  |k+1,l,N+1,h,h4=>by
    have C:=fun g=>Oi k g N V V;show∃r,lT (cK N) l (5-((k+1:Nat):Int))=some r/\_;unfold lT;rw[dF V,cond_false];generalize A:l=l0;have v:(5-((k+1:Nat):Int))+1=5-(k:Int):=by omega
    generalize S:5-((k+1:Nat):Int)=bb at v⊢;have w:∀(m:List aN) (c:Int),0<=c->c<=30->∃r,each (iC (cK N) l0 bb) jC m c=some r/\(0<=r.1/\r.1<=30)/\(r.2=true->c+m.length<=30/\∀s∈m,(s.a=[]\/∃q,cK N s.a (5-(k:Int))=some q/\q.2=true)/\(s.b=[]\/∃q,cK N s.b (5-(k:Int))=some q/\q.2=true)):=by
      intro m;induction m with
      |nil=>intro c L z;exact⟨(c,true),Z,⟨L,z⟩,fun _=>⟨by simpa using z,by simp⟩⟩
      |cons s m ihm=>
        intro c L z;rw[og,iC,gI V V];by_cases J:30<c+1
        · rw[dT J];exact⟨(0,false),Z,by decide,fun h=>by cases h⟩
        · rw[dF J,cond_false];have K:∀x:Int,c+1<=x->x<=30->∃r,jB (cK N) s bb (each (iC (cK N) l0 bb) jC m) x=some r/\(0<=r.1/\r.1<=30)/\(r.2=true->c+1+m.length<=30/\(∀s∈m,(s.a=[]\/∃q,cK N s.a (5-(k:Int))=some q/\q.2=true)/\(s.b=[]\/∃q,cK N s.b (5-(k:Int))=some q/\q.2=true))/\(s.b=[]\/∃q,cK N s.b (5-(k:Int))=some q/\q.2=true)):=by
            intro x O u;unfold jB mZ;by_cases j:s.b=[]
            · rw[dT (show((s.b.length:Int):Int)=0 by rw[j];rfl),cond_true];obtain⟨r,f,e,d⟩:=ihm x V u;exact⟨r,f,e,fun h=>⟨by have:=(d h).1;omega,(d h).2,.inl j⟩⟩
            · have:s.b.length≠0:=fun h=>j<|List.eq_nil_of_length_eq_zero h;rw[dF V,cond_false,gI V V,v];obtain⟨q,o,q2,R⟩:=C s.b;rw[o,Option.bind_some,gI V V];generalize p:((!q.2)||decide ((30:Int)<(x+q.1)))=D;cases D with
              |true=>exact⟨(0,false),rfl,by decide,fun h=>by cases h⟩
              |false=>
                simp only[Bool.or_eq_false_iff,Bool.not_eq_false',decide_eq_false_iff_not]at p;rw[cond_false];obtain⟨r,f,e,d⟩:=ihm (x+q.1) V V;exact⟨r,f,e,fun h=>⟨by have:=(d h).1;omega,(d h).2,.inr ⟨q,rfl,p.1⟩⟩⟩
          by_cases j:s.a=[]
          · rw[dT (show((s.a.length:Int):Int)=0 by rw[j];rfl),cond_true];obtain⟨r,f,e,d⟩:=K (c+1) V V;refine⟨r,f,e,fun h=>?_⟩;obtain⟨I,n,E⟩:=d h;refine⟨by simp only[List.length_cons];omega,fun y i=>?_⟩;rcases List.mem_cons.1 i with rfl|i
            · exact⟨.inl j,E⟩
            · exact n y i
          · have:s.a.length≠0:=fun h=>j<|List.eq_nil_of_length_eq_zero h;rw[dF V,cond_false,gI V V,v];obtain⟨q,o,q2,R⟩:=C s.a;rw[o,Option.bind_some,gI V V];generalize p:((!q.2)||decide ((30:Int)<((c+1)+q.1)))=D;cases D with
            |true=>exact⟨(0,false),rfl,by decide,fun h=>by cases h⟩
            |false=>
              simp only[Bool.or_eq_false_iff,Bool.not_eq_false',decide_eq_false_iff_not]at p;rw[cond_false];obtain⟨r,f,e,d⟩:=K ((c+1)+q.1) V V;refine⟨r,f,e,fun h=>?_⟩;obtain⟨I,n,E⟩:=d h;refine⟨by simp only[List.length_cons];omega,fun y i=>?_⟩;rcases List.mem_cons.1 i with rfl|i
              · exact⟨.inr ⟨q,o,p.1⟩,E⟩
              · exact n y i
    subst A;obtain⟨r,f,e,d⟩:=w l 0 zq1 zq1;refine⟨r,f,e,fun P s G=>?_⟩;obtain⟨I,n⟩:=d P;have M:∀g,(g=[]\/∃q,cK N g (5-(k:Int))=some q/\q.2=true)->(g=[]\/Deep k g):=fun g Q=>by
      rcases Q with h0|⟨q,o,q2⟩
      · exact .inl h0
      · obtain⟨T,t,_,B⟩:=C g;rw[o]at t;cases t;exact .inr<|B q2
    exact⟨M _ (n s G).1,M _ (n s G).2⟩
theorem Lf(N:Nat)(a:List dw)(p:10<=N):∀l:List dw,∃r,each (mf N a) rH l ()=some r/\(r=0->∀x∈l,Ab (Du a) x.locals 4 x.body)
  |[]=>⟨0,rfl,fun _=>by simp⟩
  |x::l=>by
    obtain⟨r,o,n⟩:=Lf N a p l;rw[og,mf];obtain⟨q,m,_,s⟩:=KN (Du a) x.locals 4 x.body N V zq1;have c:cK N x.body 1=some q:=m;rw[c,Option.bind_some];obtain⟨u,j⟩:=q;cases j with
    |false=>exact⟨2,rfl,fun h=>absurd h zq1⟩
    |true=>
      simp only[Bool.not_true,cond_false];obtain⟨i,g,_,d⟩:=Oi 4 x.body N V zq1;have b:cK N x.body 1=some i:=g;rw[c]at b;cases b;obtain⟨z,t,z2⟩:=Qm a x.locals 4 x.body N (d Z) V;rw[t,Option.bind_some];by_cases e:z=0
      · rw[dF V,cond_false];refine⟨r,o,fun k y f=>?_⟩;rcases List.mem_cons.1 f with rfl|f
        · exact s Z<|z2 e
        · exact n k y f
      · rw[dT e];exact⟨z,Z,fun h=>absurd h e⟩
theorem Lg(k:Unit->Option Int)(Q:Prop)(f:∃r,k ()=some r/\(r=0->Q)):∀(l:List dw) (i:Nat),∃r,gF fM k (i:Int) l ()=some r/\(r=0->Q/\∀x∈l,(0<=x.params/\x.params<=3)/\x.params<=x.locals/\x.locals<=6)
  |[],i=>by
    obtain⟨r,b,a⟩:=f;exact⟨r,b,fun h=>⟨a h,by simp⟩⟩
  |x::l,i=>by
    obtain⟨r,b,a⟩:=Lg k Q f l<|i+1;have e:gF fM k (i:Int) (x::l) ()=fM (i:Int) x () (gF fM k ((i+1:Nat):Int) l):=rfl;rw[e];generalize gF fM k ((i+1:Nat):Int) l=nx at b⊢;unfold fM;generalize g:((((decide ((x.params:Int)<0)||decide ((3:Int)<x.params))||decide ((x.locals:Int)<x.params))||decide ((6:Int)<x.locals))||(decide ((i:Int)=0)&&decide ((0:Int)<x.params)))=A;cases A with
    |true=>exact⟨3,rfl,fun h=>absurd h zq1⟩
    |false=>
      simp only[Bool.or_eq_false_iff,decide_eq_false_iff_not]at g;refine⟨r,b,fun d=>⟨(a d).1,fun y c=>?_⟩⟩;rcases List.mem_cons.1 c with rfl|c
      · omega
      · exact(a d).2 y c
theorem KD(N:Nat)(f:10<=N)(a:List dw):∃r,pK N a=some r/\(r=0->VA a):=by
 unfold pK;generalize g:(decide (((a.length:Int):Int)=0)||decide ((4:Int)<(a.length:Int)))=A;cases A with
 |true=>exact⟨2,rfl,fun h=>absurd h zq1⟩
 |false=>
  simp only[Bool.or_eq_false_iff,decide_eq_false_iff_not]at g;rw[cond_false];obtain⟨r,e,d⟩:=Lg (vZ N a) (∀x∈a,Ab (Du a) x.locals 4 x.body) (Lf N a f a) a 0;exact⟨r,e,fun b=>⟨by omega,fun x c=>⟨((d b).2 x c).1,((d b).2 x c).2,(d b).1 x c⟩⟩⟩
end Cc
end Go.Proofs.YtcbdckebgjdlhaaGreatDoor