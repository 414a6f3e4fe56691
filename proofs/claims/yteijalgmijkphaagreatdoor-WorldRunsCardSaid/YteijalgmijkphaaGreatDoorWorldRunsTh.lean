/-
  What the law WorldRuns needs of our own library and of the walks, no more.
-/
import Derived.Test.YteijalgmijkphaaGreatDoorWorldRunsTg
set_option linter.unusedSimpArgs false
set_option linter.unusedVariables false
set_option maxRecDepth 10000
set_option maxHeartbeats 4000000
open Go.LX renaming State->Ys
open Go.LX renaming Frame->Ya
open Bool renaming and_eq_false_iff->cm,and_eq_true->cS,cond_eq_ite->dv,eq_iff_iff->dI,not_eq_false'->sl,not_eq_true'->ep,not_false->en,not_true->cE,or_eq_false_iff->cV,or_eq_true->dC,false->aw,true->bh
open Decidable renaming not_not->eN,decide->G
open Go renaming Calls->bp,Value->B,World->ay
open Go.Value renaming oneCell'->db
open Int renaming eq_ofNat_of_zero_le->ck,toNat_natCast->ba
open List renaming all_eq_true->pj,drop_zero->fF,eq_nil_of_length_eq_zero->cA,exists_of_findSome?_eq_some->ta,findSome?_cons->wq,findSome?_eq_none_iff->tG,getElem_mem->cw,getElem_of_mem->wv,length->O,length_cons->br,map->bc,map_append->cY,mem_cons->bs,mem_cons_of_mem->bo,prefix_refl->hY,replicate->bw,zip->aE
open Nat renaming le_trans->cN,mul_le_mul->Dg
open Option renaming bind->ao,bind_some->cJ,getD_none->xT,isNone_iff_eq_none->tx,none->bd,some->U
namespace Go.Proofs.YteijalgmijkphaaGreatDoor
open Go Go.Proofs Go.LX Tryz
noncomputable section
theorem zG(I:ay)(M:BS)(hM:lg M I)(hT:ql prog 4 I)(i:Nat)(f:aH)(q c d:B)(hC:F4 I M (.two (.two (.blk i [q,c,d]) (.own iV 40 c f.m)) (.own fK 83 d f.s):Chunk))(a3:∀b,Chunk.own' (.two (.two (.blk i [q,c,d]) (.own iV 40 c f.m)) (.own fK 83 d f.s):Chunk) b->¬M b)(Gh:bX iO I (λb=>M b\/Chunk.own' (.two (.two (.blk i [q,c,d]) (.own iV 40 c f.m)) (.own fK 83 d f.s):Chunk) b) q f.r)(a:Int)(b:vA)(w0 F:B)(b6:bX dL I (λb=>M b\/(.two (.two (.blk i [q,c,d]) (.own iV 40 c f.m)) (.own fK 83 d f.s):Chunk).own' b) w0 b.H)(b4:bX dL I (λb=>M b\/(.two (.two (.blk i [q,c,d]) (.own iV 40 c f.m)) (.own fK 83 d f.s):Chunk).own' b) F b.u)(hG:∀b,Chunk.own' (.two (.two (.blk i [q,c,d]) (.own iV 40 c f.m)) (.own fK 83 d f.s):Chunk) b->prog.globals.size<=b)(r:Int×aH)(W:kW f a b=U r):
  bp prog 56 #[pT i,Y a,.agg #[Y b.h,Y b.t,Y b.k,Y b.o,w0,F]] I (λe w'=>bF (Chunk.own' (.two (.two (.blk i [q,c,d]) (.own iV 40 c f.m)) (.own fK 83 d f.s):Chunk)) I w'/\∃N,∃E,∃yw,e=.returned (.int .i64 r.1)/\F4 w' M (.two (.two (.blk i [N,E,yw]) (.own iV 40 E r.2.m)) (.own fK 83 yw r.2.s):Chunk)/\(GW (.two (.two (.blk i [N,E,yw]) (.own iV 40 E r.2.m)) (.own fK 83 yw r.2.s):Chunk) I (.two (.two (.blk i [q,c,d]) (.own iV 40 c f.m)) (.own fK 83 d f.s):Chunk))/\bX iO w' (λb=>M b\/Chunk.own' (.two (.two (.blk i [N,E,yw]) (.own iV 40 E r.2.m)) (.own fK 83 yw r.2.s):Chunk) b) N r.2.r):=by
 refine xF func56 ntmps56 Z ?_;have h:=SH.zK hM hC a3;replace h:=((h.kH 4 Gh rf).kH 5 b6<|jo rf).kH 6 b4<|jo<|jo rf;generalize hK0:(.two (.two (.blk i [q,c,d]) (.own iV 40 c f.m)) (.own fK 83 d f.s):Chunk).own'=K0 at h hG;replace h:=(h.un 1 3 Z Z).un 1 2 Z Z;refine D ?_;refine fT (cs:=[Y b.h,Y b.t,Y b.k,Y b.o,w0,F]) h 7 Z Z λw b1 h=>iE λg P W=>?_;obtain⟨b5,q6,i4⟩:=h.zO 2 gT Z P;refine jN i4 Z ?_;obtain⟨b8,m8,r9⟩:=h.p9 2 Z q6 (aM P).2;obtain⟨C,u,S,rfl,a6,a0,R⟩:=fM r9;replace h:=((h.aA 8 a6).aA 9 a0.up).aA 15 R.up.up;refine aC (iZ (k:=0) (vs:=[C,u,S,(.bool<|g.up)]) m8 qd Z Z Z<|gJ Z)<|aK h 10 qd λw K h=>aW h 10 qd Z ow λw h=>iE λal T W=>?_;refine ja h 12 hp Z Z (CV _ _ h.lt C g.D (h.kC 8 Z) b w0 F (h.kC 5 Z) (h.dQ 6 Z) _ T) λw s h=>mV (.tuple #[s,Y al.2]) Z<|LH Z<|LH Z<|aV s Z<|aI Z<|nN<|dX (σ:=Int×B×H UInt8×B×H UInt8) h (inl ([9]++rg 24 10)) [1,2,3,4,8,12] (λ⟨Zs,j,n,p,o⟩=>⟨[(9,Y Zs)],[(10,.blk K [C,j,p,(.bool<|g.up)]),(13,.rd gQ j n),(14,.rd gQ p o)],uM f a al g Zs n o=U r⟩) ?_ ?_;rintro⟨Zs,j,n,p,o⟩w aU h W;refine dX (σ:=Int×B×H UInt8×B×H UInt8) h (inl ([9]++rg 34 9)) [1,2,3,4,8,12] (λ⟨z,l,ab,m,t⟩=>⟨[(9,Y z)],[(10,.blk K [C,l,m,(.bool<|g.up)]),(16,.rd gQ l ab),(17,.rd gQ m t)],qH f a al g z ab t=U r⟩) ?_ ?_;rintro⟨z,l,ab,m,t⟩w aU h W;refine ib (λa4 W=>?_) λa4 W=>?_;refine D ?_;refine fJ h 10 [s,l,m,(.bool<|g.up)] Z Jq Z Z Z Z (h.bW 12 Z).one λw h=>D ?_;refine oJ 7 mixed Q h λw h=>D ?_;refine eG (BC h 10 Z qd Z Z Z) ?_;obtain⟨b7,b3,a5⟩:=h.zO 2 gT Z P;refine Cn a5 Z<|wL ?_;replace h:=h.freeze 12 Z;refine tV (a':=(⟨al.1,ab,t,g.up⟩:dD)) (vs:=[s,l,m,(.bool<|g.up)]) h 2 Z b3 Z (aM P).2 qd Z Z Z Z ⟨_,_,_,Z,h.dQ 12 Z,h.dQ 16 Z,h.dQ 17 Z⟩ λw h c0=>D ?_;replace h:=(h.pr 1 2).pr 1 3;exact ls;refine D ?_;replace h:=(h.pr 1 2).pr 1 3;exact ls;refine ib (λRn W=>?_) λRn W=>?_;refine iE λv sc W=>?_;refine il hp Z Z (UF _ _ h.lt (hT.WQ h.keep hG) (⟨n,o⟩:gz) j p (h.dQ 13 Z) (h.dQ 14 Z) _ sc) ?_;rintro _ w⟨b0,A,x,rfl,a7,a2⟩;replace h:=(h.xQ 18 b0 a7).aA 19 a2.up;refine D ?_;refine w_stN (vs:=[A,x]) h 10 [C,A,x,(.bool<|g.up)] Z eQ Z Z Z Z Z ow λw h=>aI Z<|ax<|aL ?_;replace h:=(h.iM 18 16 Z).iM 19 17 Z;exact ik (v.2,A,v.1.B,x,v.1.z) ⟨h.cn _,W⟩;refine dn<|aL ?_;replace h:=(h.iM 13 16 Z).iM 14 17 Z;exact ik (Zs,j,n,p,o) ⟨h.cn _,W⟩;refine ib (λX W=>?_) λX W=>?_;refine iE λVU a1 W=>?_;refine il hp Z Z (Eh _ _ h.lt (hT.WQ h.keep hG) (⟨g.B,g.z⟩:gz) u S (h.dQ 9 Z) (h.dQ 15 Z) b w0 F (h.dQ 5 Z) (h.dQ 6 Z) _ a1) ?_
 rintro _ w⟨a9,aq,y,rfl,b2,a8⟩;replace h:=(h.xQ 20 a9 b2).aA 21 a8.up;refine D ?_;refine w_stN (vs:=[aq,y]) h 10 [C,aq,y,(.bool<|g.up)] Z eQ Z Z Z Z Z ow λw h=>aI Z<|ax<|aL ?_;replace h:=(h.iM 20 13 Z).iM 21 14 Z;exact ik (VU.2,aq,VU.1.B,y,VU.1.z) ⟨h.cn _,W⟩;refine dn<|aL ?_;replace h:=(h.iM 9 13 Z).iM 15 14 Z;exact ik (al.2,u,g.B,S,g.z) ⟨h.cn _,W⟩
def GQ(d:Ya)(c:Int)(e:H Int)(b:H Int->L (H Int)):L (H Int):=
 ao (vx d.regs c) λa=>iC (Room 8 e [a.h,a.n]) (b (e++[a.h,a.n]))
def GR(a:H Int->L (H Int))(b:H Int):L (H Int):=
 a b
def GU(d:H tp)(c:Int)(e:H Int)(b:H Int->L (H Int)):L (H Int):=
 ao (vx d c) λa=>iC (Room 8 e [a.h,a.n]) (b (e++[a.h,a.n]))
def GV(a:H Int->L (H Int))(b:H Int):L (H Int):=
 a b
def GX(e:Ys)(d:Int)(b:H Int)(c:H Int->L (H Int)):L (H Int):=
 ao (vx e.j d) λa=>iC (Room 8 b [(O a:Int)]) (Ax (GU a) (GV c) 0 ((O a:Int)).toNat (b++[(O a:Int)]))
def GY(a:H Int):L (H Int):=
 U a
def AZ(e:Ys)(c:Int)(b:H Int)(d:H Int->L (H Int)):L (H Int):=
 ao (vx e.i c) λa=>iC (Room 8 b [a.F,a.at_,a.x]) (iC (Room 8 (b++[a.F,a.at_,a.x]) [(O a.regs:Int)]) (Ax (GQ a) (GR d) 0 ((O a.regs:Int)).toNat ((b++[a.F,a.at_,a.x])++[(O a.regs:Int)])))
def A7(b:Ys)(a:H Int):L (H Int):=
 iC (Room 8 a [(O b.j:Int)]) (Ax (GX b) GY 0 ((O b.j:Int)).toNat (a++[(O b.j:Int)]))
def xG(N:Nat)(a:Ys):L (H Int):=
 ao (rV N a) λb=>Ax (AZ b) (A7 b) 0 ((O b.i:Int)).toNat [b.q,b.bC,(O b.i:Int)]
theorem JX(N:Nat)(I:ay)(M:BS)(hM:lg M I)(a:Ys)(kZ ma:B)(c6:ek jv I BE M kZ a.i)(d0:ek (ui bG) I BE M ma a.j)(r:H Int)(W:xG N a=U r):
  bp prog 59 #[.agg #[kZ,ma,Y a.q,Y a.bC]] I (λe w'=>Grow I w'/\∃u0,e=.returned (u0)/\dz dL 3 w' M u0 r/\(∀b,ob u0 b->I.heap.size<=b)):=by
 refine xF func59 ntmps59 Z ?_;have h:=SH.init hM;replace h:=(h.bV 1 c6 aG).bV 2 d0<|aQ aG;refine D ?_;refine fT (cs:=[kZ,ma,Y a.q,Y a.bC]) h 3 Z Z λw b1 h=>iE λi e3 W=>?_;refine il hp Z Z (Eg N _ _ h.lt a kZ ma (h.gW 1 Z) (h.gW 2 Z) _ e3) ?_;rintro _ w⟨c5,u4,u6,a5,S,rfl,h8,h9⟩;replace h:=((h.gotC 4 (C:=(.two (.two (.two (.own aS.raw 111 u4<|aE i.i a5)<|.gK<|bQ bG 147 hn a5<|bc aS.sub i.i)<|.own (cu tp).raw 109 u6<|aE i.j S) (.gK<|bQ bG 147 hn S<|bc (cu tp).sub i.j):Chunk)) c5 ⟨⟨⟨an,an⟩,an⟩,an⟩ h8 h9).un 4 7 Z Z).un 4 6 Z Z;replace h:=h.un 4 5 Z Z;refine aW h 3 dh Z ow λw h=>nJ<|kY Oq Z<|lB h 3 bP Z<|kY EJ Z<|lB h 3 bP Z<|kY jA Z<|lB h 3 q8 Z<|aC (nU (N:=aS) dB Z (h.cZ 4 Z)<|h.ig 5 Z)<|EN [i.q,i.bC,(O i.i:Int)] h 8 gq Z λw ab h=>uy h 9 lV λw f h=>fJ h 9 [ab] Z lV Z Z Z Z (h.bW 8 Z).one λw h=>D ?_;refine aC (mY (c1:=[]) (c2:=[pT f]) Z Z)<|aV (.func (.func 120) #[] #[pT f]) Z<|nK<|kY jA Z<|lB h 3 q8 Z<|aC (nU (N:=aS) dB Z (h.cZ 4 Z)<|h.ig 5 Z)<|D ?_;refine wO (σ:=B×H Int) (λ⟨s,l⟩=>⟨[],[(8,.own dL 3 s l),(9,.blk f [s])],l⟩) (ab,[i.q,i.bC,(O i.i:Int)]) (inl ([6]++rg 23 18)) [3,4,5,6,7] h W (wN<|TA (h.cZ 4 Z)<|h.ig 5 Z) ?_ ?_;rintro⟨s,l⟩c3 FR w aq hik f7 e4 h W;refine iE λc o W=>?_;obtain⟨w0,E,h⟩:=h.pQ 5 10 c.regs Z Z tS (aM o).2 Z;obtain⟨f1,b9,a7⟩:=h.Tn 4 Z dB Z (aM o).1<|fD (aM o).2 E;refine jN a7 Z ?_;obtain⟨d5,c7,b3⟩:=h.p9 4 Z b9<|fD (aM o).2 E;obtain⟨rfl,-⟩:=b3;refine aC (iZ (k:=0) (vs:=[Y c.F,Y c.at_,w0,Y c.x]) c7 gG Z Z Z<|gJ Z)<|aK h 12 gG λw e9 h=>aW h 12 gG Z ow λw h=>D ?_;refine EN [c.F,c.at_,c.x] h 16 gq Z λw f6 h=>?_;obtain⟨al,W⟩:=cK W;refine jm (R:=dL) (m:=[c.F,c.at_,c.x]) h 8 Z (h.cZ 16 Z) gq Z Z Z al.1 al.2 λw b4 h=>fJ h 9 [b4] Z lV Z Z Z Z (h.bW 8 Z).one λw h=>D ?_;refine di (args:=[w0,pT f]) hp Z Z<|xF func120 ntmps120 Z<|D ?_;refine EN [(O c.regs:Int)] h 18 gq Z λw f2 h=>?_;obtain⟨P,W⟩:=cK W;refine jm (R:=dL) (m:=[(O c.regs:Int)]) h 8 Z (h.cZ 18 Z) gq Z Z Z P.1 P.2 λw a3 h=>fJ h 9 [a3] Z lV Z Z Z Z (h.bW 8 Z).one λw h=>D ?_;refine wO (σ:=B×H Int) (λ⟨u,FN⟩=>⟨[],[(8,.own dL 3 u FN),(9,.blk f [u])],FN⟩) (a3,(l++[c.F,c.at_,c.x])++[(O c.regs:Int)]) (inl ([4]++rg 12 12)) [3,4,5,6,7,10] h W (wN (h.cZ 10 Z).aZ) ?_ ?_;rintro⟨u,FN⟩b6 d6 w aq hik f3 e0 h W;refine iE λj a0 W=>?_;obtain⟨f4,b2,b8⟩:=h.zO 10 bN Z a0;refine jN b8 Z ?_;obtain⟨d4,c4,b5⟩:=h.p9 10 Z b2 (aM a0).2;obtain rfl:=b5
 refine aC (iZ (k:=0) (vs:=[Y j.h,Y j.n]) c4 bD Z Z Z<|gJ Z)<|aK h 13 bD λw f8 h=>aW h 13 bD Z (bO Z) λw h=>D ?_;refine EN [j.h,j.n] h 20 gq Z λw f5 h=>?_;obtain⟨X,W⟩:=cK W;refine jm (R:=dL) (m:=[j.h,j.n]) h 8 Z (h.cZ 20 Z) gq Z Z Z X.1 X.2 λw c8 h=>fJ h 9 [c8] Z lV Z Z Z Z (h.bW 8 Z).one λw h=>re;rintro⟨u,FN⟩b6 w aq h W;refine lh<|Pv results120 (⟨_,Z,?_⟩);refine D ?_;replace h:=h.gB 5 10 Z Z tS (aM o).2 E Z;exact re;rintro⟨s,l⟩c3 w aq h W;refine lh<|bB<|nG<|lB h 9 lV Z<|kY kS Z<|lB h 3 wD Z<|aC (nU (N:=cu tp) iN Z (h.cZ 6 Z)<|h.ig 7 Z)<|EN [(O i.j:Int)] h 21 gq Z λw f0 h=>?_;obtain⟨Zs,W⟩:=cK W;refine jm (R:=dL) (m:=[(O i.j:Int)]) h 8 Z (h.cZ 21 Z) gq Z Z Z Zs.1 Zs.2 λw a4 h=>fJ h 9 [a4] Z lV Z Z Z Z (h.bW 8 Z).one λw h=>nK<|kY kS Z<|lB h 3 wD Z<|aC (nU (N:=cu tp) iN Z (h.cZ 6 Z)<|h.ig 7 Z)<|D ?_;refine wO (σ:=B×H Int) (λ⟨v,q⟩=>⟨[],[(8,.own dL 3 v q),(9,.blk f [v])],q⟩) (a4,l++[(O i.j:Int)]) (inl ([8]++rg 50 8)) [6,7] h W (wN<|TA (h.cZ 6 Z)<|h.ig 7 Z) ?_ ?_;rintro⟨v,q⟩a9 e7 w aq hik e8 d7 h W;refine iE λt p W=>?_;obtain⟨c0,F,h⟩:=h.pQ 7 11 t Z Z tS (aM p).2 Z;obtain⟨f9,d2,d3⟩:=h.Tn 6 Z iN Z (aM p).1<|fD (aM p).2 F;refine jN d3 Z ?_;obtain⟨e1,b7,a8⟩:=h.p9 6 Z d2<|fD (aM p).2 F;obtain⟨rfl,-⟩:=a8;refine aC (jl (k:=0) b7 oK Z Z)<|D ?_;refine di (args:=[c0,pT f]) hp Z Z<|xF func120 ntmps120 Z<|D ?_;refine EN [(O t:Int)] h 22 gq Z λw e5 h=>?_;obtain⟨A,W⟩:=cK W;refine jm (R:=dL) (m:=[(O t:Int)]) h 8 Z (h.cZ 22 Z) gq Z Z Z A.1 A.2 λw z h=>fJ h 9 [z] Z lV Z Z Z Z (h.bW 8 Z).one λw h=>D ?_;refine wO (σ:=B×H Int) (λ⟨g,GN⟩=>⟨[],[(8,.own dL 3 g GN),(9,.blk f [g])],GN⟩) (z,q++[(O t:Int)]) (inl ([4]++rg 12 12)) [6,7,11] h W (wN (h.cZ 11 Z).aZ) ?_ ?_;rintro⟨g,GN⟩sc c9 w aq hik d9 d1 h W;refine iE λd x W=>?_;obtain⟨e2,K,a6⟩:=h.zO 11 bN Z x;refine jN a6 Z ?_;obtain⟨b0,a1,T⟩:=h.p9 11 Z K (aM x).2;obtain rfl:=T;refine aC (iZ (k:=0) (vs:=[Y d.h,Y d.n]) a1 bD Z Z Z<|gJ Z)<|aK h 15 bD λw d8 h=>aW h 15 bD Z (bO Z) λw h=>D ?_;refine EN [d.h,d.n] h 23 gq Z λw e6 h=>?_;obtain⟨y,W⟩:=cK W;refine jm (R:=dL) (m:=[d.h,d.n]) h 8 Z (h.cZ 23 Z) gq Z Z Z y.1 y.2 λw a2 h=>fJ h 9 [a2] Z lV Z Z Z Z (h.bW 8 Z).one λw h=>re;rintro⟨g,GN⟩sc w aq h W;refine lh<|Pv results120 (⟨_,Z,?_⟩);refine D ?_;replace h:=h.gB 7 11 Z Z tS (aM p).2 F Z;exact re;rintro⟨v,q⟩a9 w aq h W;exact lf
def A8(a:Int)(b:tp)(c:tp):L (tp×YU):=
 bif G (a=5)then U ((⟨bif (G (b.h=c.h)&&G (b.n=c.n))then 1 else 1,bif (G (b.h=c.h)&&G (b.n=c.n))then 1 else 0⟩:tp),bh)else bif (G (b.h≠1)||G (c.h≠1))then U ((⟨0,0⟩:tp),aw)else bif G (a=4)then U ((⟨bif G (b.n<c.n)then 1 else 1,bif G (b.n<c.n)then 1 else 0⟩:tp),bh)else iC (j6 (b.n+c.n)) (iC (j6 (b.n-c.n)) (iC (j6 (b.n*c.n)) (ao (vx [0,b.n+c.n,b.n-c.n,b.n*c.n] a) λd=>U ((⟨1,d⟩:tp),jq d))))
theorem JY(I:ay)(M:BS)(p:lg M I)(a:Int)(b:tp)(c:tp)(r:tp×YU)(W:A8 a b c=U r):
  bp prog 181 #[Y a,.agg #[Y b.h,Y b.n],.agg #[Y c.h,Y c.n]] I (X9 I (.tuple #[.agg #[.int .i64 r.1.h,.int .i64 r.1.n],.bool r.2])):=by
 refine xF func181 ntmps181 Z ?_;have h:=SH.init p;refine D ?_;refine fT (cs:=[Y b.h,Y b.n]) h 1 Z Z λw A h=>fT (cs:=[Y c.h,Y c.n]) h 2 Z Z λw x h=>aK h 3 bD λw z h=>D ?_;refine w_makeMapB h 4 λw y h=>iW su Z (bO Z)<|Sp (nA:=[(bh,.agg #[Y 1,Y 1])]) h 4 Z Vj Z Z Z Z λw h=>iW su Z (bO Z)<|Sp (nA:=[(bh,.agg #[Y 1,Y 1]),(aw,.agg #[Y 1,Y 0])]) h 4 Z Vj Z Z Z Z λw h=>ib (λo W=>?_) λo W=>?_;refine D ?_;refine aC (r_eqlP JT Z Z)<|aC (r_lkB h 4 Z Vj Z Z)<|aW h 3 bD Z (bO Z) λw h=>lf;refine ib (λt W=>?_) λt W=>?_;refine D ?_;refine iW su Z eu<|aW h 3 bD Z (bO Z) λw h=>lf;refine ib (λq W=>?_) λq W=>?_;refine D ?_;refine aC (r_lkB h 4 Z Vj Z Z)<|aW h 3 bD Z (bO Z) λw h=>lf;refine sg λW=>?_;refine sg λW=>?_;refine D ?_;obtain⟨g,W⟩:=cK W;refine aC (r_mul Z Z g)<|EN [0,b.n+c.n,b.n-c.n,b.n*c.n] h 5 gq Z λw u h=>mI Z ?_;obtain⟨s,d,W⟩:=aR W;obtain⟨v,l,j⟩:=h.zO 5 bS Z d;refine jN j Z ?_;obtain⟨m,i,f⟩:=h.p9 5 Z l (aM d).2;obtain rfl:=f;refine aC (jl (k:=0) i bP Z Z)<|D ?_;refine iW su Z (bO Z)<|mI Z<|bg h hp Z Z (wZ _ _ h.lt s _ Z) λw h=>aW h 3 bD Z (bO Z) λw h=>lf
def Ah(g:H Ya)(b:Ys)(e:Ya)(c:An)(a:H bM)(i:Int)(f:Int)(d:YU):L (H Int×YU×YU×Ys):=
 bif (!d)then U ([],aw,aw,(⟨g,b.j,b.q,b.bC⟩:Ys))else Option.bind (vx e.regs c.a) λj=>U ([],aw,bh,(⟨g.set ((O b.i:Int)-1).toNat ({e with regs:=(e.regs.set (c.a).toNat (⟨i,f⟩:tp))}),b.j,b.q,b.bC⟩:Ys))
def vo(k:H Ya)(b:Ys)(g:tp)(d:An)(j:Ya)(a:H bM)(i:YU):L (H Int×YU×YU×Ys):=
 bif i then U ([],aw,aw,(⟨k,b.j,b.q,b.bC⟩:Ys))else Option.bind (vx b.j g.n) λe=>iC (e≠[]) (ao (vx e d.c) λf=>ao (vx j.regs d.a) λl=>U ([],aw,bh,(⟨k.set ((O b.i:Int)-1).toNat ({j with regs:=(j.regs.set (d.a).toNat f)}),b.j,b.q,b.bC⟩:Ys)))
def vv(j:H Ya)(d:Ys)(i:tp)(l:Ya)(e:An)(f:YU):L (H Int×YU×YU×Ys):=
 bif f then U ([],aw,aw,(⟨j,d.j,d.q,d.bC⟩:Ys))else Option.bind (vx d.j i.n) λa=>iC (a≠[]) (ao (vx l.regs e.b) λg=>ao (vx a e.c) λk=>U ([],aw,bh,(⟨j,d.j.set (i.n).toNat (a.set (e.c).toNat g),d.q,d.bC⟩:Ys)))
def qI(d:An)(a:H bM)(c:H Ya)(i:H (H tp))(f:Int)(g:Int):L (H Int×YU×YU×Ys):=
 bif G ((O i:Int)=24)then U ([],aw,aw,(⟨c,i,f,g⟩:Ys))else iC (j6 ((O c:Int)-1)) (ao (vx c ((O c:Int)-1)) λe=>ao (vx e.regs d.a) λj=>iC (0<=d.b/\d.b*16<=140737488355328) (iC (Room 24 i [bw d.b.toNat (⟨0,0⟩:tp)]) (U ([],aw,bh,(⟨c.set ((O c:Int)-1).toNat ({e with regs:=(e.regs.set (d.a).toNat (⟨2,(O i:Int)⟩:tp))}),i++[bw d.b.toNat (⟨0,0⟩:tp)],f,g⟩:Ys)))))
def vw(g:Ya)(a:Int)(d:Int)(e:H tp)(b:H tp->L (H Int×YU×YU×Ys)):L (H Int×YU×YU×Ys):=
 ao (vx g.regs d) λc=>ao (vx e a) λf=>b (e.set (a).toNat c)
def vz(f:H Ya)(c:An)(a:H bM)(d:Ys)(e:H tp):L (H Int×YU×YU×Ys):=
 iC (Room 48 f [(⟨c.b,0,e,c.a⟩:Ya)]) (U ([],aw,bh,(⟨f++[(⟨c.b,0,e,c.a⟩:Ya)],d.j,d.q,d.bC⟩:Ys)))
def kE(j:Ya)(d:An)(a:H bM)(g:H Ya)(c:Ys)(i:YU):L (H Int×YU×YU×Ys):=
 bif i then Option.bind (vx j.regs d.a) λe=>bif G (e.h≠1)then U ([],aw,aw,(⟨g,c.j,c.q,c.bC⟩:Ys))else bif G (d.op=9)then U ([e.n],aw,bh,(⟨g,c.j,c.q,c.bC⟩:Ys))else U ([],bh,bh,(⟨g,c.j,3,e.n⟩:Ys))else bif G (d.op=10)then U ([],bh,bh,(⟨g,c.j,c.q,c.bC⟩:Ys))else bif G (d.op=12)then U ([],aw,bh,(⟨g.set ((O c.i:Int)-1).toNat ({j with at_:=d.b}),c.j,c.q,c.bC⟩:Ys))else bif G (d.op=13)then Option.bind (vx j.regs d.a) λf=>bif (G (f.h≠2)&&G (f.n=0))then U ([],aw,bh,(⟨g.set ((O c.i:Int)-1).toNat ({j with at_:=d.b}),c.j,c.q,c.bC⟩:Ys))else U ([],aw,bh,(⟨g,c.j,c.q,c.bC⟩:Ys))else U ([],aw,bh,(⟨g,c.j,c.q,c.bC⟩:Ys))
def eZ(N:Nat)(e:Ys)(d:An)(a:H bM)(f:H Ya):L (H Int×YU×YU×Ys):=
 ao (vx f ((O e.i:Int)-1)) λg=>bif G (d.op=1)then Option.bind (vx g.regs d.a) λz=>U ([],aw,bh,(⟨f.set ((O e.i:Int)-1).toNat ({g with regs:=(g.regs.set (d.a).toNat (⟨1,d.b⟩:tp))}),e.j,e.q,e.bC⟩:Ys))else bif G (d.op=2)then Option.bind (vx g.regs d.b) λu=>ao (vx g.regs d.a) λv=>U ([],aw,bh,(⟨f.set ((O e.i:Int)-1).toNat ({g with regs:=(g.regs.set (d.a).toNat u)}),e.j,e.q,e.bC⟩:Ys))else bif G (d.op=3)then Option.bind (vx d.args 0) λi=>ao (vx g.regs d.b) λy=>ao (vx g.regs d.c) λt=>ao (A8 i y t) λp=>Ah f e g d a p.1.h p.1.n p.2 else bif G (d.op=4)then Option.bind (vx g.regs d.b) λk=>bif G (k.h≠2)then vo f e k d g a bh else Option.bind (vx e.j k.n) λx=>vo f e k d g a (G ((O x:Int)<=d.c))else bif G (d.op=6)then Option.bind (vx g.regs d.a) λm=>bif G (m.h≠2)then vv f e m g d bh else Option.bind (vx e.j m.n) λl=>vv f e m g d (G ((O l:Int)<=d.c))else bif G (d.op=5)then bif G ((O e.j:Int)=24)then Option.bind (rV N (⟨f,e.j,e.q,e.bC⟩:Ys)) λo=>qI d a o.i o.j o.q o.bC else qI d a f e.j e.q e.bC else bif G (d.op=7)then bif G ((O f:Int)=10)then U ([],aw,aw,(⟨f,e.j,e.q,e.bC⟩:Ys))else Option.bind (vx a d.b) λq=>iC (0<=q.regs/\q.regs*16<=140737488355328) (ic (vw g) (vz f d a e) 0 d.args (bw q.regs.toNat (⟨0,0⟩:tp)))else bif G (d.op=8)then Option.bind (vx g.regs d.a) λw=>iC (j6 ((O f:Int)-1)) (ao (sub? f 0 ((O f:Int)-1)) λr=>bif G (((f.take ((O f:Int)-1).toNat).length:Int)=0)then U ([],aw,bh,(⟨f.take ((O f:Int)-1).toNat,e.j,1,e.bC⟩:Ys))else iC (j6 (((f.take ((O f:Int)-1).toNat).length:Int)-1)) (ao (vx (f.take ((O f:Int)-1).toNat) (((f.take ((O f:Int)-1).toNat).length:Int)-1)) λj=>ao (vx j.regs g.x) λs=>U ([],aw,bh,(⟨(f.take ((O f:Int)-1).toNat).set (((f.take ((O f:Int)-1).toNat).length:Int)-1).toNat ({j with regs:=(j.regs.set (g.x).toNat w)}),e.j,e.q,e.bC⟩:Ys))))else bif G (d.op=9)then kE g d a f e (G (d.op=9))else kE g d a f e (G (d.op=11))
def iF(N:Nat)(b:Ys)(a:H bM):L (H Int×YU×YU×Ys):=
 iC (j6 ((O b.i:Int)-1)) (ao (vx b.i ((O b.i:Int)-1)) λd=>ao (vx a d.F) λc=>ao (vx c.C d.at_) λe=>iC (j6 ((O c.C:Int)-1)) (bif G (d.at_<((O c.C:Int)-1))then iC (j6 (d.at_+1)) (eZ N b e a (b.i.set ((O b.i:Int)-1).toNat ({d with at_:=(d.at_+1)})))else eZ N b e a b.i))
theorem Tf(N:Nat)(I:ay)(M:BS)(hM:lg M I)(sb:Nat)(f:Ys)(gN l:B)(sK vN:H B)(hC:F4 I M (.two (.two (.two (.two (.blk sb [gN,l,Y f.q,Y f.bC]) (.own aS.raw 111 gN (aE f.i sK))) (.gK (bQ bG 147 hn sK (bc aS.sub f.i)))) (.own (cu tp).raw 109 l (aE f.j vN))) (.gK (bQ bG 147 hn vN (bc (cu tp).sub f.j))):Chunk))(hap:∀b,Chunk.own' (.two (.two (.two (.two (.blk sb [gN,l,Y f.q,Y f.bC]) (.own aS.raw 111 gN (aE f.i sK))) (.gK (bQ bG 147 hn sK (bc aS.sub f.i)))) (.own (cu tp).raw 109 l (aE f.j vN))) (.gK (bQ bG 147 hn vN (bc (cu tp).sub f.j))):Chunk) b->¬M b)(va:B)(a:H bM)(ha:bX iO I (λb=>M b\/(.two (.two (.two (.two (.blk sb [gN,l,Y f.q,Y f.bC]) (.own aS.raw 111 gN (aE f.i sK))) (.gK (bQ bG 147 hn sK (bc aS.sub f.i)))) (.own (cu tp).raw 109 l (aE f.j vN))) (.gK (bQ bG 147 hn vN (bc (cu tp).sub f.j))):Chunk).own' b) va a)(r:H Int×YU×YU×Ys)(W:iF N f a=U r):
  bp prog 122 #[va,pT sb] I (λe w'=>bF (Chunk.own' (.two (.two (.two (.two (.blk sb [gN,l,Y f.q,Y f.bC]) (.own aS.raw 111 gN (aE f.i sK))) (.gK (bQ bG 147 hn sK (bc aS.sub f.i)))) (.own (cu tp).raw 109 l (aE f.j vN))) (.gK (bQ bG 147 hn vN (bc (cu tp).sub f.j))):Chunk)) I w'/\∃u0,∃qO,∃wY,∃Xq,∃Xr,e=.returned (.tuple #[u0,.bool r.2.1,.bool r.2.2.1])/\F4 w' M (.two (.two (.two (.two (.blk sb [qO,wY,.int .i64 r.2.2.2.q,.int .i64 r.2.2.2.bC]) (.own aS.raw 111 qO (aE r.2.2.2.i Xq))) (.gK (bQ bG 147 hn Xq (bc aS.sub r.2.2.2.i)))) (.own (cu tp).raw 109 wY (aE r.2.2.2.j Xr))) (.gK (bQ bG 147 hn Xr (bc (cu tp).sub r.2.2.2.j))):Chunk)/\(GW (.two (.two (.two (.two (.blk sb [qO,wY,.int .i64 r.2.2.2.q,.int .i64 r.2.2.2.bC]) (.own aS.raw 111 qO (aE r.2.2.2.i Xq))) (.gK (bQ bG 147 hn Xq (bc aS.sub r.2.2.2.i)))) (.own (cu tp).raw 109 wY (aE r.2.2.2.j Xr))) (.gK (bQ bG 147 hn Xr (bc (cu tp).sub r.2.2.2.j))):Chunk) I (.two (.two (.two (.two (.blk sb [gN,l,Y f.q,Y f.bC]) (.own aS.raw 111 gN (aE f.i sK))) (.gK (bQ bG 147 hn sK (bc aS.sub f.i)))) (.own (cu tp).raw 109 l (aE f.j vN))) (.gK (bQ bG 147 hn vN (bc (cu tp).sub f.j))):Chunk))/\bX dL w' (λb=>M b\/Chunk.own' (.two (.two (.two (.two (.blk sb [qO,wY,.int .i64 r.2.2.2.q,.int .i64 r.2.2.2.bC]) (.own aS.raw 111 qO (aE r.2.2.2.i Xq))) (.gK (bQ bG 147 hn Xq (bc aS.sub r.2.2.2.i)))) (.own (cu tp).raw 109 wY (aE r.2.2.2.j Xr))) (.gK (bQ bG 147 hn Xr (bc (cu tp).sub r.2.2.2.j))):Chunk) b) u0 r.1):=by
 refine xF func122 ntmps122 Z ?_;have h:=SH.zK hM hC hap;replace h:=h.kH 6 ha rf;generalize hK0:(.two (.two (.two (.two (.blk sb [gN,l,Y f.q,Y f.bC]) (.own aS.raw 111 gN (aE f.i sK))) (.gK (bQ bG 147 hn sK (bc aS.sub f.i)))) (.own (cu tp).raw 109 l (aE f.j vN))) (.gK (bQ bG 147 hn vN (bc (cu tp).sub f.j))):Chunk).own'=K0 at h;replace h:=((h.un 1 5 Z Z).un 1 4 Z Z).un 1 3 Z Z;replace h:=h.un 1 2 Z Z;have qm:=ha.aZ;refine D ?_;refine fT (cs:=[pT sb]) h 7 Z Z λw b1 h=>D ?_;refine nT mixed Q h λw h=>D ?_;refine eG (nU (N:=aS) dB Z (h.cZ 2 Z)<|h.ig 3 Z) ?_;obtain⟨a2,W⟩:=cK W;refine iE λx3 e4 W=>?_;obtain⟨u8,e9,h⟩:=h.pQ 3 8 x3.regs Z Z tS (aM e4).2 Z;obtain⟨b6,q7,i5⟩:=h.Tn 2 Z dB Z (aM e4).1<|fD (aM e4).2 e9;refine Cn i5 Z<|D ?_;obtain⟨cs10,m11,r12⟩:=h.p9 2 Z q7<|fD (aM e4).2 e9;obtain⟨rfl,-⟩:=r12;refine aC (jl (k:=0) m11 bP Z Z) ?_;obtain⟨x13,e14,W⟩:=aR W;obtain⟨b16,o17,cs18,h,r19,z5⟩:=h.zR 6 9 jE Z e14;obtain⟨u20,rfl,g21⟩:=lS r19;replace h:=h.aA 36 g21.up;refine jN z5 Z<|D ?_;obtain⟨cs22,m23,r24⟩:=h.p9 2 Z q7<|fD (aM e4).2 e9;obtain⟨rfl,-⟩:=r24;refine aC (jl (k:=1) m23 bP Z Z) ?_;obtain⟨d,z3,W⟩:=aR W;obtain⟨b28,o29,cs30,h,z9,i27⟩:=h.zR 36 42 oL Z z3;obtain⟨u32,rfl,g33⟩:=zM z9;replace h:=h.aA 16 g33.up;refine jN i27 Z<|D ?_;refine aK h 11 sJ λw l8 h=>aW h 11 sJ Z ow λw h=>nN<|dX (σ:=H Ya) h (inl<|rg 50 15) [1,4,5,6,7,16,11] (λpW=>⟨[],[(2,.own aS.raw 111 gN<|aE pW sK),(3,.gK<|bQ bG 147 hn sK<|bc aS.sub pW)],eZ N f d a pW=U r⟩) ?_ ?_;rintro pW w aU h W;refine iE λxL i W=>?_;obtain⟨i9,g,h⟩:=h.pQ 3 10 xL.regs Z Z tS (aM i).2 Z;obtain⟨cs40,m41,r42⟩:=h.p9 2 Z q7<|fD (aM i).2 g;obtain⟨rfl,-⟩:=r42;refine aC (jl (k:=2) m41 oK Z Z)<|D ?_;refine aC (mY (c1:=[]) (c2:=[pT l8,pT b1]) Z Z)<|ib (λz8 W=>?_) λz8 W=>?_;refine D ?_;refine iW su Z (bO Z) ?_;obtain⟨Wz,o8,W⟩:=aR W;obtain⟨b47,y4,i46⟩:=h.zO 10 bN Z o8;refine jN i46 Z<|tV (a':=(⟨1,d.b⟩:tp)) (vs:=[Y 1,Y d.b]) h 10 Z y4 Z (aM o8).2 bD Z Z Z Z Z λw h k49=>D ?_;replace h:=((h.sN 2 3 10 ({xL with regs:=(xL.regs.set (d.a).toNat (⟨1,d.b⟩:tp))}) Z Z Z tS tS tS (aM i).2 g Z).pr 1 2).pr 1 3;replace h:=(h.pr 1 4).pr 1 5;exact ls;refine ib (λc50 W=>?_) λc50 W=>?_;refine oJ 9 mixed Q h λw h=>iE λWv p8 W=>?_;obtain⟨b54,q55,i53⟩:=h.zO 10 bN Z p8;refine Cn i53 Z ?_;obtain⟨cs56,m57,r58⟩:=h.p9 10 Z q55 (aM p8).2;obtain rfl:=r58;refine eG (iZ (k:=0) (vs:=[Y Wv.h,Y Wv.n]) m57 bD Z Z Z<|gJ Z) ?_;obtain⟨x59,u7,W⟩:=aR W;obtain⟨b62,y9,i61⟩:=h.zO 10 bN Z u7
 refine Cn i61 Z<|wL<|tV (a':=Wv) (vs:=[Y Wv.h,Y Wv.n]) h 10 Z y9 Z (aM u7).2 bD Z Z Z Z Z λw h k64=>D ?_;replace h:=((h.sN 2 3 10 ({xL with regs:=(xL.regs.set (d.a).toNat Wv)}) Z Z Z tS tS tS (aM i).2 g Z).pr 1 2).pr 1 3;replace h:=(h.pr 1 4).pr 1 5;exact ls;refine ib (λy8 W=>?_) λy8 W=>?_;refine dX (σ:=Nat×Int×Int×YU) h (inl ([12,13]++rg 94 18)) [1,2,3,4,5,16,11,10] (λ⟨m2,FO,h5,l4⟩=>⟨[(12,pT m2),(13,(.bool<|l4))],[(23,.blk m2 [Y FO,Y h5])],Ah pW f xL d a FO h5 l4=U r⟩) ?_ ?_;rintro⟨m2,FO,h5,l4⟩w aU h W;refine ib (λc70 W=>?_) λc70 W=>?_;refine D ?_;replace h:=((h.gB 3 10 Z Z tS (aM i).2 g Z).pr 1 2).pr 1 3;replace h:=(h.pr 1 4).pr 1 5;exact ls;refine iE λx71 v2 W=>?_;obtain⟨b74,q75,i73⟩:=h.zO 10 bN Z v2;refine jN i73 Z<|tV (a':=(⟨FO,h5⟩:tp)) (vs:=[Y FO,Y h5]) h 10 Z q75 Z (aM v2).2 bD Z Z Z Z Z λw h k76=>D ?_;replace h:=((h.sN 2 3 10 ({xL with regs:=(xL.regs.set (d.a).toNat (⟨FO,h5⟩:tp))}) Z Z Z tS tS tS (aM i).2 g Z).pr 1 2).pr 1 3;replace h:=(h.pr 1 4).pr 1 5;exact ls;refine dO (Zs:=BE) mixed h λw h=>bK 0 kR BU Z<|zo 1 h 11 lV Z ?_;obtain⟨b5,h9,W⟩:=aR W;obtain⟨n1,n3,m5,h,h3,h2⟩:=h.zR 16 43 bS Z h9;obtain rfl:=h3;refine rE 2 kR h2 Z (bA 3 kR Z (λw t=>have h:=h.grow t;ug (k:=0) h 43 Z bP Z Z) (dH 4 kR i9 Z (bK 5 kR pR Z (zo 6 h 11 bP Z ?_))));obtain⟨QK,b2,W⟩:=aR W;obtain⟨n2,h7,h6⟩:=h.zO 10 bN Z b2;refine rE 7 kR h6 Z ?_;obtain⟨m6,h4,h8⟩:=h.p9 10 Z h7 (aM b2).2;obtain rfl:=h8;refine bA 8 kR Z (λw t=>have h:=h.grow t;iZ (k:=0) (vs:=[Y QK.h,Y QK.n]) (h4.grow t) bD Z Z Z (gJ Z)) (dH 9 kR i9 Z (bK 10 kR Dp Z (zo 11 h 11 bP Z ?_)));obtain⟨Lj,a0,W⟩:=aR W;obtain⟨l5,g4,e3⟩:=h.zO 10 bN Z a0;refine rE 12 kR e3 Z ?_;obtain⟨k8,e6,f7⟩:=h.p9 10 Z g4 (aM a0).2;obtain rfl:=f7;refine bA 13 kR Z (λw t=>have h:=h.grow t;iZ (k:=0) (vs:=[Y Lj.h,Y Lj.n]) (e6.grow t) bD Z Z Z (gJ Z)) ?_;obtain⟨kF,a6,W⟩:=aR W;refine bR λk1 w0=>gu 14 18 Q Z bu Z bu ?_ ?_;refine qb h hp Z Z (JY _ _ h.lt b5 QK Lj _ a6) λw E h=>?_;replace w0:=w0.grow E;refine ax<|ah w0<|dH 15 w0 (.tuple #[.agg #[Y kF.1.h,Y kF.1.n],(.bool<|kF.2)]) Z<|kP 16 w0 Z<|kP 17 w0 Z<|aO 18 Z<|jS h 24 bD λw QL h Yc Yd=>?_;have Ye:k1.heap.size<=QL:=cN w0.size Yd;replace w0:=w0.grow Yc;refine ax<|ah w0<|aO 19 Z<|jJ (vs:=[Y kF.1.h,Y kF.1.n]) h 24 [Y kF.1.h,Y kF.1.n] Z bD Z Z Z Z Z (bO Z) λw h A=>?_;replace w0:=w0.fresh A λx o=>o▸Ye;refine ax<|ah w0<|kD 20 w0 (.bool<|kF.2) Z<|dP<|aL ?_;replace h:=(h.gZ 23).moveC 24 23 Z Z tS
 exact ik (QL,kF.1.h,kF.1.n,kF.2) ⟨h.cn _,W⟩;refine jS h 24 bD λw QL h Yc Yd=>?_;have Ye:k1.heap.size<=QL:=cN w0.size Yd;replace w0:=w0.grow Yc;refine ax<|ah w0<|aO 14 Z<|qb h hp Z Z (JY _ _ h.lt b5 QK Lj _ a6) λw E h=>?_;replace w0:=w0.grow E;refine ax<|ah w0<|dH 15 w0 (.tuple #[.agg #[Y kF.1.h,Y kF.1.n],(.bool<|kF.2)]) Z<|kP 16 w0 Z<|kP 17 w0 Z<|aO 19 Z<|jJ (vs:=[Y kF.1.h,Y kF.1.n]) h 24 [Y kF.1.h,Y kF.1.n] Z bD Z Z Z Z Z (bO Z) λw h A=>?_;replace w0:=w0.fresh A λx o=>o▸Ye;refine ax<|ah w0<|kD 20 w0 (.bool<|kF.2) Z<|dP<|aL ?_;replace h:=(h.gZ 23).moveC 24 23 Z Z tS;exact ik (QL,kF.1.h,kF.1.n,kF.2) ⟨h.cn _,W⟩;refine ib (λc80 W=>?_) λc80 W=>?_;refine iE λe1 v4 W=>?_;obtain⟨b84,q85,i83⟩:=h.zO 10 bN Z v4;refine jN i83 Z ?_;obtain⟨cs86,m87,r88⟩:=h.p9 10 Z q85 (aM v4).2;obtain rfl:=r88;refine aC (iZ (k:=0) (vs:=[Y e1.h,Y e1.n]) m87 bD Z Z Z<|gJ Z)<|di (args:=[.agg #[Y e1.h,Y e1.n],pT l8,pT b1]) hp Z Z<|xF func180 ntmps180 Z<|D ?_;refine fT (cs:=[Y e1.h,Y e1.n]) h 31 Z Z λw b89 h=>aV nS Z<|nN<|iq<|dX (σ:=YU) h (inl<|rg 5 17) [1,2,3,4,5,7,16,11,10,31] (λm9=>⟨[(21,(.bool<|m9))],[],vo pW f e1 d xL a m9=U r⟩) ?_ ?_;rintro m9 w aU h W;refine eX W Z (λc91 W=>?_) λc91 W=>?_;refine D ?_;refine iB results180 Z (⟨_,Z,?_⟩);refine D ?_;refine aC (r_eqnil0 bN Z Z)<|D ?_;refine GC Z<|D ?_;replace h:=((h.gB 3 10 Z Z tS (aM i).2 g Z).pr 1 2).pr 1 3;replace h:=(h.pr 1 4).pr 1 5;exact ls;refine D ?_;refine nT mixed Q h λw h=>iE λz6 i2 W=>?_;obtain⟨u97,m8,h⟩:=h.pQ 5 25 z6 Z Z tS (aM i2).2 Z;obtain⟨b95,y2,i94⟩:=h.Tn 4 Z iN Z (aM i2).1<|fD (aM i2).2 m8;refine Cn i94 Z ?_;obtain⟨cs99,q3,o7⟩:=h.p9 4 Z y2<|fD (aM i2).2 m8;obtain⟨rfl,-⟩:=o7;refine eG (jl (k:=0) q3 oK Z Z)<|D ?_;refine iB results180 Z (⟨_,Z,?_⟩);refine D ?_;refine aC (Dm bN Z (h.cZ 25 Z) Z)<|D ?_;obtain⟨x8,W⟩:=cK W;refine wI Z (λj5=>ZL (qj (h.cZ 25 Z) j5).2 x8) λj5=>?_;refine D ?_;refine oJ 9 mixed Q h λw h=>iE λb4 j2 W=>?_;obtain⟨b107,t1,u3⟩:=h.zO 25 bN Z j2;refine Cn u3 Z ?_;obtain⟨y7,v6,p4⟩:=h.p9 25 Z t1 (aM j2).2;obtain rfl:=p4;refine eG (iZ (k:=0) (vs:=[Y b4.h,Y b4.n]) v6 bD Z Z Z<|gJ Z) ?_;obtain⟨x112,k3,W⟩:=aR W;obtain⟨b115,o1,v3⟩:=h.zO 10 bN Z k3;refine Cn v3 Z<|wL<|tV (a':=b4) (vs:=[Y b4.h,Y b4.n]) h 10 Z o1 Z (aM k3).2 bD Z Z Z Z Z λw h k117=>D ?_;replace h:=((h.sN 2 3 10 ({xL with regs:=(xL.regs.set (d.a).toNat b4)}) Z Z Z tS tS tS (aM i).2 g Z).gB 5 25 Z Z tS (aM i2).2 m8 Z).pr 1 2
 replace h:=((h.pr 1 3).pr 1 4).pr 1 5;exact ls;refine nT mixed Q h λw h=>D ?_;refine fV (b:=decide<|e1.h≠2) W (λp5 W=>?_) λp5 W=>?_;exact qe;refine iE λXE d8 W=>?_;obtain⟨u124,i4,h⟩:=h.pQ 5 37 XE Z Z tS (aM d8).2 Z;obtain⟨b122,w4,x9⟩:=h.Tn 4 Z iN Z (aM d8).1<|fD (aM d8).2 i4;refine Cn x9 Z<|D ?_;obtain⟨z4,r5,n4⟩:=h.p9 4 Z w4<|fD (aM d8).2 i4;obtain⟨rfl,-⟩:=n4;refine eG (jl (k:=0) r5 oK Z Z)<|D ?_;refine eG (sH bN Z<|h.cZ 37 Z)<|D ?_;replace h:=h.gB 5 37 Z Z tS (aM d8).2 i4 Z;exact qe;refine ib (λq9 W=>?_) λq9 W=>?_;refine iE λV7 j4 W=>?_;obtain⟨b133,w6,u4⟩:=h.zO 10 bN Z j4;refine jN u4 Z ?_;obtain⟨cs135,s7,v5⟩:=h.p9 10 Z w6 (aM j4).2;obtain rfl:=v5;refine aC (iZ (k:=0) (vs:=[Y V7.h,Y V7.n]) s7 bD Z Z Z<|gJ Z)<|di (args:=[.agg #[Y V7.h,Y V7.n],pT l8,pT b1]) hp Z Z<|xF func180 ntmps180 Z<|D ?_;refine fT (cs:=[Y V7.h,Y V7.n]) h 32 Z Z λw b138 h=>aV nS Z<|nN<|iq<|dX (σ:=YU) h (inl<|rg 5 17) [1,2,3,4,5,7,16,11,10,32] (λi0=>⟨[(21,(.bool<|i0))],[],vv pW f V7 xL d i0=U r⟩) ?_ ?_;rintro i0 w aU h W;refine eX W Z (λr9 W=>?_) λr9 W=>?_;refine D ?_;refine iB results180 Z (⟨_,Z,?_⟩);refine D ?_;refine aC (r_eqnil0 bN Z Z)<|D ?_;refine GC Z<|D ?_;replace h:=((h.gB 3 10 Z Z tS (aM i).2 g Z).pr 1 2).pr 1 3;replace h:=(h.pr 1 4).pr 1 5;exact ls;refine D ?_;refine nT mixed Q h λw h=>iE λl0 d4 W=>?_;obtain⟨u146,j0,h⟩:=h.pQ 5 26 l0 Z Z tS (aM d4).2 Z;obtain⟨b144,u1,u5⟩:=h.Tn 4 Z iN Z (aM d4).1<|fD (aM d4).2 j0;refine Cn u5 Z ?_;obtain⟨cs148,n5,v8⟩:=h.p9 4 Z u1<|fD (aM d4).2 j0;obtain⟨rfl,-⟩:=v8;refine eG (jl (k:=0) n5 oK Z Z)<|D ?_;refine iB results180 Z (⟨_,Z,?_⟩);refine D ?_;refine aC (Dm bN Z (h.cZ 26 Z) Z)<|D ?_;obtain⟨q6,W⟩:=cK W;refine wI Z (λc152=>ZL (qj (h.cZ 26 Z) c152).2 q6) λc152=>?_;refine D ?_;refine oJ 9 mixed Q h λw h=>iE λb0 j3 W=>?_;obtain⟨b156,o3,t0⟩:=h.zO 10 bN Z j3;refine Cn t0 Z ?_;obtain⟨z0,u9,p3⟩:=h.p9 10 Z o3 (aM j3).2;obtain rfl:=p3;refine eG (iZ (k:=0) (vs:=[Y b0.h,Y b0.n]) u9 bD Z Z Z<|gJ Z) ?_;obtain⟨x161,j8,W⟩:=aR W;obtain⟨b164,n7,o0⟩:=h.zO 26 bN Z j8;refine Cn o0 Z<|wL<|tV (a':=b0) (vs:=[Y b0.h,Y b0.n]) h 26 Z n7 Z (aM j8).2 bD Z Z Z Z Z λw h k166=>D ?_;replace h:=((h.gB 3 10 Z Z tS (aM i).2 g Z).sN 4 5 26 (l0.set (d.c).toNat b0) Z Z Z tS tS tS (aM d4).2 j0 Z).pr 1 2;replace h:=((h.pr 1 3).pr 1 4).pr 1 5;exact ls;refine nT mixed Q h λw h=>D ?_
 refine fV (b:=decide<|V7.h≠2) W (λw5 W=>?_) λw5 W=>?_;exact qe;refine iE λw7 d1 W=>?_;obtain⟨u173,i6,h⟩:=h.pQ 5 38 w7 Z Z tS (aM d1).2 Z;obtain⟨b171,w2,w9⟩:=h.Tn 4 Z iN Z (aM d1).1<|fD (aM d1).2 i6;refine Cn w9 Z<|D ?_;obtain⟨cs175,w8,r1⟩:=h.p9 4 Z w2<|fD (aM d1).2 i6;obtain⟨rfl,-⟩:=r1;refine eG (jl (k:=0) w8 oK Z Z)<|D ?_;refine eG (sH bN Z<|h.cZ 38 Z)<|D ?_;replace h:=h.gB 5 38 Z Z tS (aM d1).2 i6 Z;exact qe;refine ib (λx5 W=>?_) λx5 W=>?_;refine dX (σ:=B×H B×H Ya×B×H B×H (H tp)×Int×Int) h (inl<|rg 161 12) [7,16,11] (λ⟨a9,f8,g9,g8,K,Te,b3,b7⟩=>⟨[],[(1,.blk sb [a9,g8,Y b3,Y b7]),(18,.own aS.raw 111 a9<|aE g9 f8),(19,.gK<|bQ bG 147 hn f8<|bc aS.sub g9),(15,.own (cu tp).raw 109 g8<|aE Te K),(17,.gK<|bQ bG 147 hn K<|bc (cu tp).sub Te)],qI d a g9 Te b3 b7=U r⟩) ?_ ?_;rintro⟨a9,f8,g9,g8,K,Te,b3,b7⟩w aU h W;refine iq<|nG<|lB h 7 F8 Z<|aC (qx Z)<|kY kS Z<|lB h 1 wD Z<|aC (nU (N:=cu tp) iN Z (h.cZ 15 Z)<|h.ig 17 Z)<|D ?_;refine eX W Z (λn6 W=>?_) λn6 W=>?_;refine D ?_;replace h:=((h.pr 1 18).pr 1 19).pr 1 15;replace h:=h.pr 1 17;exact ls;refine D ?_;refine oJ 22 mixed Q h λw h=>D ?_;refine eG (nU (N:=aS) dB Z (h.cZ 18 Z)<|h.ig 19 Z) ?_;obtain⟨a188,W⟩:=cK W;refine iE λa5 a4 W=>?_;obtain⟨u194,c6,h⟩:=h.pQ 19 27 a5.regs Z Z tS (aM a4).2 Z;obtain⟨b192,o9,s9⟩:=h.Tn 18 Z dB Z (aM a4).1<|fD (aM a4).2 c6;refine Cn s9 Z<|D ?_;obtain⟨z7,q2,p2⟩:=h.p9 18 Z o9<|fD (aM a4).2 c6;obtain⟨rfl,-⟩:=p2;refine eG (jl (k:=2) q2 oK Z Z)<|D ?_;refine eG (nU (N:=cu tp) iN Z (h.cZ 15 Z)<|h.ig 17 Z)<|eG (lD (pv:=[(0,Y 2),(1,Y ((O Te:Int)))]) (out:=[Y 2,Y ((O Te:Int))]) su Z ⟨0,1,[Y 2],Z,Z,Z,gJ Z,⟨1,1,[Y ((O Te:Int))],Z,Z,Z,gJ Z,Z⟩⟩) ?_;obtain⟨x199,k7,W⟩:=aR W;obtain⟨b202,x2,t8⟩:=h.zO 27 bN Z k7;refine Cn t8 Z<|wL<|tV (a':=(⟨2,(O Te:Int)⟩:tp)) (vs:=[Y 2,Y ((O Te:Int))]) h 27 Z x2 Z (aM k7).2 bD Z Z Z Z Z λw h k204=>D ?_;refine dO (Zs:=(λb=>ob g8 b\/b=sb)) mixed h λw h=>bA 0 kR Z (λw t=>have h:=h.xY 15 1 tS Z Z t;jr h 7 Z F8 Z Z) (bA 1 kR Z (λw t=>have h:=h.xY 15 1 tS Z Z t;jr h 7 Z F8 Z Z) (qZ 2 kR Z (bK 3 kR kS Z (bK 5 kR pR Z (bA 6 kR Z (λw t=>have h:=h.xY 15 1 tS Z Z t;jr h 11 Z bP Z Z) ?_)))));obtain⟨a7,W⟩:=cK W;obtain⟨Lm,W⟩:=cK W;refine bR λws213 j=>gu 4 7 Q Z bu Z bu ?_ ?_;refine D ?_
 refine ah j<|aO 7 Z<|Bq (R:=bG) (zs:=[Y 0,Y 0]) (a:=(⟨0,0⟩:tp)) h 20 lF bD Z tS Z Z a7 Z (λ_ _=>rfl) λw sG h Yf Yg=>?_;have c5:=mf j Yg;replace j:=j.grow Yf;refine ax<|ah j<|aO 8 Z ?_;have De:(db sG)=true:=(h.bW 20 Z).one;refine oI (R:=(cu tp).raw) (vs:=[sG]) (xs:=aE [bw d.b.toNat (⟨0,0⟩:tp)] [sG]) h 22 jD Z Z Z ⟨⟨bY De,De⟩,an⟩ Z λw a3 h Ni Nj=>?_;have ab:=mf j Nj;replace j:=j.grow Ni;replace h:=h.xK (N:=cu tp) 20 (bw d.b.toNat (⟨0,0⟩:tp)) Z Z;refine ax<|ah j<|aO 9 Z ?_;have Ai:=h.ig 17 Z;have Df:=h.ig 20 Z;have P:=j.size;refine jO (R:=(cu tp).raw) (m:=aE [bw d.b.toNat (⟨0,0⟩:tp)] [sG]) h 15 Z (h.cZ 22 Z) jD Z Z Z (by rw[dA Ai,dA Df];exact Lm.1) (by rw[dA Ai,dA Df];exact Lm.2) λw QM h Nk Nl=>?_;have S:=uB Nl (j).size;replace j:=bF.step j Nk λ_ o _=>.inl<|o;replace h:=(h.xI 17 20 Z Z tS).gZ 22;rw[xJ Ai,<-cY]at h;obtain⟨sc,JZ⟩:∃z,z=K++[sG]:=⟨_,Z⟩;rw[<-JZ]at h;refine ax<|ah j<|qZ 10 j Z<|bK 11 j kS Z<|aO 12 Z<|fe h 1 [a9,QM,Y b3,Y b7] Z wD Z Z Z Z (h.bW 15 Z).one λw h Nn=>?_;replace j:=bF.step j Nn λ_ o _=>.inr<|o;refine ax<|ah j<|dP<|D ?_;replace h:=((h.sN 18 19 27 ({a5 with regs:=(a5.regs.set (d.a).toNat (⟨2,(O Te:Int)⟩:tp))}) Z Z Z tS tS tS (aM a4).2 c6 Z).pr 1 18).pr 1 19;replace h:=(h.pr 1 15).pr 1 17;exact ls;refine Bq (R:=bG) (zs:=[Y 0,Y 0]) (a:=(⟨0,0⟩:tp)) h 20 lF bD Z tS Z Z a7 Z (λ_ _=>rfl) λw sG h Yf Yg=>?_;have c5:=mf j Yg;replace j:=j.grow Yf;refine ax<|ah j<|gu 4 8 Q Z bu Z bu ?_ ?_;refine D ?_;refine ah j<|aO 8 Z ?_;have De:(db sG)=true:=(h.bW 20 Z).one;refine oI (R:=(cu tp).raw) (vs:=[sG]) (xs:=aE [bw d.b.toNat (⟨0,0⟩:tp)] [sG]) h 22 jD Z Z Z ⟨⟨bY De,De⟩,an⟩ Z λw a3 h Ni Nj=>?_;have ab:=mf j Nj;replace j:=j.grow Ni;replace h:=h.xK (N:=cu tp) 20 (bw d.b.toNat (⟨0,0⟩:tp)) Z Z;refine ax<|ah j<|aO 9 Z ?_;have Ai:=h.ig 17 Z;have Df:=h.ig 20 Z;have P:=j.size;refine jO (R:=(cu tp).raw) (m:=aE [bw d.b.toNat (⟨0,0⟩:tp)] [sG]) h 15 Z (h.cZ 22 Z) jD Z Z Z (by rw[dA Ai,dA Df];exact Lm.1) (by rw[dA Ai,dA Df];exact Lm.2) λw QM h Nk Nl=>?_;have S:=uB Nl (j).size;replace j:=bF.step j Nk λ_ o _=>.inl<|o;replace h:=(h.xI 17 20 Z Z tS).gZ 22;rw[xJ Ai,<-cY]at h;obtain⟨sc,JZ⟩:∃z,z=K++[sG]:=⟨_,Z⟩;rw[<-JZ]at h;refine ax<|ah j<|qZ 10 j Z<|bK 11 j kS Z<|aO 12 Z<|fe h 1 [a9,QM,Y b3,Y b7] Z wD Z Z Z Z (h.bW 15 Z).one λw h Nn=>?_
 replace j:=bF.step j Nn λ_ o _=>.inr<|o;refine ax<|ah j<|dP<|D ?_;replace h:=((h.sN 18 19 27 ({a5 with regs:=(a5.regs.set (d.a).toNat (⟨2,(O Te:Int)⟩:tp))}) Z Z Z tS tS tS (aM a4).2 c6 Z).pr 1 18).pr 1 19;replace h:=(h.pr 1 15).pr 1 17;exact ls;have De:(db sG)=true:=(h.bW 20 Z).one;refine oI (R:=(cu tp).raw) (vs:=[sG]) (xs:=aE [bw d.b.toNat (⟨0,0⟩:tp)] [sG]) h 22 jD Z Z Z ⟨⟨bY De,De⟩,an⟩ Z λw a3 h Ni Nj=>?_;have ab:=mf j Nj;replace j:=j.grow Ni;replace h:=h.xK (N:=cu tp) 20 (bw d.b.toNat (⟨0,0⟩:tp)) Z Z;refine ax<|ah j<|aO 4 Z<|D ?_;refine ah j<|aO 9 Z ?_;have Ai:=h.ig 17 Z;have Df:=h.ig 20 Z;have P:=j.size;refine jO (R:=(cu tp).raw) (m:=aE [bw d.b.toNat (⟨0,0⟩:tp)] [sG]) h 15 Z (h.cZ 22 Z) jD Z Z Z (by rw[dA Ai,dA Df];exact Lm.1) (by rw[dA Ai,dA Df];exact Lm.2) λw QM h Nk Nl=>?_;have S:=uB Nl (j).size;replace j:=bF.step j Nk λ_ o _=>.inl<|o;replace h:=(h.xI 17 20 Z Z tS).gZ 22;rw[xJ Ai,<-cY]at h;obtain⟨sc,JZ⟩:∃z,z=K++[sG]:=⟨_,Z⟩;rw[<-JZ]at h;refine ax<|ah j<|qZ 10 j Z<|bK 11 j kS Z<|aO 12 Z<|fe h 1 [a9,QM,Y b3,Y b7] Z wD Z Z Z Z (h.bW 15 Z).one λw h Nn=>?_;replace j:=bF.step j Nn λ_ o _=>.inr<|o;refine ax<|ah j<|dP<|D ?_;replace h:=((h.sN 18 19 27 ({a5 with regs:=(a5.regs.set (d.a).toNat (⟨2,(O Te:Int)⟩:tp))}) Z Z Z tS tS tS (aM a4).2 c6 Z).pr 1 18).pr 1 19;replace h:=(h.pr 1 15).pr 1 17;exact ls;refine nG<|lB h 7 F8 Z<|aC (qx Z)<|kY kS Z<|lB h 1 wD Z<|aC (nU (N:=cu tp) iN Z (h.cZ 4 Z)<|h.ig 5 Z)<|D ?_;refine eX W Z (λu2 W=>?_) λu2 W=>?_;refine dO (Zs:=(λx=>x=sb)) mixed h λw h=>mJ 0 h 1 7 F8 Z<|mJ 1 h 1 7 F8 Z<|qZ 2 kR Z<|bR λws221 p=>aO 3 Z<|D ?_;refine ah p<|aO 4 Z ?_;replace h:=h.gB 3 10 Z Z tS (aM i).2 g Z;obtain⟨qJ,g7,W⟩:=aR W;refine il hp Z Z (Eg N _ BE (λ_ h=>h.elim) (⟨pW,f.j,f.q,f.bC⟩:Ys) gN l (h.Ke (N:=aS) (R':=jv) 2 3 Z Z tS Z yx) (h.Ke (N:=cu tp) (R':=ui bG) 4 5 Z Z tS Z EF) _ g7) ?_;rintro _ w⟨a8,VC,VD,Yh,Yi,rfl,g2,g6⟩;replace h:=((h.gotCF 28 (C:=(.two (.two (.two (.own aS.raw 111 VC<|aE qJ.i Yh)<|.gK<|bQ bG 147 hn Yh<|bc aS.sub qJ.i)<|.own (cu tp).raw 109 VD<|aE qJ.j Yi) (.gK<|bQ bG 147 hn Yi<|bc (cu tp).sub qJ.j):Chunk)) a8 ⟨⟨⟨an,an⟩,an⟩,an⟩ ⟨⟨⟨(λ_ _ _ _ _ h=>h),(Fa λ_ _ _ _ _ h=>h)⟩,(λ_ _ _ _ _ h=>h)⟩,(Fa λ_ _ _ _ _ h=>h)⟩ g2 g6).un 28 44 Z Z).un 28 39 Z Z;replace h:=h.un 28 45 Z Z;replace p:=p.grow a8
 refine ax<|ah p<|qZ 5 p Z<|aO 6 Z<|jJ (vs:=[VC,VD,Y qJ.q,Y qJ.bC]) h 1 [VC,VD,Y qJ.q,Y qJ.bC] Z dh Z Z Z Z Z ow λw h e2=>?_;replace p:=p.same e2;refine ax<|ah p<|dP<|aL ?_;replace h:=(h.gZ 18).moveC 28 18 Z Z tS;replace h:=(h.gZ 19).moveC 45 19 Z Z tS;replace h:=(h.gZ 15).moveC 39 15 Z Z tS;replace h:=(h.gZ 17).moveC 44 17 Z Z tS;exact ik (VC,Yh,qJ.i,VD,Yi,qJ.j,qJ.q,qJ.bC) ⟨h.cn _,W⟩;refine dn ?_;replace h:=h.gB 3 10 Z Z tS (aM i).2 g Z;refine aL ?_;replace h:=(h.gZ 18).moveC 2 18 Z Z tS;replace h:=(h.gZ 19).moveC 3 19 Z Z tS;replace h:=(h.gZ 15).moveC 4 15 Z Z tS;replace h:=(h.gZ 17).moveC 5 17 Z Z tS;exact ik (gN,sK,pW,l,vN,f.j,f.q,f.bC) ⟨h.cn _,W⟩;refine ib (λv7 W=>?_) λv7 W=>?_;refine iq<|nG<|lB h 7 F8 Z<|aC (qx Z)<|kY jA Z<|lB h 1 q8 Z<|aC (nU (N:=aS) dB Z (h.cZ 2 Z)<|h.ig 3 Z)<|D ?_;refine eX W Z (λx1 W=>?_) λx1 W=>?_;refine D ?_;replace h:=((h.gB 3 10 Z Z tS (aM i).2 g Z).pr 1 2).pr 1 3;replace h:=(h.pr 1 4).pr 1 5;exact ls;refine D ?_;refine dO (Zs:=BE) mixed h λw h=>bK 0 kR pR Z<|zo 1 h 11 bP Z<|bK 2 kR BR Z<|zo 3 h 11 bP Z<|dH 4 kR va Z<|bK 5 kR pR Z<|zo 6 h 11 bP Z ?_;obtain⟨Ll,f5,W⟩:=aR W;obtain⟨m1,m0,k5,h,f4,e5⟩:=h.zR 6 46 jE Z f5;obtain⟨m4,rfl,e8⟩:=lS f4;replace h:=h.aA 49 e8.up;refine rE 7 kR e5 Z (bK 8 kR Iq Z (bA 9 kR Z (λw t=>have h:=h.grow t;ug (k:=1) h 46 Z bP Z Z) ?_));obtain⟨T,W⟩:=cK W;refine bR λi1 X=>gu 10 12 Q Z bu Z bu ?_ ?_;refine Bq (R:=bG) (zs:=[Y 0,Y 0]) (a:=(⟨0,0⟩:tp)) h 12 lF bD Z tS Z Z T Z (λ_ _=>rfl) λw u h UG UH=>?_;have b8:=mf X UH;replace X:=X.grow UG;refine ax<|ah X<|bA 11 X Z (λw t=>lD (pv:=[(0,Y d.b),(3,Y d.a),(2,u)]) (out:=[Y d.b,Y 0,u,Y d.a]) Fe Z ⟨0,1,[Y d.b],Z,Z,Z,gJ Z,⟨3,1,[Y d.a],Z,Z,Z,gJ Z,⟨2,1,[u],Z,bY (h.bW 12 Z).one,Z,gJ Z,Z⟩⟩⟩)<|aO 12 Z<|jS h 21 gG λw Yj h UI UJ=>?_;have UK:i1.heap.size<=Yj:=cN X.size UJ;replace X:=X.grow UI;refine ax<|ah X<|aO 13 Z<|jJ (vs:=[Y d.b,Y 0,u,Y d.a]) h 21 [Y d.b,Y 0,u,Y d.a] Z gG Z Z Z Z Z ow λw h Yk=>?_;replace X:=X.fresh Yk λx o=>o▸UK;refine ax<|ah X<|dP<|D ?_;refine Bh (σ:=H tp) (λV8=>⟨[],[(12,.own bG 147 u V8)],V8⟩) (bw Ll.regs.toNat (⟨0,0⟩:tp)) (inl ([17,18]++rg 236 14)) [1,2,3,4,5,7,16,10,21] h W (h.kC 16 Z).aZ ?_ ?_;rintro V8 k232 t7 x234 nx236 w aU hik e237 y3 n0 h W;refine D ?_;obtain⟨b240,o241,cs242,h,s0,y1⟩:=h.zR 16 47 bS Z<|fE hik n0;obtain rfl:=s0;refine jN y1 Z<|D ?_
 refine oJ 8 mixed Q h λw h=>iE λc0 j9 W=>?_;obtain⟨b247,t3,r4⟩:=h.zO 10 bN Z j9;refine Cn r4 Z ?_;obtain⟨cs249,v1,v0⟩:=h.p9 10 Z t3 (aM j9).2;obtain rfl:=v0;refine eG (iZ (k:=0) (vs:=[Y c0.h,Y c0.n]) v1 bD Z Z Z<|gJ Z) ?_;obtain⟨x252,k0,W⟩:=aR W;obtain⟨b255,v9,s1⟩:=h.zO 12 bN Z k0;refine Cn s1 Z<|wL<|tV (a':=c0) (vs:=[Y c0.h,Y c0.n]) h 12 Z v9 Z (aM k0).2 bD Z Z Z Z Z λw h k257=>re;rintro V8 t7 w aU h W;refine D ?_;refine dO (Zs:=(λb=>ob gN b\/b=sb)) mixed h λw h=>bA 0 kR Z (λw t=>have h:=h.xY 2 1 tS Z Z t;jr h 7 Z F8 Z Z) (bA 1 kR Z (λw t=>have h:=h.xY 2 1 tS Z Z t;jr h 7 Z F8 Z Z) (qZ 2 kR Z (bK 3 kR jA Z (bA 5 kR Z (λw t=>have h:=h.xY 2 1 tS Z Z t;BC h 21 Z gG Z Z Z) ?_))));obtain⟨VE,W⟩:=cK W;refine bR λws266 al=>gu 4 6 Q Z bu Z bu ?_ ?_;refine D ?_;refine ah al<|aO 6 Z ?_;have Yl:(db u)=true:=(h.bW 12 Z).one;refine oI (R:=aS.raw) (vs:=[.agg #[Y d.b,Y 0,u,Y d.a]]) (xs:=aE [(⟨d.b,0,V8,d.a⟩:Ya)] [u]) h 29 mg Z Z Z ⟨⟨Z,Yl⟩,an⟩ Z λw f2 h Ym Yn=>?_;have c9:=mf al Yn;replace al:=al.grow Ym;replace h:=h.xK (N:=aS) 12 (⟨d.b,0,V8,d.a⟩:Ya) Z Z;refine ax<|ah al<|aO 7 Z ?_;replace h:=h.gB 3 10 Z Z tS (aM i).2 g Z;have IG:=h.ig 3 Z;have Np:=h.ig 12 Z;have b9:=al.size;refine jO (R:=aS.raw) (m:=aE [(⟨d.b,0,V8,d.a⟩:Ya)] [u]) h 2 Z (h.cZ 29 Z) mg Z Z Z (by rw[dA IG,dA Np];exact VE.1) (by rw[dA IG,dA Np];exact VE.2) λw y h Yo Yp=>?_;have c3:=uB Yp (al).size;replace al:=bF.step al Yo λ_ o _=>.inl<|o;replace h:=(h.xI 3 12 Z Z tS).gZ 29;rw[xJ IG,<-cY]at h;obtain⟨c7,UL⟩:∃z,z=sK++[u]:=⟨_,Z⟩;rw[<-UL]at h;refine ax<|ah al<|qZ 8 al Z<|bK 9 al jA Z<|aO 10 Z<|fe h 1 [y,l,Y f.q,Y f.bC] Z q8 Z Z Z Z (h.bW 2 Z).one λw h Yq=>?_;replace al:=bF.step al Yq λ_ o _=>.inr<|o;refine ax<|ah al<|dP<|D ?_;replace h:=((h.pr 1 2).pr 1 3).pr 1 4;replace h:=h.pr 1 5;exact ls;have Yl:(db u)=true:=(h.bW 12 Z).one;refine oI (R:=aS.raw) (vs:=[.agg #[Y d.b,Y 0,u,Y d.a]]) (xs:=aE [(⟨d.b,0,V8,d.a⟩:Ya)] [u]) h 29 mg Z Z Z ⟨⟨Z,Yl⟩,an⟩ Z λw f2 h Ym Yn=>?_;have c9:=mf al Yn;replace al:=al.grow Ym;replace h:=h.xK (N:=aS) 12 (⟨d.b,0,V8,d.a⟩:Ya) Z Z;refine ax<|ah al<|aO 4 Z<|D ?_;refine ah al<|aO 7 Z ?_;replace h:=h.gB 3 10 Z Z tS (aM i).2 g Z;have IG:=h.ig 3 Z;have Np:=h.ig 12 Z;have b9:=al.size
 refine jO (R:=aS.raw) (m:=aE [(⟨d.b,0,V8,d.a⟩:Ya)] [u]) h 2 Z (h.cZ 29 Z) mg Z Z Z (by rw[dA IG,dA Np];exact VE.1) (by rw[dA IG,dA Np];exact VE.2) λw y h Yo Yp=>?_;have c3:=uB Yp (al).size;replace al:=bF.step al Yo λ_ o _=>.inl<|o;replace h:=(h.xI 3 12 Z Z tS).gZ 29;rw[xJ IG,<-cY]at h;obtain⟨c7,UL⟩:∃z,z=sK++[u]:=⟨_,Z⟩;rw[<-UL]at h;refine ax<|ah al<|qZ 8 al Z<|bK 9 al jA Z<|aO 10 Z<|fe h 1 [y,l,Y f.q,Y f.bC] Z q8 Z Z Z Z (h.bW 2 Z).one λw h Yq=>?_;replace al:=bF.step al Yq λ_ o _=>.inr<|o;refine ax<|ah al<|dP<|D ?_;replace h:=((h.pr 1 2).pr 1 3).pr 1 4;replace h:=h.pr 1 5;exact ls;refine jS h 21 gG λw Yj h UI UJ=>?_;have UK:i1.heap.size<=Yj:=cN X.size UJ;replace X:=X.grow UI;refine ax<|ah X<|aO 10 Z<|Bq (R:=bG) (zs:=[Y 0,Y 0]) (a:=(⟨0,0⟩:tp)) h 12 lF bD Z tS Z Z T Z (λ_ _=>rfl) λw u h UG UH=>?_;have b8:=mf X UH;replace X:=X.grow UG;refine ax<|ah X<|bA 11 X Z (λw t=>lD (pv:=[(0,Y d.b),(3,Y d.a),(2,u)]) (out:=[Y d.b,Y 0,u,Y d.a]) Fe Z ⟨0,1,[Y d.b],Z,Z,Z,gJ Z,⟨3,1,[Y d.a],Z,Z,Z,gJ Z,⟨2,1,[u],Z,bY (h.bW 12 Z).one,Z,gJ Z,Z⟩⟩⟩)<|aO 13 Z<|jJ (vs:=[Y d.b,Y 0,u,Y d.a]) h 21 [Y d.b,Y 0,u,Y d.a] Z gG Z Z Z Z Z ow λw h Yk=>?_;replace X:=X.fresh Yk λx o=>o▸UK;refine ax<|ah X<|dP<|D ?_;refine Bh (σ:=H tp) (λv=>⟨[],[(12,.own bG 147 u v)],v⟩) (bw Ll.regs.toNat (⟨0,0⟩:tp)) (inl ([17,18]++rg 236 14)) [1,2,3,4,5,7,16,10,21] h W (h.kC 16 Z).aZ ?_ ?_;rintro v k272 r0 x274 nx276 w aU hik e277 y5 l9 h W;refine D ?_;obtain⟨b280,o281,y6,h,s6,p6⟩:=h.zR 16 48 bS Z<|fE hik l9;obtain rfl:=s6;refine jN p6 Z<|D ?_;refine oJ 8 mixed Q h λw h=>iE λd2 j6 W=>?_;obtain⟨b287,o2,r8⟩:=h.zO 10 bN Z j6;refine Cn r8 Z ?_;obtain⟨cs289,s4,q0⟩:=h.p9 10 Z o2 (aM j6).2;obtain rfl:=q0;refine eG (iZ (k:=0) (vs:=[Y d2.h,Y d2.n]) s4 bD Z Z Z<|gJ Z) ?_;obtain⟨x292,l2,W⟩:=aR W;obtain⟨b295,s8,s3⟩:=h.zO 12 bN Z l2;refine Cn s3 Z<|wL<|tV (a':=d2) (vs:=[Y d2.h,Y d2.n]) h 12 Z s8 Z (aM l2).2 bD Z Z Z Z Z λw h k297=>re;rintro v r0 w aU h W;refine D ?_;refine dO (Zs:=(λb=>ob gN b\/b=sb)) mixed h λw h=>bA 0 kR Z (λw t=>have h:=h.xY 2 1 tS Z Z t;jr h 7 Z F8 Z Z) (bA 1 kR Z (λw t=>have h:=h.xY 2 1 tS Z Z t;jr h 7 Z F8 Z Z) (qZ 2 kR Z (bK 3 kR jA Z (bA 5 kR Z (λw t=>have h:=h.xY 2 1 tS Z Z t;BC h 21 Z gG Z Z Z) ?_))));obtain⟨VF,W⟩:=cK W;refine bR λws306 F=>gu 4 6 Q Z bu Z bu ?_ ?_;refine D ?_;refine ah F<|aO 6 Z ?_
 have Yr:(db u)=true:=(h.bW 12 Z).one;refine oI (R:=aS.raw) (vs:=[.agg #[Y d.b,Y 0,u,Y d.a]]) (xs:=aE [(⟨d.b,0,v,d.a⟩:Ya)] [u]) h 30 mg Z Z Z ⟨⟨Z,Yr⟩,an⟩ Z λw f9 h Yt Yu=>?_;have d7:=mf F Yu;replace F:=F.grow Yt;replace h:=h.xK (N:=aS) 12 (⟨d.b,0,v,d.a⟩:Ya) Z Z;refine ax<|ah F<|aO 7 Z ?_;replace h:=h.gB 3 10 Z Z tS (aM i).2 g Z;have II:=h.ig 3 Z;have Nq:=h.ig 12 Z;have d9:=F.size;refine jO (R:=aS.raw) (m:=aE [(⟨d.b,0,v,d.a⟩:Ya)] [u]) h 2 Z (h.cZ 30 Z) mg Z Z Z (by rw[dA II,dA Nq];exact VF.1) (by rw[dA II,dA Nq];exact VF.2) λw aq h Yv Yw=>?_;have c4:=uB Yw (F).size;replace F:=bF.step F Yv λ_ o _=>.inl<|o;replace h:=(h.xI 3 12 Z Z tS).gZ 30;rw[xJ II,<-cY]at h;obtain⟨d0,UM⟩:∃z,z=sK++[u]:=⟨_,Z⟩;rw[<-UM]at h;refine ax<|ah F<|qZ 8 F Z<|bK 9 F jA Z<|aO 10 Z<|fe h 1 [aq,l,Y f.q,Y f.bC] Z q8 Z Z Z Z (h.bW 2 Z).one λw h Yx=>?_;replace F:=bF.step F Yx λ_ o _=>.inr<|o;refine ax<|ah F<|dP<|D ?_;replace h:=((h.pr 1 2).pr 1 3).pr 1 4;replace h:=h.pr 1 5;exact ls;have Yr:(db u)=true:=(h.bW 12 Z).one;refine oI (R:=aS.raw) (vs:=[.agg #[Y d.b,Y 0,u,Y d.a]]) (xs:=aE [(⟨d.b,0,v,d.a⟩:Ya)] [u]) h 30 mg Z Z Z ⟨⟨Z,Yr⟩,an⟩ Z λw f9 h Yt Yu=>?_;have d7:=mf F Yu;replace F:=F.grow Yt;replace h:=h.xK (N:=aS) 12 (⟨d.b,0,v,d.a⟩:Ya) Z Z;refine ax<|ah F<|aO 4 Z<|D ?_;refine ah F<|aO 7 Z ?_;replace h:=h.gB 3 10 Z Z tS (aM i).2 g Z;have II:=h.ig 3 Z;have Nq:=h.ig 12 Z;have d9:=F.size;refine jO (R:=aS.raw) (m:=aE [(⟨d.b,0,v,d.a⟩:Ya)] [u]) h 2 Z (h.cZ 30 Z) mg Z Z Z (by rw[dA II,dA Nq];exact VF.1) (by rw[dA II,dA Nq];exact VF.2) λw aq h Yv Yw=>?_;have c4:=uB Yw (F).size;replace F:=bF.step F Yv λ_ o _=>.inl<|o;replace h:=(h.xI 3 12 Z Z tS).gZ 30;rw[xJ II,<-cY]at h;obtain⟨d0,UM⟩:∃z,z=sK++[u]:=⟨_,Z⟩;rw[<-UM]at h;refine ax<|ah F<|qZ 8 F Z<|bK 9 F jA Z<|aO 10 Z<|fe h 1 [aq,l,Y f.q,Y f.bC] Z q8 Z Z Z Z (h.bW 2 Z).one λw h Yx=>?_;replace F:=bF.step F Yx λ_ o _=>.inr<|o;refine ax<|ah F<|dP<|D ?_;replace h:=((h.pr 1 2).pr 1 3).pr 1 4;replace h:=h.pr 1 5;exact ls;refine ib (λt9 W=>?_) λt9 W=>?_;refine iq<|dO (Zs:=BE) mixed h λw h=>dH 0 kR i9 Z<|bK 1 kR BR Z<|zo 2 h 11 bP Z ?_;obtain⟨yz,a1,W⟩:=aR W;obtain⟨m7,f1,g1⟩:=h.zO 10 bN Z a1;refine rE 3 kR g1 Z ?_;obtain⟨k9,f0,g0⟩:=h.p9 10 Z f1 (aM a1).2;obtain rfl:=g0
 refine bA 4 kR Z (λw t=>have h:=h.grow t;iZ (k:=0) (vs:=[Y yz.h,Y yz.n]) (f0.grow t) bD Z Z Z (gJ Z)) (dH 5 kR (.pointer (U ⟨b6,((O f.i:Int)-1).toNat*4,bd⟩)) Z (qZ 6 kR Z (bK 7 kR Cq Z ?_)));obtain⟨j1,f6,g5⟩:=h.p9 2 Z q7<|fD (aM i).2 g;obtain⟨rfl,-⟩:=g5;refine bA 8 kR Z (λw t=>have h:=h.grow t;jl (k:=3) (f6.grow t) bP Z Z) (bR λl6 s=>aO 9 Z (jS h 40 bD λw e7 h c8 d6=>?_));have e0:l6.heap.size<=e7:=cN s.size d6;replace s:=s.grow c8;refine ax<|ah s<|aO 10 Z<|jJ (vs:=[Y yz.h,Y yz.n]) h 40 [Y yz.h,Y yz.n] Z bD Z Z Z Z Z (bO Z) λw h d3=>?_;replace s:=s.fresh d3 λx o=>o▸e0;refine ax<|ah s<|kD 11 s (Y xL.x) Z<|dP<|D ?_;refine oJ 14 mixed Q h λw h=>D ?_;refine eG (nU (N:=aS) dB Z (h.cZ 2 Z)<|h.ig 3 Z) ?_;obtain⟨a312,W⟩:=cK W;refine iE λx313 w1 W=>?_;obtain⟨e317,z2,l7,m3⟩:=Hw w1;replace h:=h.gB 3 10 Z Z tS (aM i).2 g Z;have h0:=h.ig 3 Z;obtain⟨k6,h,k4⟩:=h.cutO 2 Z dB Z l7 (by rw[dA h0];exact m3);rw[SD]at h;rw[dA h0]at k4;replace h:=h.famTake 3 ((O pW:Int)-1).toNat Z;generalize List.take ((O pW:Int)-1).toNat sK=us318 at h;refine eG (k4 _ _ _ _ _ _ _ _ _ _ Z (.inl ⟨Z,Z⟩)<|.inr<|ZS U Z)<|D ?_;refine wL<|fJ h 1 [k6,l,Y f.q,Y f.bC] Z q8 Z Z Z Z (h.bW 2 Z).one λw h=>nJ<|lB h 7 F8 Z<|aC (qx Z)<|kY jA Z<|lB h 1 q8 Z<|aC (nU (N:=aS) dB Z (h.cZ 2 Z)<|h.ig 3 Z)<|D ?_;refine eX W Z (λs2 W=>?_) λs2 W=>?_;refine D ?_;refine fJ h 1 [k6,l,Y 1,Y f.bC] Z bP Z Z Z Z Z λw h=>D ?_;replace h:=((h.pr 1 2).pr 1 3).pr 1 4;replace h:=h.pr 1 5;exact ls;refine oJ 12 mixed Q h λw h=>D ?_;obtain⟨a320,W⟩:=cK W;refine iE λi7 d5 W=>?_;obtain⟨u326,i3,h⟩:=h.pQ 3 34 i7.regs Z Z tS (aM d5).2 Z;obtain⟨b324,r7,x6⟩:=h.Tn 2 Z dB Z (aM d5).1<|fD (aM d5).2 i3;refine Cn x6 Z<|D ?_;obtain⟨cs328,u6,q4⟩:=h.p9 2 Z r7<|fD (aM d5).2 i3;obtain⟨rfl,-⟩:=q4;refine eG (jl (k:=2) u6 oK Z Z)<|kI Z<|eG (BC h 40 Z bD Z Z Z) ?_;obtain⟨x331,l1,W⟩:=aR W;obtain⟨b334,y0,r2⟩:=h.zO 34 bN Z l1;refine Cn r2 Z<|wL<|tV (a':=yz) (vs:=[Y yz.h,Y yz.n]) h 34 Z y0 Z (aM l1).2 bD Z Z Z Z Z λw h k336=>D ?_;replace h:=((h.sN 2 3 34 ({i7 with regs:=(i7.regs.set (xL.x).toNat yz)}) Z Z Z tS tS tS (aM d5).2 i3 Z).pr 1 2).pr 1 3;replace h:=(h.pr 1 4).pr 1 5;exact ls;refine dX (σ:=YU) h (inl [307,308,309]) [1,2,3,4,5,7,16,11,10] (λi8=>⟨[(307,(.bool<|i8))],[],kE xL d a pW f i8=U r⟩) ?_ ?_;rintro i8 w aU h W;refine eX W Z (λx0 W=>?_) λx0 W=>?_;refine iE λh1 l3 W=>?_
 obtain⟨b342,r3,o4⟩:=h.zO 10 bN Z l3;refine jN o4 Z ?_;obtain⟨z1,s5,r6⟩:=h.p9 10 Z r3 (aM l3).2;obtain rfl:=r6;refine aC (iZ (k:=0) (vs:=[Y h1.h,Y h1.n]) s5 bD Z Z Z<|gJ Z)<|aK h 33 bD λw b347 h=>aW h 33 bD Z (bO Z) λw h=>ib (λo6 W=>?_) λo6 W=>?_;refine D ?_;replace h:=((h.gB 3 10 Z Z tS (aM i).2 g Z).pr 1 2).pr 1 3;replace h:=(h.pr 1 4).pr 1 5;exact ls;refine ib (λn8 W=>?_) λn8 W=>?_;refine D ?_;refine EN [h1.n] h 41 gq Z λw u350 h=>D ?_;replace h:=((h.gB 3 10 Z Z tS (aM i).2 g Z).freeze 41 Z).pr 1 2;replace h:=((h.pr 1 3).pr 1 4).pr 1 5;exact ls;refine D ?_;refine dO (Zs:=(λx=>x=sb)) mixed h λw h=>mJ 0 h 1 7 F8 Z<|mJ 1 h 1 7 F8 Z<|bK 2 kR Jo Z<|mJ 3 h 1 33 bP Z<|qZ 4 kR Z<|bK 5 kR Oq Z<|bR λws355 q=>aO 6 Z<|fe h 1 [gN,l,Y 3,Y f.bC] Z bP Z Z Z Z Z λw h g3=>?_;replace q:=q.same g3;refine ax<|ah q<|qZ 7 q Z<|bK 8 q EJ Z<|aO 9 Z<|fe h 1 [gN,l,Y 3,Y h1.n] Z bP Z Z Z Z Z λw h f3=>?_;replace q:=q.same f3;refine ax<|ah q<|dP<|D ?_;replace h:=((h.gB 3 10 Z Z tS (aM i).2 g Z).pr 1 2).pr 1 3;replace h:=(h.pr 1 4).pr 1 5;exact ls;refine ib (λw3 W=>?_) λw3 W=>?_;refine D ?_;replace h:=((h.gB 3 10 Z Z tS (aM i).2 g Z).pr 1 2).pr 1 3;replace h:=(h.pr 1 4).pr 1 5;exact ls;refine ib (λp7 W=>?_) λp7 W=>?_;refine D ?_;refine Kv (a':=({xL with at_:=d.b},i9)) h 2 Z q7 Z (fD (aM i).2 g) bP Z Z Z Z (by rintro _ ⟨rfl,hq⟩;exact⟨Z,hq⟩) λw h=>?_;rw[PG g]at h;replace h:=h.famL 3 ({xL with at_:=d.b}) Z;refine D ?_;replace h:=((h.gB 3 10 Z Z tS (qa (aM i).2) g Z).pr 1 2).pr 1 3;replace h:=(h.pr 1 4).pr 1 5;exact ls;refine ib (λt4 W=>?_) λt4 W=>?_;refine iE λk2 j7 W=>?_;obtain⟨b363,x4,q5⟩:=h.zO 10 bN Z j7;refine jN q5 Z ?_;obtain⟨cs365,t2,t6⟩:=h.p9 10 Z x4 (aM j7).2;obtain rfl:=t6;refine aC (iZ (k:=0) (vs:=[Y k2.h,Y k2.n]) t2 bD Z Z Z<|gJ Z)<|aK h 35 bD λw b368 h=>aW h 35 bD Z (bO Z) λw h=>ib (λp0 W=>?_) λp0 W=>?_;refine D ?_;refine Kv (a':=({xL with at_:=d.b},i9)) h 2 Z q7 Z (fD (aM i).2 g) bP Z Z Z Z (by rintro _ ⟨rfl,hq⟩;exact⟨Z,hq⟩) λw h=>?_;rw[PG g]at h;replace h:=h.famL 3 ({xL with at_:=d.b}) Z;refine D ?_;replace h:=((h.gB 3 10 Z Z tS (qa (aM i).2) g Z).pr 1 2).pr 1 3;replace h:=(h.pr 1 4).pr 1 5;exact ls;refine D ?_;replace h:=((h.gB 3 10 Z Z tS (aM i).2 g Z).pr 1 2).pr 1 3;replace h:=(h.pr 1 4).pr 1 5;exact ls;refine D ?_;replace h:=((h.gB 3 10 Z Z tS (aM i).2 g Z).pr 1 2).pr 1 3;replace h:=(h.pr 1 4).pr 1 5;exact ls;refine ib (λo5 W=>?_) λo5 W=>?_;exact qe;exact qe;refine D ?_
 obtain⟨cs371,p1,q1⟩:=h.p9 2 Z q7<|fD (aM e4).2 e9;obtain⟨rfl,-⟩:=q1;refine aC (jl (k:=1) p1 bP Z Z)<|sg λW=>?_;refine ib (λn9 W=>?_) λn9 W=>?_;refine D ?_;obtain⟨cs376,x7,t5⟩:=h.p9 2 Z q7<|fD (aM e4).2 e9;obtain⟨rfl,-⟩:=t5;refine aC (jl (k:=1) x7 bP Z Z)<|sg λW=>?_;refine D ?_;refine Kv (a':=({x3 with at_:=(x3.at_+1)},u8)) h 2 Z q7 Z (fD (aM e4).2 e9) bP Z Z Z Z (by rintro _ ⟨rfl,hq⟩;exact⟨Z,hq⟩) λw h=>?_;rw[PG e9]at h;replace h:=h.famL 3 ({x3 with at_:=(x3.at_+1)}) Z;refine ax ?_;replace h:=h.gB 3 8 Z Z tS (qa (aM e4).2) e9 Z;exact qe;refine dn ?_;replace h:=h.gB 3 8 Z Z tS (aM e4).2 e9 Z;exact qe
def tK(N:Nat)(k:H Ya)(l:H (H tp))(f:Int)(d:Int)(g:H Int)(e:Int)(a:H bM)(i:(H Int×Int×H Ya×H (H tp)×Int×Int)->L (Ys×H Int×Int))(j:YU):L (Ys×H Int×Int):=
 bif j then U ((⟨k,l,f,d⟩:Ys),g,e)else Option.bind (qG (⟨k,l,f,d⟩:Ys)) λc=>ao (iF N (⟨k,l,f,d⟩:Ys) a) λb=>bif (!b.2.2.1)then iC (j6 (e+1)) (U ((⟨c.i,c.j,2,c.bC⟩:Ys),g,e+1))else iC (Room 8 g b.1) (bif (b.2.1||G (b.2.2.2.q≠0))then iC (j6 (e+1)) (U (b.2.2.2,g++b.1,e+1))else iC (j6 (e+1)) (i (g++b.1,e+1,b.2.2.2.i,b.2.2.2.j,b.2.2.2.q,b.2.2.2.bC)))
def tL(N:Nat)(c:Int)(a:H bM)(s:H Int×Int×H Ya×H (H tp)×Int×Int)(b:H Int×Int×H Ya×H (H tp)×Int×Int->L (Ys×H Int×Int)):L (Ys×H Int×Int):=
 match s with|(VG,OT,Em,WA,y54,y55)=>bif G (OT<c)then iC (j6 ((O Em:Int)-1)) (ao (vx Em ((O Em:Int)-1)) λf=>bif G ((O VG:Int)=40)then Option.bind (vx a f.F) λd=>ao (vx d.C f.at_) λe=>tK N Em WA y54 y55 VG OT a b (G (e.op=9))else tK N Em WA y54 y55 VG OT a b aw)else U ((⟨Em,WA,y54,y55⟩:Ys),VG,c)
def yQ(N:Nat)(a:H bM)(b:Ys)(c:Int):L (Ys×H Int×Int):=
 ao (qG b) λd=>again (tL N c a) N ([],0,d.i,d.j,d.q,d.bC)
theorem V9(N:Nat)(I:ay)(M:BS)(hM:lg M I)(va:B)(a:H bM)(ha:bX iO I M va a)(b:Ys)(q u:B)(d1:ek jv I BE M q b.i)(c3:ek (ui bG) I BE M u b.j)(c:Int)(r:Ys×H Int×Int)(W:yQ N a b c=U r):
  bp prog 62 #[va,.agg #[q,u,Y b.q,Y b.bC],Y c] I (λe w'=>Grow I w'/\∃oH,∃oQ,∃u1,e=.returned (.tuple #[.agg #[oH,oQ,.int .i64 r.1.q,.int .i64 r.1.bC],u1,.int .i64 r.2.2])/\bX jv w' (λb=>M b\/ob u1 b) oH r.1.i/\bX (ui bG) w' (λb=>M b\/ob u1 b) oQ r.1.j/\dz dL 3 w' M u1 r.2.1/\(∀b,ob u1 b->I.heap.size<=b)):=by
 refine xF func62 ntmps62 Z ?_;have h:=SH.init hM;replace h:=((h.xR 1 ha aG).bV 2 d1<|jk aG).bV 3 c3<|aQ<|jk aG;have qm:=ha.aZ;refine D ?_;refine fT (cs:=[q,u,Y b.q,Y b.bC]) h 4 Z Z λw b1 h=>aK h 5 dh λw b2 h=>iE λv e4 W=>?_;refine il hp Z Z (AP _ _ h.lt b q u (h.gW 2 Z) (h.gW 3 Z) _ e4) ?_;rintro _ w⟨d7,u5,u7,ab,K,rfl,h9,c7⟩;replace h:=((h.gotC 6 (C:=(.two (.two (.two (.own aS.raw 111 u5<|aE v.i ab)<|.gK<|bQ bG 147 hn ab<|bc aS.sub v.i)<|.own (cu tp).raw 109 u7<|aE v.j K) (.gK<|bQ bG 147 hn K<|bc (cu tp).sub v.j):Chunk)) d7 ⟨⟨⟨an,an⟩,an⟩,an⟩ h9 c7).un 6 9 Z Z).un 6 8 Z Z;replace h:=h.un 6 7 Z Z;refine aW h 4 dh Z ow λw h=>D ?_;replace h:=h.xX (R:=dL) (E:=3) 10;refine F5 (σ:=B×H Int×Int×B×H B×H Ya×B×H B×H (H tp)×Int×Int) (λ⟨o,S,F,i,f,z,j,l,w0,d,g⟩=>⟨[(9,o),(10,Y F)],[(4,.blk b1 [i,j,Y d,Y g]),(6,.own aS.raw 111 i<|aE z f),(7,.gK<|bQ bG 147 hn f<|bc aS.sub z),(8,.own (cu tp).raw 109 j<|aE w0 l),(9,.gK<|bQ bG 147 hn l<|bc (cu tp).sub w0),(10,.own dL 3 o S)],(S,F,z,w0,d,g)⟩) (nS,[],0,u5,ab,v.i,u7,K,v.j,v.q,v.bC) (inl<|rg 7 9++rg 18 61) [1,5] h W ?_;rintro⟨o,S,F,i,f,z,j,l,w0,d,g⟩a8 w aU h W;refine ib (λc1 W=>?_) λc1 W=>?_;refine dn<|bB<|iq<|jC<|nG<|kY jA Z<|lB h 4 q8 Z<|kY jA Z<|lB h 4 q8 Z<|aC (nU (N:=aS) dB Z (h.cZ 6 Z)<|h.ig 7 Z) ?_;obtain⟨f1,W⟩:=cK W;refine iE λt p W=>?_;obtain⟨c2,s,h⟩:=h.pQ 7 14 t.regs Z Z tS (aM p).2 Z;obtain⟨f5,b9,d8⟩:=h.Tn 6 Z dB Z (aM p).1<|fD (aM p).2 s;refine jN d8 Z ?_;obtain⟨e3,d6,d5⟩:=h.p9 6 Z b9<|fD (aM p).2 s;obtain⟨rfl,-⟩:=d5;refine aC (iZ (k:=0) (vs:=[Y t.F,Y t.at_,c2,Y t.x]) d6 gG Z Z Z<|gJ Z)<|aK h 15 gG λw f4 h=>aW h 15 gG Z ow λw h=>nN<|iq<|dX (σ:=YU) h (inl<|rg 31 17) [1,4,5,6,8,9,10] (λsc=>⟨[(47,(.bool<|sc))],[(7,.gK<|bQ bG 147 hn f<|bc aS.sub z)],tK N z w0 d g S F a a8 sc=U r⟩) ?_ ?_;rintro sc w aU h W;refine eX W Z (λd0 W=>?_) λd0 W=>?_;refine D ?_;refine aW h 5 dh Z ow λw h=>D ?_;refine KJ (vs:=[i,j,Y d,Y g]) (v2:=o) (v3:=Y F) results62 Z Z Z h 5 Z dh Z ?_;replace h:=(h.yB (N:=aS) (R':=jv) 6 7 Z Z tS Z yx).yB (N:=cu tp) (R':=ui bG) 8 9 Z Z tS Z EF;cases W;exact⟨h.grown,_,_,_,Z,h.zI 6 10 Z Z,h.zI 8 10 Z Z,(h.kL 10 Z).1,(h.kL 10 Z).2⟩;refine iE λn d9 W=>?_;refine il hp Z Z (AP _ BE (λ_ h=>h.elim) (⟨z,w0,d,g⟩:Ys) i j (h.Ke (N:=aS) (R':=jv) 6 7 Z Z tS Z yx) (h.Ke (N:=cu tp) (R':=ui bG) 8 9 Z Z tS Z EF) _ d9) ?_
 rintro _ w⟨d2,Zs,P,y,al,rfl,c8,c0⟩;replace h:=((h.gotCF 11 (C:=(.two (.two (.two (.own aS.raw 111 Zs<|aE n.i y)<|.gK<|bQ bG 147 hn y<|bc aS.sub n.i)<|.own (cu tp).raw 109 P<|aE n.j al) (.gK<|bQ bG 147 hn al<|bc (cu tp).sub n.j):Chunk)) d2 ⟨⟨⟨an,an⟩,an⟩,an⟩ ⟨⟨⟨(λ_ _ _ _ _ h=>h),(Fa λ_ _ _ _ _ h=>h)⟩,(λ_ _ _ _ _ h=>h)⟩,(Fa λ_ _ _ _ _ h=>h)⟩ c8 c0).un 11 19 Z Z).un 11 12 Z Z;replace h:=h.un 11 21 Z Z;refine aK h 17 dh λw f3 h=>aW h 17 dh Z ow λw h=>D ?_;replace h:=((h.pr 4 6).pr 4 7).pr 4 8;replace h:=h.pr 4 9;obtain⟨a7,b0,a5⟩:=h.iw 4 ⟨⟨⟨⟨an,an⟩,an⟩,an⟩,an⟩;obtain⟨x,c6,W⟩:=aR W;refine il hp Z Z (Tf N _ _ a5 b1 (⟨z,w0,d,g⟩:Ys) i j f l a7 b0 va a (h.wB 4 1 Z Z) _ c6) ?_;rintro _ w⟨e0,f2,b4,a9,b5,a2,rfl,d3,d4,c4⟩;replace h:=((h.jR 4 d3 ⟨⟨⟨⟨an,an⟩,an⟩,an⟩,an⟩ e0 d4).aA 22<|gV c4).un 4 9 Z Z;replace h:=((h.un 4 8 Z Z).un 4 7 Z Z).un 4 6 Z Z;refine ib (λX W=>?_) λX W=>?_;refine D ?_;refine fJ h 17 [Zs,P,Y 2,Y n.bC] Z bP Z Z Z Z Z λw h=>sg λW=>?_;refine aW h 5 dh Z ow λw h=>D ?_;refine KJ (vs:=[Zs,P,Y 2,Y n.bC]) (v2:=o) (v3:=Y (F+1)) results62 Z Z Z h 5 Z dh Z ?_;replace h:=(h.yB (N:=aS) (R':=jv) 11 21 Z Z tS Z yx).yB (N:=cu tp) (R':=ui bG) 12 19 Z Z tS Z EF;cases W;exact⟨h.grown,_,_,_,Z,h.zI 11 10 Z Z,h.zI 12 10 Z Z,(h.kL 10 Z).1,(h.kL 10 Z).2⟩;refine D ?_;obtain⟨aq,W⟩:=cK W;refine jm (R:=dL) (m:=x.1) h 10 Z (h.kC 22 Z) gq Z Z Z aq.1 aq.2 λw A h=>ib (λa1 W=>?_) λa1 W=>?_;refine sg λW=>?_;refine aW h 5 dh Z ow λw h=>D ?_;refine KJ (vs:=[b4,a9,Y x.2.2.2.q,Y x.2.2.2.bC]) (v2:=A) (v3:=Y (F+1)) results62 Z Z Z h 5 Z dh Z ?_;replace h:=(h.yB (N:=aS) (R':=jv) 6 7 Z Z tS Z yx).yB (N:=cu tp) (R':=ui bG) 8 9 Z Z tS Z EF;cases W;exact⟨h.grown,_,_,_,Z,h.zI 6 10 Z Z,h.zI 8 10 Z Z,(h.kL 10 Z).1,(h.kL 10 Z).2⟩;refine sg λW=>?_;refine aI Z<|ax<|aL ?_;exact gend (A,S++x.1,F+1,b4,b5,x.2.2.2.i,a9,a2,x.2.2.2.j,x.2.2.2.q,x.2.2.2.bC) ⟨h.cn _,W⟩;refine nT mixed Q h λw h=>D ?_;refine eG (sH bS Z<|h.cZ 10 Z)<|D ?_;refine fV (b:=G ((O S:Int)=40)) W (λa4 W=>?_) λa4 W=>?_;refine iE λe1 a0 W=>?_;obtain⟨e5,e7,c9,h,a6,b3⟩:=h.zR 1 23 jE Z a0;obtain⟨f0,rfl,T⟩:=lS a6;replace h:=h.aA 24 T.up;refine Cn b3 Z<|iE λe9 b7 W=>?_;obtain⟨e8,e2,c5,h,a3,b6⟩:=h.zR 24 25 oL Z b7;obtain⟨e6,rfl,b8⟩:=zM a3;replace h:=h.aA 26 b8.up;refine Cn b6 Z<|D ?_;replace h:=h.gB 7 14 Z Z tS (aM p).2 s Z;exact qe
 refine D ?_;replace h:=h.gB 7 14 Z Z tS (aM p).2 s Z;exact qe;refine D ?_;refine aW h 5 dh Z ow λw h=>D ?_;refine KJ (vs:=[i,j,Y d,Y g]) (v2:=o) (v3:=Y c) results62 Z Z Z h 5 Z dh Z ?_;replace h:=(h.yB (N:=aS) (R':=jv) 6 7 Z Z tS Z yx).yB (N:=cu tp) (R':=ui bG) 8 9 Z Z tS Z EF;cases W;exact⟨h.grown,_,_,_,Z,h.zI 6 10 Z Z,h.zI 8 10 Z Z,(h.kL 10 Z).1,(h.kL 10 Z).2⟩
def um(a:aH)(e:H dJ)(g:dJ)(f:Co)(c:Unit->L (aH×Int))(d:YU):L (aH×Int):=
 bif d then Option.bind (kW (⟨a.r,([]:H dD)++a.m,e⟩:aH) g.x (⟨5,f.y,f.k,0,[],[]⟩:vA)) λb=>bif G (b.1≠0)then U ((⟨[],[],[]⟩:aH),b.1)else U (b.2,0)else c ()
def zi(e:dJ)(a:aH)(d:H dJ)(c:Co)(s:Unit)(b:Unit->L (aH×Int)):L (aH×Int):=
 bif G (c.y=e.t)then iC (j6 (c.k+1)) (um a d e c b (G ((c.k+1)=e.k)&&G (c.E=e.from_)))else um a d e c b aw
def EB(a:aH)(b:H dJ)(s:Unit):L (aH×Int):=
 U ((⟨a.r,([]:H dD)++a.m,b⟩:aH),0)
def uo(b:H bM)(c:H dD)(a:H dJ):L (aH×Int):=
 U ((⟨b,c,a⟩:aH),0)
def uq(b:dJ)(c:H bM)(d:H dD)(a:H dJ):L (aH×Int):=
 bif G ((O a:Int)<40)then iC (Room 64 a [(⟨b.x,b.from_,b.t,b.k,bh,[]⟩:dJ)]) (uo c d (a++[(⟨b.x,b.from_,b.t,b.k,bh,[]⟩:dJ)]))else uo c d a
def zk(d:dJ)(a:vA)(c:YU)(b:YU->L (aH×Int)):L (aH×Int):=
 b (c||((G (a.h=4)&&G (a.t=d.t))&&G (d.k<=a.k)))
def zl(a:aH)(d:H dJ)(c:dJ)(e:YU):L (aH×Int):=
 bif (!e)then Option.bind (kW (⟨a.r,([]:H dD)++a.m,d⟩:aH) c.x (⟨4,c.t,c.k,0,[],c.u⟩:vA)) λb=>bif G (b.1≠0)then U ((⟨[],[],[]⟩:aH),b.1)else uq c b.2.r b.2.m b.2.s else uq c a.r (([]:H dD)++a.m) d
def lC(b:mQ)(a:aH)(d:dJ)(c:H dJ):L (aH×Int):=
 bif G (b.h=6)then U ((⟨a.r,([]:H dD)++a.m,c⟩:aH),0)else Option.bind (vx (([]:H dD)++a.m) d.x) λe=>bif (!e.up)then U ((⟨[],[],[]⟩:aH),7)else bif d.G then vq (zi d a c) (EB a c) e.D ()else Option.bind (jh (⟨e.B,e.z⟩:gz)) λf=>vq (zk d) (zl a c d) f.2 aw
def D5(N:Nat)(e:H Co×Int)(a:aH)(d:Int)(c:Int)(b:Int->L (aH×Int)):L (aH×Int):=
 ao (vx e.1 d) λg=>bif G (c=0)then Option.bind (j4 N a.r g.u) λf=>b f.2 else b c
def D6(a:aH)(b:mQ)(e:H Co×Int)(d:gz×H vA)(c:Int):L (aH×Int):=
 bif G (c≠0)then U ((⟨[],[],[]⟩:aH),c)else U ((⟨a.r,(([]:H dD)++a.m).set (b.o).toNat (⟨e.1,d.1.B,d.1.z,bh⟩:dD),([]:H dJ)++a.s⟩:aH),0)
def pF(N:Nat)(a:aH)(b:mQ)(e:YU):L (aH×Int):=
 bif e then U ((⟨[],[],[]⟩:aH),6)else Option.bind (vx a.r 0) λd=>iC (0<=d.regs/\d.regs*16<=140737488355328) (ao (xG N (⟨[(⟨0,0,bw d.regs.toNat (⟨0,0⟩:tp),0⟩:Ya)],[],0,0⟩:Ys)) λc=>ao (kW (⟨a.r,([]:H dD)++a.m,([]:H dJ)++a.s⟩:aH) b.o (⟨1,b.t,1,0,[],c⟩:vA)) λf=>bif G (f.1≠0)then U ((⟨[],[],[]⟩:aH),f.1)else U (f.2,0))
def D7(N:Nat)(e:gz×H vA)(a:aH)(b:mQ)(c:Int)(s:Unit)(d:Unit->L (aH×Int)):L (aH×Int):=
 ao (vx e.2 c) λf=>bif G (f.h=1)then pF N a b (G (0<=c))else d ()
def D8(N:Nat)(a:aH)(b:mQ)(s:Unit):L (aH×Int):=
 pF N a b aw
def sQ(a:aH)(b:H dJ):L (aH×Int):=
 U ((⟨a.r,([]:H dD)++a.m,b⟩:aH),0)
def yn(b:mQ)(a:aH)(e:H UInt8)(d:H UInt8)(c:Int):L (aH×Int):=
 bif G (c≠0)then U ((⟨[],[],[]⟩:aH),c)else Option.bind (sub? d 0 (min (max b.n 0) (O d:Int))) λf=>U ((⟨a.r,(([]:H dD)++a.m).set (b.o).toNat (⟨[],e,f,aw⟩:dD),([]:H dJ)++a.s⟩:aH),0)
def pG(b:Int×aH)(a:H dJ):L (aH×Int):=
 U ((⟨b.2.r,b.2.m,a⟩:aH),0)
def pI(b:mQ)(k:dD)(d:Co)(a:aH)(c:Int)(i:Int)(f:H Int)(e:H Int):L (aH×Int):=
 bif G (b.h=9)then Option.bind (qz k.D (⟨c,d.y,d.k,i,f,e⟩:vA)) λl=>bif G (l.2≠0)then U ((⟨[],[],[]⟩:aH),l.2)else Option.bind (si (⟨k.B,k.z⟩:gz) (⟨c,d.y,d.k,i,f,e⟩:vA)) λj=>yn b a j.1.B j.1.z j.2 else Option.bind (kW (⟨a.r,([]:H dD)++a.m,([]:H dJ)++a.s⟩:aH) b.o (⟨c,d.y,d.k,i,f,e⟩:vA)) λg=>bif G (g.1≠0)then U ((⟨[],[],[]⟩:aH),g.1)else bif G (c=3)then iC (j6 (d.k+1)) (bif G ((O g.2.s:Int)<40)then iC (Room 64 g.2.s [(⟨b.o,i,d.y,d.k+1,aw,d.u⟩:dJ)]) (pG g (g.2.s++[(⟨b.o,i,d.y,d.k+1,aw,d.u⟩:dJ)]))else pG g g.2.s)else pG g g.2.s
def pJ(N:Nat)(a:aH)(i:Ys×Int)(e:Int)(b:mQ)(k:dD)(j:Co)(d:Int)(f:Int):L (aH×Int):=
 bif G (d≠0)then U ((⟨[],[],[]⟩:aH),7)else Option.bind (yQ N a.r (⟨i.1.i,i.1.j,d,f⟩:Ys) e) λc=>ao (xG N c.1) λg=>pI b k j a 2 0 c.2.1 g
def pK(N:Nat)(e:Co)(a:aH)(b:mQ)(f:dD)(c:Int):L (aH×Int):=
 bif (!(aN c 1 2000))then U ((⟨[],[],[]⟩:aH),3)else bif G (e.E≠ -1)then U ((⟨[],[],[]⟩:aH),7)else Option.bind (j4 N a.r e.u) λd=>bif ((G (d.1.q=3)&&G (d.1.bC≠b.o))&&(aJ d.1.bC 3))then pI b f e a 3 d.1.bC [] []else bif G (d.1.q=3)then pJ N a d c b f e 0 0 else pJ N a d c b f e d.1.q d.1.bC
def mq(N:Nat)(e:dD)(b:mQ)(a:aH)(d:Int):L (aH×Int):=
 bif G (d<0)then U ((⟨[],[],[]⟩:aH),5)else Option.bind (vx e.D d) λc=>bif G (b.h=3)then bif G (c.E= -1)then U ((⟨[],[],[]⟩:aH),7)else iC (j6 (c.k+1)) (bif G ((O (([]:H dJ)++a.s):Int)<40)then iC (Room 64 (([]:H dJ)++a.s) [(⟨b.o,c.E,c.y,c.k+1,aw,c.u⟩:dJ)]) (sQ a ((([]:H dJ)++a.s)++[(⟨b.o,c.E,c.y,c.k+1,aw,c.u⟩:dJ)]))else sQ a (([]:H dJ)++a.s))else bif G (b.h=2)then pK N c a b e b.n else pK N c a b e 2000
def D9(N:Nat)(f:dD)(b:mQ)(a:aH)(c:Int)(s:Unit)(d:Unit->L (aH×Int)):L (aH×Int):=
 ao (vx f.D c) λe=>bif G (e.y=b.t)then mq N f b a c else d ()
def Ea(N:Nat)(c:dD)(b:mQ)(a:aH)(s:Unit):L (aH×Int):=
 mq N c b a (-1)
def j5(N:Nat)(b:mQ)(a:aH)(j:YU):L (aH×Int):=
 bif j then bif (!(aJ b.n (O (([]:H dJ)++a.s):Int)))then U ((⟨[],[],[]⟩:aH),5)else Option.bind (vx (([]:H dJ)++a.s) b.n) λg=>bif G (b.h≠5)then iC (j6 (b.n+1)) (ao (sub? (([]:H dJ)++a.s) 0 b.n) λk=>ao (sub? (([]:H dJ)++a.s) (b.n+1) (O (([]:H dJ)++a.s):Int)) λi=>ao (xD [k,i]) λl=>lC b a g l)else lC b a g (([]:H dJ)++a.s)else bif (!(aN b.h 1 9))then U ((⟨[],[],[]⟩:aH),4)else bif (!(aJ b.o 3))then U ((⟨[],[],[]⟩:aH),5)else Option.bind (vx (([]:H dD)++a.m) b.o) λd=>bif (d.up==G (b.h=8))then U ((⟨[],[],[]⟩:aH),7)else bif G (b.h=8)then Option.bind (jh (⟨d.B,d.z⟩:gz)) λf=>ao (uK f.2) λc=>Ax (D5 N c a) (D6 a b c f) 0 ((O c.1:Int)).toNat c.2 else bif G (b.h=7)then U ((⟨a.r,(([]:H dD)++a.m).set (b.o).toNat (⟨[],d.B,d.z,aw⟩:dD),([]:H dJ)++a.s⟩:aH),0)else bif G (b.h=1)then bif G (b.t≠b.o)then U ((⟨[],[],[]⟩:aH),5)else Option.bind (jh (⟨d.B,d.z⟩:gz)) λe=>Ax (D7 N e a b) (D8 N a b) 0 ((O e.2:Int)).toNat ()else Ax (D9 N d b a) (Ea N d b a) 0 ((O d.D:Int)).toNat ()
def Aj(N:Nat)(b:mQ)(a:aH):L (aH×Int):=
 bif G (b.h=4)then j5 N b a (G (b.h=4))else bif G (b.h=5)then j5 N b a (G (b.h=5))else j5 N b a (G (b.h=6))
def qK(N:Nat)(a:aH)(b:mQ):L (aH×Int):=
 iC (Room 80 ([]:H dD) a.m) (iC (Room 64 ([]:H dJ) a.s) (Aj N b a))
end
open Go Go.Proofs Go.LX Tryz
noncomputable section
theorem Sa(N:Nat)(I:ay)(M:BS)(hM:lg M I)(hT:ql prog 4 I)(a:aH)(aq ma yU:B)(ha0:bX iO I M aq a.r)(ha1:ek iV I BE M ma a.m)(ha2:ek fK I BE M yU a.s)(b:mQ)(r:aH×Int)(W:qK N a b=U r):
  bp prog 14 #[.agg #[aq,ma,yU],.agg #[Y b.h,Y b.o,Y b.t,Y b.n]] I (λe w'=>Grow I w'/\∃oH,∃oQ,∃k2,e=.returned (.tuple #[.agg #[oH,oQ,k2],.int .i64 r.2])/\bX iO w' M oH r.1.r/\bX iV w' M oQ r.1.m/\bX fK w' M k2 r.1.s):=by
 refine xF func14 ntmps14 Z ?_;have h:=SH.init hM;replace h:=((h.xR 1 ha0 aG).bV 2 ha1<|jk aG).bV 3 ha2<|aQ<|jk aG;refine D ?_;refine fT (cs:=[aq,ma,yU]) h 4 Z Z λw b1 h=>fT (cs:=[Y b.h,Y b.o,Y b.t,Y b.n]) h 5 Z Z λw b2 h=>aK h 6 bL λw b3 h=>D ?_;refine aK h 7 bL λw S h=>aW h 7 bL Z ow λw h=>nN<|dX (σ:=B×B) h (inl<|rg 42 10) [1,5,6] (λ⟨X,v6⟩=>⟨[],[(7,.blk S [aq,X,v6]),(8,.own iV 40 X (([]:H dD)++a.m)),(9,.own fK 83 v6 (([]:H dJ)++a.s))],Aj N b a=U r⟩) ?_ ?_;rintro⟨X,v6⟩w aU h W;refine D ?_;refine aC (mY (c1:=[]) (c2:=[pT S]) Z Z)<|D ?_;refine aC (mY (c1:=[]) (c2:=[pT S]) Z Z)<|aV (.func (.func 53) #[] #[pT S]) Z<|nK<|kY Fld28x0 Z<|lB h 5 bP Z<|nN<|jC<|dX (σ:=YU) h (inl [56,57,58,59]) [1,5,6,7,8,9] (λx7=>⟨[(56,(.bool<|x7))],[],j5 N b a x7=U r⟩) ?_ ?_;rintro x7 w aU h W;refine eX W Z (λc8 W=>?_) λc8 W=>?_;refine D ?_;refine bg h hp Z Z (iP _ _ h.lt b.n (O (([]:H dJ)++a.s):Int) _ Z) λw h=>ib (λc10 W=>?_) λc10 W=>?_;refine D ?_;refine di (args:=[Y 5]) hp Z Z<|xF func51 ntmps51 Z<|D ?_;refine aK h 53 bL λw b11 h=>D ?_;refine iW mZ Z eu<|mI Z<|aW h 53 bL Z (bO Z) λw h=>D ?_;refine gy (v2:=Y 5) results51 Z Z h 53 Z bL Z (⟨_,Z,?_⟩);refine D ?_;refine aW h 6 bL Z (bO Z) λw h=>D ?_;refine gy (v2:=Y 5) results14 Z Z h 6 Z bL Z ?_;cases W;exact⟨h.grown,_,_,_,Z,ek.nil,ek.nil,ek.nil⟩;refine iE λg e13 W=>?_;obtain⟨b15,q16,i14⟩:=h.zO 9 jF Z e13;refine jN i14 Z ?_;obtain⟨cs17,m18,r19⟩:=h.p9 9 Z q16 (aM e13).2;obtain⟨x1,rfl,g21⟩:=yX r19;replace h:=h.aA 19 g21;refine aC (iZ (k:=0) (vs:=[Y g.from_,Y g.x,Y g.t,Y g.k,(.bool<|g.G),x1]) m18 nz Z Z Z<|gJ Z)<|aK h 11 nz λw b22 h=>aW h 11 nz Z ow λw h=>nN<|dX (σ:=B×H dJ) h (inl<|rg 77 17) [1,5,6,8,19,11] (λ⟨b5,c3⟩=>⟨[],[(7,.blk S [aq,X,b5]),(10,.own fK 83 b5 c3)],lC b a g c3=U r⟩) ?_ ?_;rintro⟨b5,c3⟩w aU h W;refine ib (λc25 W=>?_) λc25 W=>?_;refine D ?_;refine aW h 6 bL Z ow λw h=>D ?_;refine gy (v2:=Y 0) results14 Z Z h 6 Z bL Z ?_;replace h:=(h.freeze 8 Z).freeze 10 Z;cases W;exact⟨h.grown,_,_,_,Z,h.lH 1 Z,h.lH 8 Z,h.lH 10 Z⟩;refine iE λSv z6 W=>?_;obtain⟨b29,q30,i28⟩:=h.zO 8 gT Z z6;refine jN i28 Z ?_;obtain⟨cs31,m32,r33⟩:=h.p9 8 Z q30 (aM z6).2;obtain⟨u34,u36,u38,rfl,g35,g37,g39⟩:=fM r33;replace h:=((h.aA 24 g35).aA 54 g37.up).aA 55 g39.up.up;refine aC (iZ (k:=0) (vs:=[u34,u36,u38,(.bool<|Sv.up)]) m32 qd Z Z Z<|gJ Z)<|aK h 32 qd λw b40 h=>aW h 32 qd Z ow λw h=>ib (λc41 W=>?_) λc41 W=>?_;refine D ?_
 refine di (args:=[Y 7]) hp Z Z<|xF func51 ntmps51 Z<|D ?_;refine aK h 65 bL λw b42 h=>D ?_;refine iW mZ Z eu<|mI Z<|aW h 65 bL Z (bO Z) λw h=>D ?_;refine gy (v2:=Y 7) results51 Z Z h 65 Z bL Z (⟨_,Z,?_⟩);refine D ?_;refine aW h 6 bL Z (bO Z) λw h=>D ?_;refine gy (v2:=Y 7) results14 Z Z h 6 Z bL Z ?_;cases W;exact⟨h.grown,_,_,_,Z,ek.nil,ek.nil,ek.nil⟩;refine ib (λc43 W=>?_) λc43 W=>?_;refine D ?_;refine kN (σ:=Unit) (λ_=>⟨[],[],()⟩) () (inl ([5,13]++rg 116 37)) [1,6,7,8,19,11,10,24] h W (h.kC 24 Z).aZ ?_ ?_;rintro _ k44 i45 VG nx48 w aU hik e49 e50r e50a h W;refine D ?_;obtain⟨b52,o53,cs54,h,r55,i51⟩:=h.zR 24 100 dZ Z<|fE hik e50a;obtain⟨u56,rfl,g57⟩:=jQ r55;replace h:=h.aA 66 g57.up;refine jN i51 Z<|D ?_;refine aK h 23 lU λw b58 h=>aW h 23 lU Z ow λw h=>nN<|dX (σ:=YU) h (inl<|rg 120 20) [1,6,7,8,19,11,10,24,66,23] (λm7=>⟨[(139,(.bool<|m7))],[],um a c3 g VG nx48 m7=U r⟩) ?_ ?_;rintro m7 w aU h W;refine eX W Z (λc60 W=>?_) λc60 W=>?_;refine D ?_;refine iW oM Z (bO Z) ?_;replace h:=(h.pr 7 8).pr 7 10;obtain⟨z9,l61b,q5⟩:=h.iw 7 ⟨⟨an,an⟩,an⟩;obtain⟨l8,e63,W⟩:=aR W;refine il hp Z Z (zG _ _ q5 (hT.go h.keep) S (⟨a.r,([]:H dD)++a.m,c3⟩:aH) aq X b5 z9 l61b (h.wB 7 1 Z Z) g.x (⟨5,VG.y,VG.k,0,[],[]⟩:vA) nS nS ek.nil ek.nil (h.Az hT (λ_ h=>h.elim) 7 (C:=(.two (.two (.blk S [aq,X,b5])<|.own iV 40 X (([]:H dD)++a.m)) (.own fK 83 b5 c3):Chunk)) Z) _ e63) ?_;rintro _ w⟨k68,u64,u66,u67,rfl,h69,h70,g65⟩;replace h:=((h.jR 7 h69 ⟨⟨an,an⟩,an⟩ k68 h70).aA 37<|gV g65).un 7 10 Z Z;replace h:=h.un 7 8 Z Z;refine di (args:=[Y l8.1,pT S]) hp Z Z<|xF func52 ntmps52 Z<|D ?_;refine aK h 33 bL λw b71 h=>ib (λc72 W=>?_) λc72 W=>?_;refine D ?_;refine iW mZ Z eu<|mI Z<|aW h 33 bL Z (bO Z) λw h=>D ?_;refine gy (v2:=Y l8.1) results52 Z Z h 33 Z bL Z (⟨_,Z,?_⟩);refine D ?_;refine aW h 6 bL Z (bO Z) λw h=>D ?_;refine gy (v2:=Y l8.1) results14 Z Z h 6 Z bL Z ?_;cases W;exact⟨h.grown,_,_,_,Z,ek.nil,ek.nil,ek.nil⟩;refine D ?_;refine aW h 33 bL Z ow λw h=>D ?_;refine gy (v2:=Y 0) results52 Z Z h 33 Z bL Z (⟨_,Z,?_⟩);refine D ?_;refine aW h 6 bL Z ow λw h=>D ?_;refine gy (v2:=Y 0) results14 Z Z h 6 Z bL Z ?_;replace h:=(h.freeze 8 Z).freeze 10 Z;cases W;exact⟨h.grown,_,_,_,Z,h.lH 37 Z,h.lH 8 Z,h.lH 10 Z⟩;exact re;refine gP<|kY Zn Z<|lB h 23 bP Z<|kY Fld83x2 Z<|lB h 11 bP Z<|Ej Z<|mB Z<|fV (b:=decide<|VG.y=g.t) W (λc5 W=>?_) λc5 W=>?_;refine oN c5 Z<|kY Zo Z<|oN c5 Z<|lB h 23 bP Z<|oN c5 Z ?_;obtain⟨a74,W⟩:=cK W
 refine qadd Z a74<|oN c5 Z<|kY Fld83x3 Z<|oN c5 Z<|lB h 11 bP Z<|oN c5 Z<|Ej Z<|S8 c5 Z<|mB Z<|NL Vi Z<|NK h 23 bP Z<|NL Fld83x0 Z<|NK h 11 bP Z<|cO Z Z (λq=>uQ (iY q)<|iY q)<|aC (tO Z Z Pp)<|ax<|aL ?_;exact ik (G ((VG.k+1)=g.k)&&G (VG.E=g.from_)) ⟨h.cn _,W⟩;refine D ?_;refine aC (je (b:=aw) (v:=(.bool<|false)) Z Z)<|qe;rintro _ i45 w aU h W;refine D ?_;refine aW h 6 bL Z ow λw h=>D ?_;refine gy (v2:=Y 0) results14 Z Z h 6 Z bL Z ?_;replace h:=(h.freeze 8 Z).freeze 10 Z;cases W;exact⟨h.grown,_,_,_,Z,h.lH 1 Z,h.lH 8 Z,h.lH 10 Z⟩;refine iE λKR e76 W=>?_;refine il hp Z Z (uX _ _ h.lt (hT.go h.keep) (⟨Sv.B,Sv.z⟩:gz) u36 u38 (h.dQ 54 Z) (h.dQ 55 Z) _ e76) ?_;rintro _ w⟨k84,u77,u79,u81,rfl,g78,g80,g82,g83⟩;replace h:=((h.wJ 25 k84 g82 g83).aA 101 g78.VS).aA 102 g80.VS.up;refine D ?_;refine aK h 103 eQ λw b85 h=>aW h 103 eQ Z ow λw h=>D ?_;replace h:=h.freeze 25 Z;refine kN (σ:=YU) (λz=>⟨[(14,(.bool<|z))],[],z⟩) aw (inl ([14,18]++rg 162 25)) [1,6,7,8,19,11,10,25] h W (h.kC 25 Z).aZ ?_ ?_;rintro z k90 i91 m2 nx94 w aU hik e95 e96r p5 h W;refine D ?_;obtain⟨b98,o99,cs100,h,q6,i97⟩:=h.zR 25 104 wH Z<|fE hik p5;obtain⟨u102,u104,rfl,y0,g105⟩:=La q6;replace h:=(h.aA 105 y0.up).aA 106 g105.up.up;refine jN i97 Z<|D ?_;refine aK h 34 iI λw b106 h=>aW h 34 iI Z ow λw h=>D ?_;refine cO Z Z (λq=>fI (v:=(.bool<|decide<|m2.h=4))<|iY q)<|jU (z==aw) Z Z (λq=>dE Fld106x1 Z)<|jU (z==aw) Z Z (λq=>jr h 34 Z bP (iY q) Z)<|jU (z==aw) Z Z (λq=>dE Fld83x2 Z)<|jU (z==aw) Z Z (λq=>jr h 11 Z bP (iY q) Z)<|jU (z==aw) Z Z (λq=>uQ (iY q)<|iY q)<|D ?_;refine cO Z Z (λq=>fI (v:=.bool (G (m2.h=4)&&G (m2.t=g.t)))<|iY q)<|jU (z==aw) Z Z (λq=>dE LM Z)<|jU (z==aw) Z Z (λq=>jr h 34 Z bP (iY q) Z)<|jU (z==aw) Z Z (λq=>dE Fld83x3 Z)<|jU (z==aw) Z Z (λq=>jr h 11 Z bP (iY q) Z)<|jU (z==aw) Z Z (λq=>Hu (iY q)<|iY q)<|re;rintro z i91 w aU h W;refine lh<|bB<|dX (σ:=B×H bM×B×H dD×B×H dJ) h (inl ([5,19]++rg 187 19)) [6,19,11] (λ⟨c9,JE,d4,GN,i5,h5⟩=>⟨[],[(7,.blk S [c9,d4,i5]),(8,.own iV 40 d4 GN),(10,.own fK 83 i5 h5),(26,.rd iO c9 JE)],uq g JE GN h5=U r⟩) ?_ ?_;rintro⟨c9,JE,d4,GN,i5,h5⟩w aU h W;refine dX (σ:=B×H dJ) h (inl<|rg 206 11) [6,8,26] (λ⟨h9,h0⟩=>⟨[],[(7,.blk S [c9,d4,h9]),(10,.own fK 83 h9 h0)],uo JE GN h0=U r⟩) ?_ ?_;rintro⟨h9,h0⟩w aU h W;refine D ?_;refine aW h 6 bL Z ow λw h=>D ?_;refine gy (v2:=Y 0) results14 Z Z h 6 Z bL Z ?_;replace h:=(h.freeze 8 Z).freeze 10 Z
 cases W;exact⟨h.grown,_,_,_,Z,h.lH 26 Z,h.lH 8 Z,h.lH 10 Z⟩;refine D ?_;refine iW LW Z (bO Z)<|di (args:=[.agg #[Y g.x,Y g.from_,Y g.t,Y g.k,(.bool<|true),nS],pT S]) hp Z Z<|xF func53 ntmps53 Z<|D ?_;refine fT (cs:=[Y g.x,Y g.from_,Y g.t,Y g.k,(.bool<|true),nS]) h 107 Z Z λw b115 h=>ib (λv3 W=>?_) λv3 W=>?_;refine D ?_;refine uP (R:=fK) (vs:=[.agg #[Y g.x,Y g.from_,Y g.t,Y g.k,(.bool<|true),nS]]) (xs:=[(⟨g.x,g.from_,g.t,g.k,bh,[]⟩:dJ)]) h 108 qc Z Z Z ⟨⟨_,Z,ek.nil⟩,an⟩ Z λw u117 h=>?_;obtain⟨k1,W⟩:=cK W;refine jm (R:=fK) (m:=[(⟨g.x,g.from_,g.t,g.k,bh,[]⟩:dJ)]) h 10 Z (h.cZ 108 Z) qc Z Z Z k1.1 k1.2 λw x5 h=>kY mr Z<|fJ h 7 [c9,d4,x5] Z wR Z Z Z Z (h.bW 10 Z).one λw h=>ax<|Pv results53 (⟨_,Z,?_⟩);exact qe;refine dn<|Pv results53 (⟨_,Z,?_⟩);exact qe;refine ib (λc120 W=>?_) λc120 W=>?_;refine D ?_;refine iW oM Z ow ?_;replace h:=(h.pr 7 8).pr 7 10;obtain⟨m4,l7,n4⟩:=h.iw 7 ⟨⟨an,an⟩,an⟩;obtain⟨b7,e123,W⟩:=aR W;refine il hp Z Z (zG _ _ n4 (hT.go h.keep) S (⟨a.r,([]:H dD)++a.m,c3⟩:aH) aq X b5 m4 l7 (h.wB 7 1 Z Z) g.x (⟨4,g.t,g.k,0,[],g.u⟩:vA) nS x1 ek.nil (h.wB 7 19 Z Z) (h.Az hT (λ_ h=>h.elim) 7 (C:=(.two (.two (.blk S [aq,X,b5])<|.own iV 40 X (([]:H dD)++a.m)) (.own fK 83 b5 c3):Chunk)) Z) _ e123) ?_;rintro _ w⟨o3,o0,u126,u127,rfl,h129,h130,g125⟩;replace h:=((h.jR 7 h129 ⟨⟨an,an⟩,an⟩ o3 h130).aA 109<|gV g125).un 7 10 Z Z;replace h:=h.un 7 8 Z Z;refine ib (λu2 W=>?_) λu2 W=>?_;refine D ?_;refine di (args:=[Y b7.1]) hp Z Z<|xF func51 ntmps51 Z<|D ?_;refine aK h 71 bL λw b132 h=>D ?_;refine iW mZ Z eu<|mI Z<|aW h 71 bL Z (bO Z) λw h=>D ?_;refine gy (v2:=Y b7.1) results51 Z Z h 71 Z bL Z (⟨_,Z,?_⟩);refine D ?_;refine aW h 6 bL Z (bO Z) λw h=>D ?_;refine gy (v2:=Y b7.1) results14 Z Z h 6 Z bL Z ?_;cases W;exact⟨h.grown,_,_,_,Z,ek.nil,ek.nil,ek.nil⟩;refine dn<|aL ?_;replace h:=h.iM 109 26 Z;exact ik (o0,b7.2.r,u126,b7.2.m,u127,b7.2.s) ⟨h.cn _,W⟩;refine dn<|aL ?_;replace h:=h.iM 1 26 Z;exact ik (aq,a.r,X,([]:H dD)++a.m,b5,c3) ⟨h.cn _,W⟩;refine ib (λc133 W=>?_) λc133 W=>?_;refine dO (Zs:=(λx=>x=S)) mixed h λw h=>bK 0 kR mr Z<|bK 2 kR Il Z<|mJ 3 h 7 5 bP Z<|bK 5 kR mr Z<|bK 7 kR Il Z<|mJ 8 h 7 5 bP Z ?_;obtain⟨e6,W⟩:=cK W;refine bA 9 kR Z (λw hk=>LC Z Z e6) ?_;obtain⟨Lp,a5,W⟩:=aR W;obtain⟨IJ,K,W⟩:=aR W;obtain⟨R9,ab,W⟩:=aR W;refine bR λws140 F=>gu 1 6 Q Z bu Z bu ?_ ?_;refine D ?_;refine ah F ?_;obtain⟨l,Yy,Yz,YA⟩:=Hw a5
 replace h:=h.freeze 9 Z;obtain⟨y,h,o⟩:=h.slR 9 38 Z jF Z Yy Yz YA;rw[<-l]at h;refine bA 4 F Z (λw hk=>o _ _ _ _ _ _ _ _ _ _ Z (.inl ⟨Z,Z⟩)<|.inr<|ZS U Z)<|aO 6 Z<|D ?_;refine ah F ?_;obtain⟨YB,UN,UO,UQ⟩:=Hw K;obtain⟨YC,h,YD⟩:=h.slR 9 39 Z jF Z UN UO UQ;rw[<-YB]at h;refine bA 10 F Z (λw hk=>YD _ _ _ _ _ _ _ _ _ _ Z (.inr<|ZS U Z)<|.inl ⟨Z,Z⟩)<|aO 11 Z<|oI (R:=ui fK) (vs:=[y,YC]) (xs:=[Lp,IJ]) h 40 Sx Z Z Z ⟨(h.dQ 38 Z).Sy,⟨(h.dQ 39 Z).Sy,an⟩⟩ Z λw YE h UR UT=>?_;have c0:=mf F UT;replace F:=F.grow UR;refine ax<|ah F<|aO 12 Z<|ko F h 27 hp Z Z (JW _ _ h.lt YE [Lp,IJ] (h.cZ 40 Z) _ ab) λw Nr c4 F h=>bK 13 F mr Z<|aO 14 Z<|fe h 7 [aq,X,Nr] Z wR Z Z Z Z (h.bW 27 Z).one λw h YF=>?_;replace F:=F.same YF;refine ax<|ah F<|dP<|aL ?_;replace h:=h.jV 27 10 Z Z tS;exact ik (Nr,R9) ⟨h.cn _,W⟩;refine D ?_;refine ah F ?_;obtain⟨YB,UN,UO,UQ⟩:=Hw K;replace h:=h.freeze 9 Z;obtain⟨YC,h,YD⟩:=h.slR 9 39 Z jF Z UN UO UQ;rw[<-YB]at h;refine bA 10 F Z (λw hk=>YD _ _ _ _ _ _ _ _ _ _ Z (.inr<|ZS U Z)<|.inl ⟨Z,Z⟩)<|aO 1 Z<|D ?_;refine ah F ?_;obtain⟨l,Yy,Yz,YA⟩:=Hw a5;obtain⟨y,h,o⟩:=h.slR 9 38 Z jF Z Yy Yz YA;rw[<-l]at h;refine bA 4 F Z (λw hk=>o _ _ _ _ _ _ _ _ _ _ Z (.inl ⟨Z,Z⟩)<|.inr<|ZS U Z)<|aO 11 Z<|oI (R:=ui fK) (vs:=[y,YC]) (xs:=[Lp,IJ]) h 40 Sx Z Z Z ⟨(h.dQ 38 Z).Sy,⟨(h.dQ 39 Z).Sy,an⟩⟩ Z λw YE h UR UT=>?_;have c0:=mf F UT;replace F:=F.grow UR;refine ax<|ah F<|aO 12 Z<|ko F h 27 hp Z Z (JW _ _ h.lt YE [Lp,IJ] (h.cZ 40 Z) _ ab) λw Nr c4 F h=>bK 13 F mr Z<|aO 14 Z<|fe h 7 [aq,X,Nr] Z wR Z Z Z Z (h.bW 27 Z).one λw h YF=>?_;replace F:=F.same YF;refine ax<|ah F<|dP<|aL ?_;replace h:=h.jV 27 10 Z Z tS;exact ik (Nr,R9) ⟨h.cn _,W⟩;refine dn<|aL ?_;replace h:=h.jV 9 10 Z Z tS;exact ik (v6,([]:H dJ)++a.s) ⟨h.cn _,W⟩;refine D ?_;refine bg h hp Z Z (bU _ _ h.lt b.h 1 9 _ Z) λw h=>ib (λu8 W=>?_) λu8 W=>?_;refine D ?_;refine di (args:=[Y 4]) hp Z Z<|xF func51 ntmps51 Z<|D ?_;refine aK h 72 bL λw b144 h=>D ?_;refine iW mZ Z eu<|mI Z<|aW h 72 bL Z (bO Z) λw h=>D ?_;refine gy (v2:=Y 4) results51 Z Z h 72 Z bL Z (⟨_,Z,?_⟩);refine D ?_;refine aW h 6 bL Z (bO Z) λw h=>D ?_;refine gy (v2:=Y 4) results14 Z Z h 6 Z bL Z ?_;cases W;exact⟨h.grown,_,_,_,Z,ek.nil,ek.nil,ek.nil⟩;refine D ?_;refine bg h hp Z Z (iP _ _ h.lt b.o 3 _ Z) λw h=>ib (λn5 W=>?_) λn5 W=>?_;refine D ?_;refine di (args:=[Y 5]) hp Z Z<|xF func51 ntmps51 Z<|D ?_;refine aK h 74 bL λw b147 h=>D ?_
 refine iW mZ Z eu<|mI Z<|aW h 74 bL Z (bO Z) λw h=>D ?_;refine gy (v2:=Y 5) results51 Z Z h 74 Z bL Z (⟨_,Z,?_⟩);refine D ?_;refine aW h 6 bL Z (bO Z) λw h=>D ?_;refine gy (v2:=Y 5) results14 Z Z h 6 Z bL Z ?_;cases W;exact⟨h.grown,_,_,_,Z,ek.nil,ek.nil,ek.nil⟩;refine D ?_;refine nT mixed Q h λw h=>iE λyt Oa W=>?_;obtain⟨b151,q3,s1⟩:=h.zO 8 gT Z Oa;refine Cn s1 Z<|D ?_;obtain⟨cs153,x3,n6⟩:=h.p9 8 Z q3 (aM Oa).2;obtain⟨u156,u158,u160,rfl,t2,z5,t7⟩:=fM n6;replace h:=((h.aA 110 t2).aA 133 z5.up).aA 134 t7.up.up;refine eG (jl (k:=3) x3 Dt Z Z)<|D ?_;refine eG (r_eqlb underlying4 Z Z)<|ib (λr0 W=>?_) λr0 W=>?_;refine D ?_;refine di (args:=[Y 7]) hp Z Z<|xF func51 ntmps51 Z<|D ?_;refine aK h 75 bL λw b163 h=>D ?_;refine iW mZ Z eu<|mI Z<|aW h 75 bL Z (bO Z) λw h=>D ?_;refine gy (v2:=Y 7) results51 Z Z h 75 Z bL Z (⟨_,Z,?_⟩);refine D ?_;refine aW h 6 bL Z (bO Z) λw h=>D ?_;refine gy (v2:=Y 7) results14 Z Z h 6 Z bL Z ?_;cases W;exact⟨h.grown,_,_,_,Z,ek.nil,ek.nil,ek.nil⟩;refine ib (λv9 W=>?_) λv9 W=>?_;refine D ?_;obtain⟨b166,q167,s0⟩:=h.zO 8 gT Z Oa;refine jN s0 Z<|kY EI Z ?_;obtain⟨cs168,n7,r6⟩:=h.p9 8 Z q167 (aM Oa).2;obtain⟨u171,k7,l0,rfl,t0,g174,p7⟩:=fM r6;replace h:=((h.aA 135 t0).aA 111 g174.up).aA 112 p7.up.up;refine aC (iZ (k:=1) (vs:=[k7,l0]) n7 eQ Z Z Z<|gJ Z) ?_;obtain⟨i0,y2,W⟩:=aR W;refine il hp Z Z (uX _ _ h.lt (hT.go h.keep) (⟨yt.B,yt.z⟩:gz) k7 l0 (h.dQ 111 Z) (h.dQ 112 Z) _ y2) ?_;rintro _ w⟨r2,g7,g2,w7,rfl,g180,n8,g184,s7⟩;replace h:=((h.wJ 113 r2 g184 s7).aA 41 g180.VS).aA 42 n8.VS.up;refine D ?_;refine aK h 43 eQ λw b187 h=>aW h 43 eQ Z ow λw h=>iE λl3 e189 W=>?_;refine ja h 20 hp Z Z (Gv _ _ h.lt w7 i0.2 (h.cZ 113 Z) _ e189) λw g6 h=>D ?_;refine wO (σ:=Int) (λa1=>⟨[(24,Y a1)],[],a1⟩) l3.2 (inl ([24,26]++rg 271 15)) [1,6,7,8,9,41,42,43,20] h W (wN (h.cZ 20 Z).aZ) ?_ ?_;rintro a1 i199 nx202 w aU hik e203 e204r h W;refine iE λg3 k9 W=>?_;obtain⟨b208,q209,t4⟩:=h.zO 20 dZ Z k9;refine jN t4 Z ?_;obtain⟨cs210,t5,x0⟩:=h.p9 20 Z q209 (aM k9).2;obtain⟨j4,rfl,x6⟩:=jQ x0;replace h:=h.aA 76 x6;refine aC (iZ (k:=0) (vs:=[Y g3.y,Y g3.k,j4,Y g3.E]) t5 lU Z Z Z<|gJ Z)<|aK h 77 lU λw b215 h=>aW h 77 lU Z ow λw h=>ib (λc216 W=>?_) λc216 W=>?_;refine iE λy217 u9 W=>?_;refine il hp Z Z (vV N _ _ h.lt aq a.r (h.kC 1 Z) j4 g3.u (h.dQ 76 Z) _ u9) ?_;rintro _ w⟨w8,u219,u221,rfl,r3,o7⟩;replace h:=(h.xQ 136 w8 r3).aA 137 o7.up;exact re;exact re;rintro a1 i199 w aU h W;refine D ?_
 refine aC (lD (pv:=[(0,g6),(1,.agg #[g7,g2]),(2,(.bool<|true))]) (out:=[g6,g7,g2,(.bool<|true)]) LV Z ⟨0,1,[g6],Z,bY (h.bW 20 Z).one,Z,gJ Z,⟨1,2,[g7,g2],Z,Z,Z,gJ Z,⟨3,1,[(.bool<|true)],Z,Z,Z,gJ Z,Z⟩⟩⟩) ?_;obtain⟨b225,r1,u0⟩:=h.zO 8 gT Z Oa;refine jN u0 Z ?_;replace h:=h.freeze 20 Z;refine tV (a':=(⟨l3.1,i0.1.B,i0.1.z,bh⟩:dD)) (vs:=[g6,g7,g2,(.bool<|true)]) h 8 Z r1 Z (aM Oa).2 qd Z Z Z Z ⟨_,_,_,Z,h.dQ 20 Z,h.dQ 41 Z,h.dQ 42 Z⟩ λw h k227=>ib (λz0 W=>?_) λz0 W=>?_;refine D ?_;refine di (args:=[Y a1]) hp Z Z<|xF func51 ntmps51 Z<|D ?_;refine aK h 80 bL λw b229 h=>D ?_;refine iW mZ Z eu<|mI Z<|aW h 80 bL Z (bO Z) λw h=>D ?_;refine gy (v2:=Y a1) results51 Z Z h 80 Z bL Z (⟨_,Z,?_⟩);refine D ?_;refine aW h 6 bL Z (bO Z) λw h=>D ?_;refine gy (v2:=Y a1) results14 Z Z h 6 Z bL Z ?_;cases W;exact⟨h.grown,_,_,_,Z,ek.nil,ek.nil,ek.nil⟩;refine D ?_;refine aW h 6 bL Z ow λw h=>D ?_;refine gy (v2:=Y 0) results14 Z Z h 6 Z bL Z ?_;replace h:=(h.freeze 8 Z).freeze 9 Z;cases W;exact⟨h.grown,_,_,_,Z,h.lH 1 Z,h.lH 8 Z,h.lH 9 Z⟩;refine ib (λc230 W=>?_) λc230 W=>?_;refine iq<|oJ 11 mixed Q h λw h=>D ?_;obtain⟨b232,t6,i231⟩:=h.zO 8 gT Z Oa;refine Cn i231 Z<|D ?_;obtain⟨cs234,w5,r236⟩:=h.p9 8 Z t6 (aM Oa).2;obtain⟨u237,c6,d3,rfl,o2,u1,s3⟩:=fM r236;replace h:=((h.aA 138 o2).aA 114 u1.up).aA 115 s3.up.up;refine eG (iZ (k:=1) (vs:=[c6,d3]) w5 eQ Z Z Z<|gJ Z)<|eG (lD (pv:=[(1,.agg #[c6,d3])]) (out:=[nS,c6,d3,(.bool<|false)]) LV Z ⟨1,2,[c6,d3],Z,Z,Z,gJ Z,Z⟩) ?_;obtain⟨b244,s4,i243⟩:=h.zO 8 gT Z Oa;refine Cn i243 Z<|wL<|tV (a':=(⟨[],yt.B,yt.z,aw⟩:dD)) (vs:=[nS,c6,d3,(.bool<|false)]) h 8 Z s4 Z (aM Oa).2 qd Z Z Z Z ⟨_,_,_,Z,ek.nil,h.dQ 114 Z,h.dQ 115 Z⟩ λw h k246=>D ?_;refine aW h 6 bL Z ow λw h=>D ?_;refine gy (v2:=Y 0) results14 Z Z h 6 Z bL Z ?_;replace h:=(h.freeze 8 Z).freeze 9 Z;cases W;exact⟨h.grown,_,_,_,Z,h.lH 1 Z,h.lH 8 Z,h.lH 9 Z⟩;refine ib (λu5 W=>?_) λu5 W=>?_;refine ib (λz2 W=>?_) λz2 W=>?_;refine D ?_;refine di (args:=[Y 5]) hp Z Z<|xF func51 ntmps51 Z<|D ?_;refine aK h 81 bL λw b249 h=>D ?_;refine iW mZ Z eu<|mI Z<|aW h 81 bL Z (bO Z) λw h=>D ?_;refine gy (v2:=Y 5) results51 Z Z h 81 Z bL Z (⟨_,Z,?_⟩);refine D ?_;refine aW h 6 bL Z (bO Z) λw h=>D ?_;refine gy (v2:=Y 5) results14 Z Z h 6 Z bL Z ?_;cases W;exact⟨h.grown,_,_,_,Z,ek.nil,ek.nil,ek.nil⟩;refine D ?_;obtain⟨b251,q1,i250⟩:=h.zO 8 gT Z Oa;refine jN i250 Z<|kY EI Z ?_
 obtain⟨cs253,v4,s8⟩:=h.p9 8 Z q1 (aM Oa).2;obtain⟨u256,j2,k5,rfl,g257,o5,g261⟩:=fM s8;replace h:=((h.aA 139 g257).aA 116 o5.up).aA 117 g261.up.up;refine aC (iZ (k:=1) (vs:=[j2,k5]) v4 eQ Z Z Z<|gJ Z) ?_;obtain⟨y262,e263,W⟩:=aR W;refine il hp Z Z (uX _ _ h.lt (hT.go h.keep) (⟨yt.B,yt.z⟩:gz) j2 k5 (h.dQ 116 Z) (h.dQ 117 Z) _ e263) ?_;rintro _ w⟨r8,u264,u266,h1,rfl,q9,z3,g269,g270⟩;replace h:=((h.wJ 28 r8 g269 g270).aA 118 q9.VS).aA 119 z3.VS.up;refine D ?_;refine aK h 120 eQ λw b272 h=>aW h 120 eQ Z ow λw h=>aV h1 Z<|nN<|iq<|dX (σ:=YU) h (inl [335,336]) [1,5,6,7,8,9] (λh3=>⟨[(336,(.bool<|h3))],[],pF N a b h3=U r⟩) ?_ ?_;rintro h3 w aU h W;refine eX W Z (λc274 W=>?_) λc274 W=>?_;refine D ?_;refine di (args:=[Y 6]) hp Z Z<|xF func51 ntmps51 Z<|D ?_;refine aK h 82 bL λw b275 h=>D ?_;refine iW mZ Z eu<|mI Z<|aW h 82 bL Z (bO Z) λw h=>D ?_;refine gy (v2:=Y 6) results51 Z Z h 82 Z bL Z (⟨_,Z,?_⟩);refine D ?_;refine aW h 6 bL Z (bO Z) λw h=>D ?_;refine gy (v2:=Y 6) results14 Z Z h 6 Z bL Z ?_;cases W;exact⟨h.grown,_,_,_,Z,ek.nil,ek.nil,ek.nil⟩;refine iE λj6 e277 W=>?_;obtain⟨b279,o280,cs281,h,x4,i278⟩:=h.zR 1 121 jE Z e277;obtain⟨u283,rfl,w3⟩:=lS x4;replace h:=h.aA 140 w3.up;refine jN i278 Z<|D ?_;obtain⟨u3,W⟩:=cK W;refine Bq (R:=bG) (zs:=[Y 0,Y 0]) (a:=(⟨0,0⟩:tp)) h 44 lF bD Z tS Z Z u3 Z (λ_ _=>rfl) λw s2 h u285k u285f=>iW Fe Z ow ?_;replace h:=h.freeze 44 Z;refine uP (R:=jv) (vs:=[.agg #[Y 0,Y 0,s2,Y 0]]) (xs:=[(⟨0,0,bw j6.regs.toNat (⟨0,0⟩:tp),0⟩:Ya)]) h 45 mg Z Z Z ⟨⟨_,Z,h.dQ 44 Z⟩,an⟩ Z λw p1 h=>iW sW Z ow<|aK h 84 dh λw b288 h=>aW h 84 dh Z ow λw h=>D ?_;refine dO (Zs:=(λb=>Chunk.own' (.two (.two (.blk S [aq,X,v6]) (.own iV 40 X (([]:H dD)++a.m))) (.own fK 83 v6 (([]:H dJ)++a.s)):Chunk) b\/b=b3)) mixed h λw h=>dH 0 kR (.func (.func 52) #[] #[pT S]) Z (dH 1 kR (Y b.o) Z (bK 2 kR Fld28x2 Z (bA 3 kR Z (λw hk=>have h:=((h.pr 7 8).pr 7 9).xY 7 6 tS Z Z hk;jr h 5 Z bP Z Z) (bA 4 kR Z (λw hk=>have h:=((h.pr 7 8).pr 7 9).xY 7 6 tS Z Z hk;BC h 84 Z dh Z Z Z) (bR λm3 al=>aO 5 Z ?_)))));obtain⟨f5,e4,W⟩:=aR W
 refine ko al h 46 hp Z Z (JX N _ _ h.lt (⟨[(⟨0,0,bw j6.regs.toNat (⟨0,0⟩:tp),0⟩:Ya)],[],0,0⟩:Ys) p1 nS (h.cZ 45 Z) ek.nil _ e4) λw VH j1 al h=>bA 6 al Z (λw hk=>lD (pv:=[(0,Y 1),(1,Y b.t),(2,Y 1),(5,VH)]) (out:=[Y 1,Y b.t,Y 1,Y 0,nS,VH]) oM Z ⟨0,1,[Y 1],Z,Z,Z,gJ Z,⟨1,1,[Y b.t],Z,Z,Z,gJ Z,⟨2,1,[Y 1],Z,Z,Z,gJ Z,⟨5,1,[VH],Z,bY (h.bW 46 Z).one,Z,gJ Z,Z⟩⟩⟩⟩)<|aO 7 Z ?_;replace h:=((h.freeze 46 Z).pr 7 8).pr 7 9;obtain⟨c7,d2,d1⟩:=h.iw 7 ⟨⟨an,an⟩,an⟩;obtain⟨FK,e3,W⟩:=aR W;refine il hp Z Z (zG _ _ d1 (hT.go h.keep) S (⟨a.r,([]:H dD)++a.m,([]:H dJ)++a.s⟩:aH) aq X v6 c7 d2 (h.wB 7 1 Z Z) b.o (⟨1,b.t,1,0,[],f5⟩:vA) nS VH ek.nil (h.wB 7 46 Z Z) (h.Az hT (λ_ h=>h.elim) 7 (C:=(.two (.two (.blk S [aq,X,v6])<|.own iV 40 X (([]:H dD)++a.m)) (.own fK 83 v6 (([]:H dJ)++a.s)):Chunk)) Z) _ e3) ?_;rintro _ w⟨a6,VI,VJ,VK,rfl,e1,d0,e7⟩;replace h:=((h.jR 7 e1 ⟨⟨an,an⟩,an⟩ a6 d0).aA 47<|gV e7).un 7 9 Z Z;replace h:=h.un 7 8 Z Z;replace al:=bF.step al a6 λ_ hx _=>.inl<|hx;refine ax<|ah al<|aO 8 Z<|di (args:=[Y FK.1,pT S]) hp Z Z<|xF func52 ntmps52 Z<|D ?_;refine jS h 35 bL λw b301 h m0 l4=>?_;have i8:m3.heap.size<=b301:=cN al.size l4;replace al:=al.grow m0;refine ib (λp8 W=>?_) λp8 W=>?_;refine D ?_;refine iW mZ Z eu<|mI Z<|jJ (vs:=[nS,nS,nS]) h 35 [nS,nS,nS] Z bL Z Z Z Z Z (bO Z) λw h k303=>?_;replace al:=al.zJ k303 λx hx=>hx▸i8;refine D ?_;refine gy (v2:=Y FK.1) results52 Z Z h 35 Z bL Z (⟨_,Z,?_⟩);refine ax<|ah al<|kP 9 al Z<|kP 10 al Z<|aO 11 Z<|jJ (vs:=[nS,nS,nS]) h 6 [nS,nS,nS] Z bL Z Z Z Z Z (bO Z) λw h YG=>?_;replace al:=bF.step al YG λ_ hx _=>.inr<|hx;refine ax<|ah al<|kD 12 al (Y FK.1) Z<|dP<|D ?_;refine gy (v2:=Y FK.1) results14 Z Z h 6 Z bL Z ?_;cases W;exact⟨h.grown,_,_,_,Z,ek.nil,ek.nil,ek.nil⟩;refine D ?_;refine jJ (vs:=[VI,VJ,VK]) h 35 [VI,VJ,VK] Z bL Z Z Z Z Z ow λw h p0=>?_;replace al:=al.zJ p0 λx hx=>hx▸i8;refine D ?_;refine gy (v2:=Y 0) results52 Z Z h 35 Z bL Z (⟨_,Z,?_⟩);refine ax<|ah al<|kP 9 al Z<|kP 10 al Z<|aO 11 Z<|jJ (vs:=[VI,VJ,VK]) h 6 [VI,VJ,VK] Z bL Z Z Z Z Z ow λw h YG=>?_;replace al:=bF.step al YG λ_ hx _=>.inr<|hx;refine ax<|ah al<|kD 12 al (Y 0) Z<|dP<|D ?_;refine gy (v2:=Y 0) results14 Z Z h 6 Z bL Z ?_;replace h:=(h.freeze 8 Z).freeze 9 Z;cases W;exact⟨h.grown,_,_,_,Z,h.lH 47 Z,h.lH 8 Z,h.lH 9 Z⟩;refine D ?_
 refine di (args:=[h1,.func (.func 58) #[] #[]]) hp Z Z<|xF func57 ntmps57 Z<|D ?_;refine di (args:=[h1,.func (.func 58) #[] #[]]) hp Z Z<|xF func119 ntmps119 Z<|D ?_;refine wO (σ:=Unit) (λ_=>⟨[],[],()⟩) () (inl ([4,5]++rg 8 11)) [1,5,6,7,8,9,28] h W (wN (h.cZ 28 Z).aZ) ?_ ?_;rintro _ i306 nx309 w aU hik e310 e311r h W;refine iE λf j0 W=>?_;obtain⟨b315,p2,i314⟩:=h.zO 28 wH Z j0;refine jN i314 Z ?_;obtain⟨cs317,v8,r319⟩:=h.p9 28 Z p2 (aM j0).2;obtain⟨i3,i6,rfl,x9,x2⟩:=La r319;replace h:=(h.aA 141 x9).aA 142 x2.up;refine aC (iZ (k:=0) (vs:=[Y f.h,Y f.t,Y f.k,Y f.o,i3,i6]) v8 iI Z Z Z<|gJ Z)<|di (args:=[.agg #[Y f.h,Y f.t,Y f.k,Y f.o,i3,i6]]) hp Z Z<|xF func58 ntmps58 Z<|D ?_;refine fT (cs:=[Y f.h,Y f.t,Y f.k,Y f.o,i3,i6]) h 122 Z Z λw b324 h=>D ?_;refine iB results58 Z (⟨_,Z,?_⟩);refine ib (λc325 W=>?_) λc325 W=>?_;refine D ?_;refine iB results119 Z (⟨_,Z,?_⟩);refine D ?_;refine iB results57 Z (⟨_,Z,?_⟩);exact qe;exact re;rintro _ i306 w aU h W;refine D ?_;refine iB results119 Z (⟨_,Z,?_⟩);refine D ?_;refine iB results57 Z (⟨_,Z,?_⟩);exact qe;refine dn<|fZ<|bB<|dX (σ:=Int) h (inl ([30]++rg 361 8)) [1,5,6,7,8,9] (λi2=>⟨[(30,Y i2)],[],mq N yt b a i2=U r⟩) ?_ ?_;rintro i2 w aU h W;refine ib (λy1 W=>?_) λy1 W=>?_;refine D ?_;refine di (args:=[Y 5]) hp Z Z<|xF func51 ntmps51 Z<|D ?_;refine aK h 85 bL λw b328 h=>D ?_;refine iW mZ Z eu<|mI Z<|aW h 85 bL Z (bO Z) λw h=>D ?_;refine gy (v2:=Y 5) results51 Z Z h 85 Z bL Z (⟨_,Z,?_⟩);refine D ?_;refine aW h 6 bL Z (bO Z) λw h=>D ?_;refine gy (v2:=Y 5) results14 Z Z h 6 Z bL Z ?_;cases W;exact⟨h.grown,_,_,_,Z,ek.nil,ek.nil,ek.nil⟩;refine D ?_;obtain⟨b330,o6,i329⟩:=h.zO 8 gT Z Oa;refine jN i329 Z<|kY EH Z ?_;obtain⟨cs332,w1,w4⟩:=h.p9 8 Z o6 (aM Oa).2;obtain⟨u335,u337,u339,rfl,y6,y9,g340⟩:=fM w4;replace h:=((h.aA 123 y6).aA 143 y9.up).aA 144 g340.up.up;refine aC (jl (k:=0) w1 Jq Z Z)<|mI Z ?_;obtain⟨d,e342,W⟩:=aR W;obtain⟨b344,o345,cs346,h,r347,p6⟩:=h.zR 123 124 dZ Z e342;obtain⟨b0,rfl,z8⟩:=jQ r347;replace h:=h.aA 17 z8.up;refine jN p6 Z<|D ?_;refine aK h 12 lU λw b350 h=>aW h 12 lU Z ow λw h=>ib (λc351 W=>?_) λc351 W=>?_;refine ib (λq8 W=>?_) λq8 W=>?_;refine D ?_;refine di (args:=[Y 7]) hp Z Z<|xF func51 ntmps51 Z<|D ?_;refine aK h 86 bL λw b353 h=>D ?_;refine iW mZ Z eu<|mI Z<|aW h 86 bL Z (bO Z) λw h=>D ?_;refine gy (v2:=Y 7) results51 Z Z h 86 Z bL Z (⟨_,Z,?_⟩);refine D ?_;refine aW h 6 bL Z (bO Z) λw h=>D ?_;refine gy (v2:=Y 7) results14 Z Z h 6 Z bL Z ?_
 cases W;exact⟨h.grown,_,_,_,Z,ek.nil,ek.nil,ek.nil⟩;refine dn<|bB<|dX (σ:=B×H dJ) h (inl<|rg 394 13) [1,6,8] (λ⟨h8,h2⟩=>⟨[],[(7,.blk S [aq,X,h8]),(9,.own fK 83 h8 h2)],sQ a h2=U r⟩) ?_ ?_;rintro⟨h8,h2⟩w aU h W;refine D ?_;refine aW h 6 bL Z ow λw h=>D ?_;refine gy (v2:=Y 0) results14 Z Z h 6 Z bL Z ?_;replace h:=(h.freeze 8 Z).freeze 9 Z;cases W;exact⟨h.grown,_,_,_,Z,h.lH 1 Z,h.lH 8 Z,h.lH 9 Z⟩;refine sg λW=>?_;refine D ?_;refine iW LW Z ow<|di (args:=[.agg #[Y b.o,Y d.E,Y d.y,Y (d.k+1),(.bool<|false),b0],pT S]) hp Z Z<|xF func53 ntmps53 Z<|D ?_;refine fT (cs:=[Y b.o,Y d.E,Y d.y,Y (d.k+1),(.bool<|false),b0]) h 125 Z Z λw b357 h=>ib (λr4 W=>?_) λr4 W=>?_;refine D ?_;refine uP (R:=fK) (vs:=[.agg #[Y b.o,Y d.E,Y d.y,Y (d.k+1),(.bool<|false),b0]]) (xs:=[(⟨b.o,d.E,d.y,d.k+1,aw,d.u⟩:dJ)]) h 126 qc Z Z Z ⟨⟨_,Z,h.dQ 17 Z⟩,an⟩ Z λw u359 h=>?_;obtain⟨k3,W⟩:=cK W;refine jm (R:=fK) (m:=[(⟨b.o,d.E,d.y,d.k+1,aw,d.u⟩:dJ)]) h 9 Z (h.cZ 126 Z) qc Z Z Z k3.1 k3.2 λw q7 h=>kY mr Z<|fJ h 7 [aq,X,q7] Z wR Z Z Z Z (h.bW 9 Z).one λw h=>ax<|Pv results53 (⟨_,Z,?_⟩);exact qe;refine dn<|Pv results53 (⟨_,Z,?_⟩);exact qe;refine nSk<|aI Z<|nN<|dX (σ:=Int) h (inl [32,408,409,410,411,412]) [1,5,6,7,8,9,17,12] (λb8=>⟨[(32,Y b8)],[],pK N d a b yt b8=U r⟩) ?_ ?_;rintro b8 w aU h W;refine D ?_;refine bg h hp Z Z (bU _ _ h.lt b8 1 2000 _ Z) λw h=>ib (λo9 W=>?_) λo9 W=>?_;refine D ?_;refine di (args:=[Y 3]) hp Z Z<|xF func51 ntmps51 Z<|D ?_;refine aK h 87 bL λw b365 h=>D ?_;refine iW mZ Z eu<|mI Z<|aW h 87 bL Z (bO Z) λw h=>D ?_;refine gy (v2:=Y 3) results51 Z Z h 87 Z bL Z (⟨_,Z,?_⟩);refine D ?_;refine aW h 6 bL Z (bO Z) λw h=>D ?_;refine gy (v2:=Y 3) results14 Z Z h 6 Z bL Z ?_;cases W;exact⟨h.grown,_,_,_,Z,ek.nil,ek.nil,ek.nil⟩;refine ib (λc366 W=>?_) λc366 W=>?_;refine D ?_;refine di (args:=[Y 7]) hp Z Z<|xF func51 ntmps51 Z<|D ?_;refine aK h 88 bL λw b367 h=>D ?_;refine iW mZ Z eu<|mI Z<|aW h 88 bL Z (bO Z) λw h=>D ?_;refine gy (v2:=Y 7) results51 Z Z h 88 Z bL Z (⟨_,Z,?_⟩);refine D ?_;refine aW h 6 bL Z (bO Z) λw h=>D ?_;refine gy (v2:=Y 7) results14 Z Z h 6 Z bL Z ?_;cases W;exact⟨h.grown,_,_,_,Z,ek.nil,ek.nil,ek.nil⟩;refine iE λQN z1 W=>?_;refine il hp Z Z (vV N _ _ h.lt aq a.r (h.kC 1 Z) b0 d.u (h.dQ 17 Z) _ z1) ?_;rintro _ w⟨r7,g9,g1,rfl,y7,g373⟩;replace h:=(h.xQ 48 r7 y7).aA 49 g373.up;refine D ?_
 refine aK h 13 dh λw v1 h=>aW h 13 dh Z ow λw h=>D ?_;refine iW oM Z (bO Z)<|aK h 14 iI λw j3 h=>aW h 14 iI Z (bO Z) λw h=>nN<|dX (σ:=Int×Int×B×H Int×B×H Int) h (inl ([5]++rg 440 43)) [1,5,6,7,8,9,17,12] (λ⟨a0,Ti,a9,a3,a7,a8⟩=>⟨[],[(14,.blk j3 [Y a0,Y d.y,Y d.k,Y Ti,a9,a7]),(18,.own dL 3 a9 a3),(21,.own dL 3 a7 a8)],pI b yt d a a0 Ti a3 a8=U r⟩) ?_ ?_;rintro⟨a0,Ti,a9,a3,a7,a8⟩w aU h W;refine ib (λn9 W=>?_) λn9 W=>?_;refine iq<|iq<|dO (Zs:=BE) mixed h λw h=>bK 0 kR l9 Z<|zo 1 h 7 wQ Z<|dH 2 kR (Y b.o) Z ?_;obtain⟨n0,f7,d9⟩:=h.zO 8 gT Z Oa;refine rE 3 kR d9 Z<|bK 4 kR EH Z ?_;obtain⟨k8,e0,f1⟩:=h.p9 8 Z f7 (aM Oa).2;obtain⟨d8,m6,m1,rfl,f4,e8,f2⟩:=fM f1;replace h:=((h.aA 127 f4).aA 145 e8.up).aA 146 f2.up.up;refine bA 5 kR Z (λw hk=>have h:=h.grow hk;jl (k:=0) (e0.grow hk) Jq Z Z) (Kg 6 h 14 iI Z (bR λws385 i=>aO 7 Z ?_));replace h:=h.freeze 21 Z;obtain⟨FL,e2,W⟩:=aR W;refine ko i h 147 hp Z Z (CV _ _ h.lt d8 yt.D (h.kC 127 Z) (⟨a0,d.y,d.k,Ti,a3,a8⟩:vA) a9 a7 (h.cZ 18 Z) (h.dQ 21 Z) _ e2) λw T k4 i h=>dH 8 i (.tuple #[T,Y FL.2]) Z<|kP 9 i Z<|kP 10 i Z<|kD 11 i T Z<|kD 12 i (Y FL.2) Z<|dP<|ib (λw6 W=>?_) λw6 W=>?_;refine D ?_;refine di (args:=[Y FL.2]) hp Z Z<|xF func51 ntmps51 Z<|D ?_;refine aK h 89 bL λw b388 h=>D ?_;refine iW mZ Z eu<|mI Z<|aW h 89 bL Z (bO Z) λw h=>D ?_;refine gy (v2:=Y FL.2) results51 Z Z h 89 Z bL Z (⟨_,Z,?_⟩);refine D ?_;refine aW h 6 bL Z (bO Z) λw h=>D ?_;refine gy (v2:=Y FL.2) results14 Z Z h 6 Z bL Z ?_;cases W;exact⟨h.grown,_,_,_,Z,ek.nil,ek.nil,ek.nil⟩;refine dn<|bB<|dX (σ:=Nat×B×H UInt8×B×H UInt8×Int) h (inl ([38,39]++rg 504 11)) [1,5,6,7,8,9] (λ⟨h6,w0,g8,i4,h4,b9⟩=>⟨[(38,pT h6),(39,Y b9)],[(50,.rd gQ w0 g8),(36,.rd gQ i4 h4),(22,.blk h6 [w0,i4])],yn b a g8 h4 b9=U r⟩) ?_ ?_;rintro⟨h6,w0,g8,i4,h4,b9⟩w aU h W;refine ib (λo4 W=>?_) λo4 W=>?_;refine D ?_;refine di (args:=[Y b9]) hp Z Z<|xF func51 ntmps51 Z<|D ?_;refine aK h 90 bL λw b396 h=>D ?_;refine iW mZ Z eu<|mI Z<|aW h 90 bL Z (bO Z) λw h=>D ?_;refine gy (v2:=Y b9) results51 Z Z h 90 Z bL Z (⟨_,Z,?_⟩);refine D ?_;refine aW h 6 bL Z (bO Z) λw h=>D ?_;refine gy (v2:=Y b9) results14 Z Z h 6 Z bL Z ?_;cases W;exact⟨h.grown,_,_,_,Z,ek.nil,ek.nil,ek.nil⟩;refine D ?_;refine aC (r_max Z Z)<|D ?_;refine aC (r_min Z Z) ?_;obtain⟨y4,t9,W⟩:=aR W;obtain⟨r5,m5,m8,m9⟩:=Hw t9;obtain⟨d5,h,i400⟩:=h.slR 36 91 Z nC Z m5 m8 m9;rw[<-r5]at h
 refine aC (i400 _ _ _ _ _ _ _ _ _ _ Z (.inl ⟨Z,Z⟩)<|.inr<|ZS U Z)<|kY IV Z<|fJ h 22 [w0,d5] Z Fb Z Z Z Z (h.dQ 91 Z).one λw h=>D ?_;refine aC (lD (pv:=[(1,.agg #[w0,d5])]) (out:=[nS,w0,d5,(.bool<|false)]) LV Z ⟨1,2,[w0,d5],Z,Z,Z,gJ Z,Z⟩) ?_;obtain⟨b403,o1,z4⟩:=h.zO 8 gT Z Oa;refine jN z4 Z<|tV (a':=(⟨[],g8,y4,aw⟩:dD)) (vs:=[nS,w0,d5,(.bool<|false)]) h 8 Z o1 Z (aM Oa).2 qd Z Z Z Z ⟨_,_,_,Z,ek.nil,h.dQ 50 Z,h.dQ 91 Z⟩ λw h k405=>D ?_;refine aW h 6 bL Z ow λw h=>D ?_;refine gy (v2:=Y 0) results14 Z Z h 6 Z bL Z ?_;replace h:=(h.freeze 8 Z).freeze 9 Z;cases W;exact⟨h.grown,_,_,_,Z,h.lH 1 Z,h.lH 8 Z,h.lH 9 Z⟩;refine dO (Zs:=BE) mixed h λw h=>bK 0 kR l9 Z<|zo 1 h 7 wQ Z<|dH 2 kR (Y b.o) Z ?_;obtain⟨l5,d6,g0⟩:=h.zO 8 gT Z Oa;refine rE 3 kR g0 Z<|bK 4 kR EI Z ?_;obtain⟨j9,f8,f0⟩:=h.p9 8 Z d6 (aM Oa).2;obtain⟨n1,t,j,rfl,f6,f9,d7⟩:=fM f0;replace h:=((h.aA 148 f6).aA 92 f9.up).aA 93 d7.up.up;refine bA 5 kR Z (λw hk=>have h:=h.grow hk;iZ (k:=1) (vs:=[t,j]) (f8.grow hk) eQ Z Z Z (gJ Z)) (Kg 6 h 14 iI Z ?_);obtain⟨vB,a2,W⟩:=aR W;refine bR λi1 A=>gu 7 11 Q Z bu Z bu ?_ ?_;replace h:=h.freeze 18 Z;refine il hp Z Z (Eh _ _ h.lt (hT.go h.keep) (⟨yt.B,yt.z⟩:gz) t j (h.dQ 92 Z) (h.dQ 93 Z) (⟨a0,d.y,d.k,Ti,a3,a8⟩:vA) a9 a7 (h.dQ 18 Z) (h.dQ 21 Z) _ a2) ?_;rintro _ w⟨QO,DU,DV,rfl,p,u⟩;replace h:=(h.xQ 29 QO p).aA 30 u.up;replace A:=A.grow QO;refine ax<|ah A<|dH 8 A (.tuple #[.agg #[DU,DV],Y vB.2]) Z<|kP 9 A Z<|kP 10 A Z<|aO 11 Z<|jS h 31 eQ λw Ns h UU UW=>?_;have UX:i1.heap.size<=Ns:=cN A.size UW;replace A:=A.grow UU;refine ax<|ah A<|aO 12 Z<|jJ (vs:=[DU,DV]) h 31 [DU,DV] Z eQ Z Z Z Z Z ow λw h YH=>?_;replace A:=A.fresh YH λx hx=>hx▸UX;refine ax<|ah A<|kD 13 A (Y vB.2) Z<|dP<|aL ?_;replace h:=(h.iM 29 50 Z).iM 30 36 Z;replace h:=(h.gZ 22).moveC 31 22 Z Z tS;exact ik (Ns,DU,vB.1.B,DV,vB.1.z,vB.2) ⟨h.cn _,W⟩;refine jS h 31 eQ λw Ns h UU UW=>?_;have UX:i1.heap.size<=Ns:=cN A.size UW;replace A:=A.grow UU;refine ax<|ah A<|aO 7 Z ?_;replace h:=h.freeze 18 Z;refine il hp Z Z (Eh _ _ h.lt (hT.go h.keep) (⟨yt.B,yt.z⟩:gz) t j (h.dQ 92 Z) (h.dQ 93 Z) (⟨a0,d.y,d.k,Ti,a3,a8⟩:vA) a9 a7 (h.dQ 18 Z) (h.dQ 21 Z) _ a2) ?_;rintro _ w⟨QO,DU,DV,rfl,p,u⟩;replace h:=(h.xQ 29 QO p).aA 30 u.up;replace A:=A.grow QO;refine ax<|ah A<|dH 8 A (.tuple #[.agg #[DU,DV],Y vB.2]) Z<|kP 9 A Z<|kP 10 A Z<|aO 12 Z<|jJ (vs:=[DU,DV]) h 31 [DU,DV] Z eQ Z Z Z Z Z ow λw h YH=>?_;replace A:=A.fresh YH λx hx=>hx▸UX;refine ax<|ah A<|kD 13 A (Y vB.2) Z<|dP<|aL ?_
 replace h:=(h.iM 29 50 Z).iM 30 36 Z;replace h:=(h.gZ 22).moveC 31 22 Z Z tS;exact ik (Ns,DU,vB.1.B,DV,vB.1.z,vB.2) ⟨h.cn _,W⟩;refine D ?_;replace h:=((h.freeze 18 Z).freeze 21 Z).pr 7 8;replace h:=h.pr 7 9;obtain⟨l6,n3,n2⟩:=h.iw 7 ⟨⟨an,an⟩,an⟩;obtain⟨Tg,w2,W⟩:=aR W;refine il hp Z Z (zG _ _ n2 (hT.go h.keep) S (⟨a.r,([]:H dD)++a.m,([]:H dJ)++a.s⟩:aH) aq X v6 l6 n3 (h.wB 7 1 Z Z) b.o (⟨a0,d.y,d.k,Ti,a3,a8⟩:vA) a9 a7 (h.wB 7 18 Z Z) (h.wB 7 21 Z Z) (h.Az hT (λ_ h=>h.elim) 7 (C:=(.two (.two (.blk S [aq,X,v6])<|.own iV 40 X (([]:H dD)++a.m)) (.own fK 83 v6 (([]:H dJ)++a.s)):Chunk)) Z) _ w2) ?_;rintro _ w⟨t8,j7,l1,u415,rfl,h417,s9,o8⟩;replace h:=((h.jR 7 h417 ⟨⟨an,an⟩,an⟩ t8 s9).aA 51<|gV o8).un 7 9 Z Z;replace h:=h.un 7 8 Z Z;refine ib (λp3 W=>?_) λp3 W=>?_;refine D ?_;refine di (args:=[Y Tg.1]) hp Z Z<|xF func51 ntmps51 Z<|D ?_;refine aK h 94 bL λw b420 h=>D ?_;refine iW mZ Z eu<|mI Z<|aW h 94 bL Z (bO Z) λw h=>D ?_;refine gy (v2:=Y Tg.1) results51 Z Z h 94 Z bL Z (⟨_,Z,?_⟩);refine D ?_;refine aW h 6 bL Z (bO Z) λw h=>D ?_;refine gy (v2:=Y Tg.1) results14 Z Z h 6 Z bL Z ?_;cases W;exact⟨h.grown,_,_,_,Z,ek.nil,ek.nil,ek.nil⟩;refine dn<|bB<|dX (σ:=B×H dJ) h (inl<|rg 550 16) [6,8,51] (λ⟨i7,h7⟩=>⟨[],[(7,.blk S [j7,l1,i7]),(9,.own fK 83 i7 h7)],pG Tg h7=U r⟩) ?_ ?_;rintro⟨i7,h7⟩w aU h W;refine D ?_;refine aW h 6 bL Z ow λw h=>D ?_;refine gy (v2:=Y 0) results14 Z Z h 6 Z bL Z ?_;replace h:=(h.freeze 8 Z).freeze 9 Z;cases W;exact⟨h.grown,_,_,_,Z,h.lH 51 Z,h.lH 8 Z,h.lH 9 Z⟩;refine ib (λv7 W=>?_) λv7 W=>?_;refine sg λW=>?_;refine D ?_;refine iW LW Z ow<|di (args:=[.agg #[Y b.o,Y Ti,Y d.y,Y (d.k+1),(.bool<|false),b0],pT S]) hp Z Z<|xF func53 ntmps53 Z<|D ?_;refine fT (cs:=[Y b.o,Y Ti,Y d.y,Y (d.k+1),(.bool<|false),b0]) h 128 Z Z λw b425 h=>ib (λw9 W=>?_) λw9 W=>?_;refine D ?_;refine uP (R:=fK) (vs:=[.agg #[Y b.o,Y Ti,Y d.y,Y (d.k+1),(.bool<|false),b0]]) (xs:=[(⟨b.o,Ti,d.y,d.k+1,aw,d.u⟩:dJ)]) h 129 qc Z Z Z ⟨⟨_,Z,h.dQ 17 Z⟩,an⟩ Z λw u427 h=>?_;obtain⟨l2,W⟩:=cK W;refine jm (R:=fK) (m:=[(⟨b.o,Ti,d.y,d.k+1,aw,d.u⟩:dJ)]) h 9 Z (h.cZ 129 Z) qc Z Z Z l2.1 l2.2 λw q2 h=>kY mr Z<|fJ h 7 [j7,l1,q2] Z wR Z Z Z Z (h.bW 9 Z).one λw h=>ax<|Pv results53 (⟨_,Z,?_⟩);exact qe;refine dn<|Pv results53 (⟨_,Z,?_⟩);exact qe;exact qe;refine D ?_;refine uz Z Z hp Z (λq=>fG (iY q)<|fG Z Z) (iP _ _ h.lt QN.1.bC 3 _ Z) λw z7=>?_
 replace h:=h.grow z7;refine ib (λq0 W=>?_) λq0 W=>?_;refine dO (Zs:=(λx=>x=j3)) mixed h λw h=>bK 0 kR EJ Z<|mJ 1 h 14 13 bP Z<|bK 2 kR Fld106x0 Z<|bR λws436 s=>aO 3 Z<|fe h 14 [Y 3,Y d.y,Y d.k,Y 0,nS,nS] Z bP Z Z Z Z Z λw h e9=>?_;replace s:=s.same e9;refine ax<|ah s<|bK 4 s Fld106x3 Z<|aO 5 Z<|fe h 14 [Y 3,Y d.y,Y d.k,Y QN.1.bC,nS,nS] Z bP Z Z Z Z Z λw h f3=>?_;replace s:=s.same f3;refine ax<|ah s<|dP<|aL ?_;replace h:=(h.xX (R:=dL) (E:=3) 18).xX (R:=dL) (E:=3) 21;exact ik (3,QN.1.bC,nS,[],nS,[]) ⟨h.cn _,W⟩;refine dX (σ:=Int×Int) h (inl [458,459,460,461,462]) [1,5,6,7,8,9,17,12,48,49,14] (λ⟨g4,g5⟩=>⟨[],[(13,.blk v1 [g9,g1,Y g4,Y g5])],pJ N a QN b8 b yt d g4 g5=U r⟩) ?_ ?_;rintro⟨g4,g5⟩w aU h W;refine ib (λu7 W=>?_) λu7 W=>?_;refine D ?_;refine di (args:=[Y 7]) hp Z Z<|xF func51 ntmps51 Z<|D ?_;refine aK h 95 bL λw b441 h=>D ?_;refine iW mZ Z eu<|mI Z<|aW h 95 bL Z (bO Z) λw h=>D ?_;refine gy (v2:=Y 7) results51 Z Z h 95 Z bL Z (⟨_,Z,?_⟩);refine D ?_;refine aW h 6 bL Z (bO Z) λw h=>D ?_;refine gy (v2:=Y 7) results14 Z Z h 6 Z bL Z ?_;cases W;exact⟨h.grown,_,_,_,Z,ek.nil,ek.nil,ek.nil⟩;refine iE λj8 u4 W=>?_;refine il hp Z Z (V9 N _ _ h.lt aq a.r (h.dQ 1 Z) (⟨QN.1.i,QN.1.j,g4,g5⟩:Ys) g9 g1 (h.kC 48 Z) (h.kC 49 Z) b8 _ u4) ?_;rintro _ w⟨q4,u444,y5,i9,rfl,g445,p4,g449,g450⟩;replace h:=((h.wJ 96 q4 g449 g450).aA 97 g445.VS).aA 98 p4.VS.up;refine D ?_;refine aW h 13 dh Z ow λw h=>kY TC Z<|fJ h 14 [Y 2,Y d.y,Y d.k,Y 0,i9,nS] Z lV Z Z Z Z (h.bW 96 Z).one λw h=>iE λy452 e453 W=>?_;refine ja h 99 hp Z Z (JX N _ _ h.lt j8.1 u444 y5 (h.kC 97 Z) (h.kC 98 Z) _ e453) λw k6 h=>kY LP Z<|fJ h 14 [Y 2,Y d.y,Y d.k,Y 0,i9,k6] Z lV Z Z Z Z (h.bW 99 Z).one λw h=>ax<|aL ?_;replace h:=(h.jV 96 18 Z Z tS).jV 99 21 Z Z tS;exact ik (2,0,i9,j8.2.1,k6,y452) ⟨h.cn _,W⟩;refine ib (λy8 W=>?_) λy8 W=>?_;refine D ?_;refine fJ h 13 [g9,g1,Y 0,Y QN.1.bC] Z bP Z Z Z Z Z λw h=>kY EJ Z<|fJ h 13 [g9,g1,Y 0,Y 0] Z bP Z Z Z Z Z λw h=>qe;exact qe;refine ib (λc459 W=>?_) λc459 W=>?_;exact qe;exact qe;refine D ?_;obtain⟨b461,y3,s5⟩:=h.zO 8 gT Z Oa;refine jN s5 Z<|kY EH Z ?_;obtain⟨cs463,x8,t1⟩:=h.p9 8 Z y3 (aM Oa).2;obtain⟨u466,u468,u470,rfl,g467,u6,t3⟩:=fM t1;replace h:=((h.aA 52 g467).aA 149 u6.up).aA 150 t3.up.up;refine aC (jl (k:=0) x8 Jq Z Z)<|aC (mY (c1:=[]) (c2:=[pT b2]) Z Z)<|di (args:=[u466,.func (.func 61) #[] #[pT b2]]) hp Z Z<|xF func60 ntmps60 Z<|D ?_
 refine wO (σ:=Unit) (λ_=>⟨[],[],()⟩) () (inl ([4,5]++rg 8 11)) [1,5,6,7,8,9,52] h W (wN (h.kC 110 Z).aZ) ?_ ?_;rintro _ i473 nx476 w aU hik e477 e478r h W;refine iE λb6 r9 W=>?_;obtain⟨b482,o483,cs484,h,s6,v0⟩:=h.zR 52 130 dZ Z r9;obtain⟨k0,rfl,g487⟩:=jQ s6;replace h:=h.aA 151 g487.up;refine jN v0 Z<|D ?_;refine di (args:=[.agg #[Y b6.y,Y b6.k,k0,Y b6.E],pT b2]) hp Z Z<|xF func61 ntmps61 Z<|D ?_;refine fT (cs:=[Y b6.y,Y b6.k,k0,Y b6.E]) h 131 Z Z λw b488 h=>D ?_;refine iB results61 Z (⟨_,Z,?_⟩);refine ib (λc489 W=>?_) λc489 W=>?_;refine D ?_;refine iB results60 Z (⟨_,Z,?_⟩);exact qe;exact re;rintro _ i473 w aU h W;refine D ?_;refine iB results60 Z (⟨_,Z,?_⟩);exact qe;refine ib (λc490 W=>?_) λc490 W=>?_;exact qe;refine ib (λc491 W=>?_) λc491 W=>?_;exact qe;exact qe;refine dO (Zs:=(λx=>x=S)) mixed h λw h=>bK 1 kR l9 Z<|mJ 2 h 7 4 wQ Z<|bK 5 kR mr Z<|mJ 6 h 7 4 wR Z ?_;obtain⟨Lr,W⟩:=cK W;obtain⟨Ls,W⟩:=cK W;refine bR λws494 c=>gu 0 4 Q Z bu Z bu ?_ ?_;refine oI (R:=iV) (vs:=[]) (xs:=([]:H dD)) h 16 F6 Z Z Z an Z λw e5 h YI YJ=>?_;have EZ:=mf c YJ;replace c:=c.grow YI;refine ax<|ah c<|gu 3 4 Q Z bu Z bu ?_ ?_;have Nt:=c.size;refine jO (R:=iV) (m:=a.m) h 16 Z (h.gW 2 Z) F6 Z Z Z Lr.1 Lr.2 λw Al h Nu Nv=>?_;replace c:=c.zJ Nu EZ;have sc:=sj Nt EZ Nv;refine ax<|ah c<|aO 4 Z<|oI (R:=fK) (vs:=[]) (xs:=([]:H dJ)) h 15 qc Z Z Z an Z λw a4 h Nw Ny=>?_;have Dh:=mf c Ny;replace c:=c.grow Nw;refine ax<|ah c<|aO 7 Z ?_;have Nz:=c.size;refine jO (R:=fK) (m:=a.s) h 15 Z (h.gW 3 Z) qc Z Z Z Ls.1 Ls.2 λw FM h NA NB=>?_;replace c:=c.zJ NA Dh;have P:=sj Nz Dh NB;refine ax<|ah c<|bK 8 c l9 Z<|aO 9 Z<|fe h 7 [aq,Al,yU] Z wQ Z Z Z Z (h.bW 16 Z).one λw h QP=>?_;replace c:=c.same QP;refine ax<|ah c<|bK 10 c mr Z<|aO 11 Z<|fe h 7 [aq,Al,FM] Z wR Z Z Z Z (h.bW 15 Z).one λw h NC=>?_;replace c:=c.same NC;refine ax<|ah c<|dP<|aL ?_;replace h:=(h.jV 16 8 Z Z tS).jV 15 9 Z Z tS;exact ik (Al,FM) ⟨h.cn _,W⟩;refine oI (R:=fK) (vs:=[]) (xs:=([]:H dJ)) h 15 qc Z Z Z an Z λw a4 h Nw Ny=>?_;have Dh:=mf c Ny;replace c:=c.grow Nw;refine ax<|ah c<|aO 3 Z ?_;have Nt:=c.size;refine jO (R:=iV) (m:=a.m) h 16 Z (h.gW 2 Z) F6 Z Z Z Lr.1 Lr.2 λw Al h Nu Nv=>?_;replace c:=c.zJ Nu EZ;have sc:=sj Nt EZ Nv;refine ax<|ah c<|aO 7 Z ?_;have Nz:=c.size;refine jO (R:=fK) (m:=a.s) h 15 Z (h.gW 3 Z) qc Z Z Z Ls.1 Ls.2 λw FM h NA NB=>?_;replace c:=c.zJ NA Dh;have P:=sj Nz Dh NB
 refine ax<|ah c<|bK 8 c l9 Z<|aO 9 Z<|fe h 7 [aq,Al,yU] Z wQ Z Z Z Z (h.bW 16 Z).one λw h QP=>?_;replace c:=c.same QP;refine ax<|ah c<|bK 10 c mr Z<|aO 11 Z<|fe h 7 [aq,Al,FM] Z wR Z Z Z Z (h.bW 15 Z).one λw h NC=>?_;replace c:=c.same NC;refine ax<|ah c<|dP<|aL ?_;replace h:=(h.jV 16 8 Z Z tS).jV 15 9 Z Z tS;exact ik (Al,FM) ⟨h.cn _,W⟩;refine oI (R:=fK) (vs:=[]) (xs:=([]:H dJ)) h 15 qc Z Z Z an Z λw a4 h Nw Ny=>?_;have Dh:=mf c Ny;replace c:=c.grow Nw;refine ax<|ah c<|aO 0 Z<|oI (R:=iV) (vs:=[]) (xs:=([]:H dD)) h 16 F6 Z Z Z an Z λw e5 h YI YJ=>?_;have EZ:=mf c YJ;replace c:=c.grow YI;refine ax<|ah c<|aO 3 Z ?_;have Nt:=c.size;refine jO (R:=iV) (m:=a.m) h 16 Z (h.gW 2 Z) F6 Z Z Z Lr.1 Lr.2 λw Al h Nu Nv=>?_;replace c:=c.zJ Nu EZ;have sc:=sj Nt EZ Nv;refine ax<|ah c<|aO 7 Z ?_;have Nz:=c.size;refine jO (R:=fK) (m:=a.s) h 15 Z (h.gW 3 Z) qc Z Z Z Ls.1 Ls.2 λw FM h NA NB=>?_;replace c:=c.zJ NA Dh;have P:=sj Nz Dh NB;refine ax<|ah c<|bK 8 c l9 Z<|aO 9 Z<|fe h 7 [aq,Al,yU] Z wQ Z Z Z Z (h.bW 16 Z).one λw h QP=>?_;replace c:=c.same QP;refine ax<|ah c<|bK 10 c mr Z<|aO 11 Z<|fe h 7 [aq,Al,FM] Z wR Z Z Z Z (h.bW 15 Z).one λw h NC=>?_;replace c:=c.same NC;refine ax<|ah c<|dP<|aL ?_;replace h:=(h.jV 16 8 Z Z tS).jV 15 9 Z Z tS;exact ik (Al,FM) ⟨h.cn _,W⟩
def sS(b:H Int)(e:aH×Int)(a:(H Int×H bM×H dD×H dJ)->L YU)(f:H bM)(d:H dD)(c:H dJ):L YU:=
 iC (Room 8 b [e.2]) (a (b++[e.2],f,d,c))
def sU(N:Nat)(c:mQ)(s:H Int×H bM×H dD×H dJ)(a:H Int×H bM×H dD×H dJ->L YU):L YU:=
 match s with|(x55,y57,Z7,y61)=>ao (qK N (⟨y57,Z7,y61⟩:aH) c) λb=>bif G (b.2=0)then sS x55 b a b.1.r b.1.m b.1.s else sS x55 b a y57 Z7 y61
def Eb(b:aH×H Int×Int)(s:H Int×H bM×H dD×H dJ):L YU:=
 match s with|(x55,y57,Z7,y61)=>bif G (b.2.2=0)then Option.bind (xC b.2.1 x55) λc=>bif c then Option.bind (tJ b.1 (⟨y57,Z7,y61⟩:aH)) λa=>U a else U aw else U aw
def mU(N:Nat)(c:aH×H Int×Int)(b:H mQ)(a:aH)(g:Int):L YU:=
 ao (yO N) λe=>bif ((!e)||G (g≠0))then Option.bind (yO N) λf=>bif ((f&&G (c.2.2=g))&&G ((O c.2.1:Int)=0))then Option.bind (tJ c.1 (⟨[],[],[]⟩:aH)) λd=>U d else U aw else vq (sU N) (Eb c) b ([],a.r,a.m,a.s)
def BM(N:Nat)(a:aH)(b:H mQ):L YU:=
 ao (Qm N a b) λd=>ao (vX N a) λc=>bif (G (c=0)&&G (120<(O b:Int)))then mU N d b a 2 else mU N d b a c
theorem QQ(N:Nat)(I:ay)(M:BS)(hM:lg M I)(C:ql prog 4 I)(a:aH)(z y A:B)(b5:bX iO I M z a.r)(c3:ek iV I BE M y a.m)(b6:ek fK I BE M A a.s)(P:B)(b:H mQ)(hb:ek rHap I BE M P b)(r:YU)(W:BM N a b=U r):
  bp prog 5 #[.agg #[z,y,A],P] I (X9 I (.bool r)):=by
 refine xF func5 ntmps5 Z ?_;have h:=SH.init hM;replace h:=((h.xR 1 b5 aG).bV 2 c3<|jk aG).bV 3 b6<|aQ<|jk aG;replace h:=h.bV 4 hb<|aQ<|aQ<|jk aG;have OQ:=hb.aZ;refine D ?_;refine fT (cs:=[z,y,A]) h 5 Z Z λw b1 h=>iE λt e3 W=>?_;refine il hp Z Z (world_Run_c N _ _ h.lt (C.go h.keep) a z y A (h.kC 1 Z) (h.gW 2 Z) (h.gW 3 Z) P b (h.gW 4 Z) _ e3) ?_;rintro _ w⟨b0,u4,u6,u8,Vm,rfl,g5,g7,g9,c2,b4⟩;replace h:=((h.wJ 9 b0 c2 b4).aA 6 g5.VS).aA 7 g7.VS.up;replace h:=h.aA 8 g9.VS.up.up;refine D ?_;refine aK h 10 bL λw d7 h=>aW h 10 bL Z ow λw h=>iE λFq c1 W=>?_;refine bg h hp Z Z (O6 N _ _ h.lt (C.go h.keep) a z y A (h.kC 1 Z) (h.gW 2 Z) (h.gW 3 Z) _ c1) λw h=>aI Z<|nN<|dX (σ:=Int) h (inl ([8]++rg 23 7)) [1,2,3,4,5,6,7,8,9,10] (λab=>⟨[(8,Y ab)],[],mU N t b a ab=U r⟩) ?_ ?_;rintro ab w aU h W;refine iE λd0 b7 W=>?_;refine bg h hp Z Z (KD N _ _ h.lt (C.go h.keep) _ b7) λw h=>ib (λa6 W=>?_) λa6 W=>?_;refine iE λb9 a2 W=>?_;refine bg h hp Z Z (KD N _ _ h.lt (C.go h.keep) _ a2) λw h=>D ?_;refine cO Z Z (λq=>fI (v:=Vm) Z)<|cO Z Z (λq=>sH Hh (iY q)<|h.cZ 9 Z)<|D ?_;refine fV (b:=(b9&&G (t.2.2=ab))&&G ((O t.2.1:Int)=0)) W (λK W=>?_) λK W=>?_;refine D ?_;refine iW mZ Z eu<|oN K Z ?_;obtain⟨d9,b2,W⟩:=aR W;refine bg h hp Z Z (FJ _ _ h.lt t.1 u4 u6 u8 (h.kC 6 Z) (h.kC 7 Z) (h.kC 8 Z) (⟨[],[],[]⟩:aH) nS nS nS ek.nil ek.nil ek.nil _ b2) λw h=>lf;exact lf;refine D ?_;replace h:=((h.xX (R:=dL) (E:=29) 14).iM 1 11 Z).Y5 2 12 Z;replace h:=h.Y5 3 13 Z;refine kN (σ:=B×H Int×B×H bM×B×H dD×B×H dJ) (λ⟨k,d,c,j,i,x,f,g⟩=>⟨[(9,k)],[(5,.blk b1 [c,i,f]),(14,.own dL 29 k d),(11,.rd iO c j),(12,.sr iV i x),(13,.sr fK f g)],(d,j,x,g)⟩) (nS,[],z,a.r,y,a.m,A,a.s) (inl ([9,11,12,13]++rg 54 18)) [4,6,7,8,9,10] h W (h.gW 4 Z).aZ ?_ ?_;rintro⟨k,d,c,j,i,x,f,g⟩d5 a8 Pq al w aU hik d3 c9 w0 h W;refine D ?_;obtain⟨d6,d8,c7,h,a9,a3⟩:=h.zS 4 27 T8 Z<|fE hik w0;obtain rfl:=a9;refine jN a3 Z<|D ?_;refine aK h 21 F2 λw d2 h=>aW h 21 F2 Z (bO Z) λw h=>iE λu a7 W=>?_;refine il hp Z Z (Sa N _ _ h.lt (C.go h.keep) (⟨j,x,g⟩:aH) c i f (h.dQ 11 Z) (h.gW 12 Z) (h.gW 13 Z) Pq _ a7) ?_;rintro _ w⟨X,a0,T,b3,rfl,c4,c6,a1⟩;replace h:=((h.xQ 15 X c4).aA 16 c6.up).aA 17 a1.up.up;refine D ?_;refine aK h 22 bL λw d4 h=>aW h 22 bL Z ow λw h=>aI Z<|nN<|dX (σ:=B×H bM×B×H dD×B×H dJ) h (inl [64,65,66]) [4,6,7,8,9,10,14] (λ⟨s,sc,p,o,l,n⟩=>⟨[],[(5,.blk b1 [s,p,l]),(18,.rd iO s sc),(19,.sr iV p o),(20,.sr fK l n)],sS d u al sc o n=U r⟩) ?_ ?_
 rintro⟨s,sc,p,o,l,n⟩w aU h W;refine D ?_;refine EN [u.2] h 36 TB Z λw d1 h=>?_;obtain⟨Zs,W⟩:=cK W;refine jm (R:=dL) (m:=[u.2]) h 14 Z (h.cZ 36 Z) TB Z Z Z Zs.1 Zs.2 λw b8 h=>D ?_;refine aL ?_;replace h:=((h.iM 18 11 Z).Y5 19 12 Z).Y5 20 13 Z;exact rend (b8,d++[u.2],s,sc,p,o,l,n) ⟨h.cn _,W⟩;refine ib (λa5 W=>?_) λa5 W=>?_;refine D ?_;refine aW h 5 bL Z ow λw h=>ax<|aL ?_;replace h:=((h.iM 15 18 Z).toSr 16 19 Z).toSr 17 20 Z;exact ik (a0,u.1.r,T,u.1.m,b3,u.1.s) ⟨h.cn _,W⟩;refine dn<|aL ?_;replace h:=((h.iM 11 18 Z).Y5 12 19 Z).Y5 13 20 Z;exact ik (c,j,i,x,f,g) ⟨h.cn _,W⟩;rintro⟨k,d,c,j,i,x,f,g⟩a8 w aU h W;refine D ?_;refine fV (b:=decide<|t.2.2=0) W (λa4 W=>?_) λa4 W=>?_;refine iE λc5 c0 W=>?_;refine bg h hp Z Z (JU _ _ h.lt Vm t.2.1 (h.cZ 9 Z) k d (h.cZ 14 Z) _ c0) λw h=>D ?_;refine fV (b:=c5) W (λS W=>?_) λS W=>?_;refine iE λc8 aq W=>?_;refine bg h hp Z Z (FJ _ _ h.lt t.1 u4 u6 u8 (h.kC 6 Z) (h.kC 7 Z) (h.kC 8 Z) (⟨j,x,g⟩:aH) c i f (h.kC 11 Z) (h.gW 12 Z) (h.gW 13 Z) _ aq) λw h=>lf;exact lf;refine D ?_;refine aC (je (b:=aw) (v:=(.bool<|false)) Z Z)<|lf;refine D ?_;refine cO Z Z (λq=>fI (v:=P) Z)<|ib (λF W=>?_) λF W=>?_;exact qe;exact qe
end
open Go Go.Proofs Go.LX
noncomputable section
def Qs(a:gz)(b:gz):L YU:=
 ao (rY a.B b.B) λd=>bif d then Option.bind (rY a.z b.z) λc=>U c else U aw
def Sb(b:Unit->L YU)(a:YU):L YU:=
 bif a then U aw else b ()
def FC(b:H dJ)(f:Int)(a:dJ)(s:Unit)(e:Unit->L YU):L YU:=
 ao (vx b f) λc=>bif ((((G ((a.from_:Int)=c.from_)&&G ((a.x:Int)=c.x))&&G ((a.t:Int)=c.t))&&G ((a.k:Int)=c.k))&&(a.G==c.G))then Option.bind (CM a.u c.u) λd=>Sb e (!d)else Sb e bh
def Wg(s:Unit):L YU:=
 U bh
def L0(a:H dJ)(b:H dJ):L YU:=
 bif G (((O a:Int):Int)≠(O b:Int))then U aw else ic (FC b) Wg 0 a ()
end
open Go Go.Proofs Go.LX
noncomputable section
abbrev preL:H (Int×vh):=[(2,[118]),(4,[46]),(5,[110,101,119]),(6,[102]),(1,[])]
theorem vt{α β:Type}(a:α)(f:α->L β):(U a).bind f=f a:=rfl
section
variable{α σ:Type}{g:α->L σ}
theorem find_uniq{l:H α}(b:∀p∈l,∀q∈l,g p≠bd->g q≠bd->p=q){p:α}(J:p∈l){t:σ}(h:g p=U t):l.findSome? g=U t:=by
 cases e:l.findSome? g with
 |none=>
  rw[tG]at e;rw[e p J]at h;cases h
 |some u=>
  obtain⟨q,c,a⟩:=ta e;have:=b p J q c (by rw[h];simp) (by rw[a];simp);subst this;rw[h]at a;exact a.symm
variable{step:α->σ->L σ}
theorem SZ:∀{l:H α},(∀p∈l,∀s,step p s=U ((g p).getD s))->(∀p∈l,g p=bd)->∀s,MT step l s=U s
 |[],_,_,s=>rfl
 |p::l,h,hn,s=>by
  unfold MT;rw[h p C7,hn p C7,xT,vt];exact SZ (λq a=>h q<|bo _ a) (λq a=>hn q<|bo _ a) s
theorem S7:∀{l:H α},(∀p∈l,∀s,step p s=U ((g p).getD s))->(∀p∈l,∀q∈l,g p≠bd->g q≠bd->p=q)->l.Nodup->∀s,MT step l s=U ((l.findSome? g).getD s)
  |[],_,_,_,s=>rfl
  |p::l,h,hu,hn,s=>by
    unfold MT;rw[h p C7,vt];have d:=List.nodup_cons.1 hn;cases e:g p with
    |none=>
      rw[xT,S7 (λq c=>h q (bo _ c)) (λa i b f=>hu a (bo _ i) b (bo _ f)) d.2 s,wq,e]
    |some t=>
      rw[Option.getD_some,SZ (λq c=>h q (bo _ c)) (λq c=>?_) t,wq,e]
      · rfl
      · cases e2:g q with
        |none=>rfl
        |some u=>
          have:=hu p C7 q (bo _ c) (by rw[e];simp) (by rw[e2];simp);subst this;exact ZL c d.1
theorem folds_one{Zs:H α}(h:∀p∈Zs,∀s,step p s=U ((g p).getD s))(b:∀p∈Zs,∀q∈Zs,g p≠bd->g q≠bd->p=q)(hn:Zs.Nodup)(s:σ):EG step Zs s ((Zs.findSome? g).getD s):=by
 intro l hl;rw[S7 (λp J=>h p (hl.mem_iff.1 J)) (λp J q a=>b p (hl.mem_iff.1 J) q (hl.mem_iff.1 a)) (hl.nodup_iff.2 hn) s];congr 2;cases e:Zs.findSome? g with
 |none=>
  rw[tG]at e⊢;exact λx c=>e x<|hl.mem_iff.1 c
 |some t=>
  obtain⟨p,J,d⟩:=ta e;exact find_uniq (λp J q a=>b p (hl.mem_iff.1 J) q<|hl.mem_iff.1 a) (hl.mem_iff.2 J) d
end
def joO(a:Int×vh)(y:Int×YU)(x:YU):L (Int×Int):=bif x then U (a.1,y.1)else bd
def stepO(s:vh)(a:Int×vh):L (L (Int×Int)):=
 ao (DG s a.2) λd=>ao (Oh d) λb=>bif (!b.2)then Option.bind (sF (⟨a.1,b.1⟩:Tok)) λc=>U (joO a b (G ((c:vh)=s)))else U (joO a b aw)
theorem j227_eq(c:Int×vh)(y:Int×YU)(a b:Int)(x:YU):GH c y a b x=U ((joO c y x).getD (a,b)):=by
 unfold GH joO;cases x<;>rfl
theorem b228_eq(s:vh)(c:Int×vh)(st:Int×Int):AU s c st=ao (stepO s c) λo=>U (o.getD st):=by
 obtain⟨a,b⟩:=st;unfold AU stepO;simp only[j227_eq];cases DG s c.2 with
 |none=>rfl
 |some y=>
  simp only[vt];cases Oh y with
  |none=>rfl
  |some z=>
   simp only[vt];cases z.2 with
   |true=>rfl
   |false=>
    simp only[en,Z1];cases sF (⟨c.1,z.1⟩:Tok)<;>rfl
def gO(s:vh)(p:Int×vh):L (Int×Int):=(stepO s p).join
def okW(s:vh):YU:=preL.all (λp=>(stepO s p).isSome)&&preL.all (λp=>preL.all λq=>(gO s p).isNone||(gO s q).isNone||G (p=q))
def preC(s:vh):Int×Int:=(preL.findSome? (gO s)).getD (0,0)
theorem fold_ok{s:vh}(h:okW s=bh):Oj (AU s) preL (0,0)=U (preC s):=by
  unfold okW at h;rw[cS,pj,pj]at h;refine foldAny_eq<|folds_one (g:=gO s) (λp J st=>?_) (λp J q b a c=>?_) tS (0,0)
  · have a:=h.1 p J;rw[b228_eq];unfold gO;cases e:stepO s p with
    |none=>rw[e]at a;cases a
    |some o=>cases o<;>rfl
  · have:=pj.1 (h.2 p J) q b;rw[dC,dC]at this;rcases this with(e|e)|e
    · exact ZL (tx.1 e) a
    · exact ZL (tx.1 e) c
    · exact UP e
def foldC(s:vh):L (Int×Int):=bif okW s then U (preC s)else Oj (AU s) preL (0,0)
theorem foldC_eq(s:vh):foldC s=Oj (AU s) preL (0,0):=by
 unfold foldC;cases e:okW s with
 |false=>rfl
 |true=>exact(fold_ok e).symm
def Ja(N:Nat)(f:H Tok)(F:H ll)(g:Int)(e:(H Tok×Int×YU×Int)->L (H Tok×gY))(b:vh)(d:YU)(c:Int):L (H Tok×gY):=
 ao (foldC b) λa=>(Z8 N b f F c g e d) a
theorem Jx: @Ja= @GI:=by
 funext a b c d e f g h;unfold Ja GI;rw[foldC_eq]
def Pf(N:Nat)(a:H vh)(F:H ll)(s:H Tok×Int×YU×Int)(c:H Tok×Int×YU×Int->L (H Tok×gY)):L (H Tok×gY):=
 match s with|(nu,Ce,y19,y20)=>bif (G ((0:Int)<Ce)&&y19)then bif G (((O a:Int):Int)<=y20)then Ja N nu F Ce c [] aw y20 else iC (j6 (y20+1)) (iC (j6 ((y20+1)-1)) (ao (vx a ((y20+1)-1)) λb=>Ja N nu F Ce c b y19 (y20+1)))else U (nu,(⟨y20,y19⟩:gY))
theorem J1: @Pf= @RX:=by
 unfold Pf RX;rw[Jx]
def Fv(N:Nat)(b:gY)(a:H vh)(F:H ll):L (H Tok×gY):=
 again (Pf N a F) N ([],1,b.ok,b.at_)
theorem RW: @Fv= @Z9:=by
 unfold Fv Z9;rw[J1]
def Jb(N:Nat)(l:gY->H vh->H ll->Int->L (H dM×gY))(d:Int)(b:H vh)(F:H ll)(a:Int)(j:H dM)(f:Int)(i:(H dM×Int×YU)->L (H dM×gY))(e:Int)(k:YU)(g:H Tok):L (H dM×gY):=
 bif G (((d+1):Int)=2)then Option.bind (Fv N (⟨e,k⟩:gY) b F) λc=>GJ l d a b F j f g i c.2.at_ c.2.ok c.1 else GJ l d a b F j f g i e k []
theorem Jw: @Jb= @GK:=by
 unfold Jb GK;rw[RW]
def EC(N:Nat)(j:gY->H vh->H ll->Int->L (H dM×gY))(d:Int)(b:H vh)(F:H ll)(a:Int)(i:H dM)(g:(H dM×Int×YU)->L (H dM×gY))(e:Int)(k:YU)(f:Int):L (H dM×gY):=
 bif G (((d+1):Int)≠4)then Option.bind (Fv N (⟨e,k⟩:gY) b F) λc=>Jb N j d b F a i f g c.2.at_ c.2.ok c.1 else Jb N j d b F a i f g e k []
theorem Kf: @EC= @DR:=by
 unfold EC DR;rw[RW,Jw]
def Jc(N:Nat)(n:gY->H vh->H ll->Int->L (H dM×gY))(k:H dM)(b:H vh)(F:H ll)(a:Int)(m:(H dM×Int×YU)->L (H dM×gY))(i:vh)(c:Int)(d:YU):L (H dM×gY):=
 bif G ((i:vh)=[125])then U (k,(⟨c,d⟩:gY))else Option.bind (Zh [115,101,116,32,112,117,116,32,115,97,121,32,112,97,117,115,101,32,103,111,32,105,102,32,119,104,105,108,101,32,114,101,116,117,114,110]) λl=>ao (DL l i) λe=>iC (j6 (e+1)) (bif (!(d&&G ((0:Int)<(e+1))))then U ([],(⟨c,d&&G ((0:Int)<(e+1))⟩:gY))else bif G (((e+1):Int)<=2)then bif G (((O b:Int):Int)<=c)then Option.bind (Oh []) λj=>EC N n e b F a k m c aw j.1 else iC (j6 (c+1)) (iC (j6 ((c+1)-1)) (ao (vx b ((c+1)-1)) λg=>ao (Oh g) λf=>EC N n e b F a k m (c+1) (d&&G ((0:Int)<(e+1))) f.1))else EC N n e b F a k m c (d&&G ((0:Int)<(e+1))) 0)
theorem Kp: @Jc= @GL:=by
 unfold Jc GL;rw[Kf]
def Pg(N:Nat)(e:gY->H vh->H ll->Int->L (H dM×gY))(b:H vh)(F:H ll)(a:Int)(s:H dM×Int×YU)(d:H dM×Int×YU->L (H dM×gY)):L (H dM×gY):=
 match s with|(zq,NM,P9)=>bif P9 then bif G (((O b:Int):Int)<=NM)then Jc N e zq b F a d [] NM aw else iC (j6 (NM+1)) (iC (j6 ((NM+1)-1)) (ao (vx b ((NM+1)-1)) λc=>Jc N e zq b F a d c (NM+1) P9))else U ([],(⟨NM,P9⟩:gY))
theorem I0: @Pg= @R3:=by
 unfold Pg R3;rw[Kp]
def K6(N:Nat)(d:gY->H vh->H ll->Int->L (H dM×gY))(b:H vh)(F:H ll)(a:Int)(c:Int)(e:YU):L (H dM×gY):=
 again (Pg N d b F a) N ([],c,e)
theorem Pu: @K6= @JK:=by
 unfold K6 JK;rw[I0]
def Jd(N:Nat)(f:gY->H vh->H ll->Int->L (H dM×gY))(b:H vh)(F:H ll)(a:Int)(d:YU)(c:Int)(e:YU):L (H dM×gY):=
 bif d then K6 N f b F a c aw else K6 N f b F a c e
theorem IN: @Jd= @GM:=by
 unfold Jd GM;rw[Pu]
def OB(N:Nat)(e:gY->H vh->H ll->Int->L (H dM×gY))(c:gY)(b:H vh)(F:H ll)(a:Int):L (H dM×gY):=
 bif G (((O b:Int):Int)<=c.at_)then Jd N e b F a bh c.at_ aw else iC (j6 (c.at_+1)) (iC (j6 ((c.at_+1)-1)) (ao (vx b ((c.at_+1)-1)) λd=>Jd N e b F a (G ((d:vh)≠[123])||G ((6:Int)<a)) (c.at_+1) c.ok))
theorem srdBlock_r_p: @OB= @Nh:=by
 unfold OB Nh;rw[IN]
def QR:Nat->gY->H vh->H ll->Int->L (H dM×gY)
 |0=>λ_ _ _ _=>bd
 |N+1=>OB N (QR N)
theorem IH:∀N,QR N=JM N
 |0=>rfl
 |N+1=>by show OB N (QR N)=Nh N (JM N);rw[srdBlock_r_p,IH N]
def qQ(N:Nat)(d:H vh)(a:H ll)(b:Int)(g:(H ll×Int×YU)->L (H ll×Int))(e:Int)(f:YU):L (H ll×Int):=
 ao (QR N (⟨e,f⟩:gY) d a 1) λc=>ao (vx a b) λi=>g (a.set (b).toNat {i with body:=c.1},c.2.at_,c.2.ok)
theorem Kl: @qQ= @oz:=by
 unfold qQ oz;rw[show @QR= @JM from funext IH]
def qR(N:Nat)(d:H vh)(c:H ll)(b:Int)(f:(H ll×Int×YU)->L (H ll×Int))(a:Int)(g:YU):L (H ll×Int):=
 bif G (((O d:Int):Int)<=a)then qQ N d c b f a aw else iC (j6 (a+1)) (iC (j6 ((a+1)-1)) (ao (vx d ((a+1)-1)) λe=>qQ N d c b f (a+1) g))
theorem Km: @qR= @oD:=by
 unfold qR oD;rw[Kl]
def qU(N:Nat)(d:H vh)(c:H ll)(b:Int)(e:(H ll×Int×YU)->L (H ll×Int))(a:Int)(g:YU):L (H ll×Int):=
 bif G (((O d:Int):Int)<=a)then qR N d c b e a aw else iC (j6 (a+1)) (iC (j6 ((a+1)-1)) (ao (vx d ((a+1)-1)) λf=>qR N d c b e (a+1) g))
theorem Kn: @qU= @oF:=by
 unfold qU oF;rw[Km]
def qV(N:Nat)(f:H vh)(d:H ll)(b:Int)(g:(H ll×Int×YU)->L (H ll×Int))(c:YU)(a:Int)(e:YU):L (H ll×Int):=
 bif c then qU N f d b g a aw else qU N f d b g a e
theorem Ko: @qV= @oG:=by
 unfold qV oG;rw[Kn]
def wm(N:Nat)(c:H vh)(a:Int)(s:H ll×Int×YU)(d:H ll×Int×YU->L (H ll×Int)):L (H ll×Int):=
 match s with|(y95,y96,y97)=>bif G (((O c:Int):Int)<=y96)then qV N c y95 a d bh y96 aw else iC (j6 (y96+1)) (iC (j6 ((y96+1)-1)) (ao (vx c ((y96+1)-1)) λb=>qV N c y95 a d (G ((b:vh)≠[102,117,110])) (y96+1) y97))
theorem Kq: @wm= @xy:=by
 unfold wm xy;rw[Ko]
def wo(N:Nat)(b:H vh)(a:vh)(c:H ll)(s:Unit):L (H ll×Int):=
 Ax (wm N b) (C8 N b a) 0 ((O c:Int)).toNat (c,0,bh)
theorem Kr: @wo= @xz:=by
 unfold wo xz;rw[Kq]
def wu(N:Nat)(c:H vh)(a:vh)(b:H ll):L (H ll×Int):=
 bif (G (((O b:Int):Int)=0)||G ((4:Int)<(O b:Int)))then U ([],1)else Ax (C9 b) (wo N c a b) 0 ((O b:Int)).toNat ()
theorem Kt: @wu= @xA:=by
 unfold wu xA;rw[Kr]
def Am(N:Nat)(a:vh):L (H ll×Int):=
 ao (Tx a [32]) λb=>ic (Da b) (wu N b a) 0 b []
theorem Ph: @Am= @vY:=by
 unfold Am vY;rw[Kt]
def Di(N:Nat):L (H ll):=
 ao (Am N [102,117,110,32,48,32,49,32,123,32,115,101,116,32,48,32,51,32,119,104,105,108,101,32,118,48,32,123,32,115,97,121,32,102,49,32,118,48,32,118,48,32,103,111,32,118,48,32,112,97,117,115,101,32,115,101,116,32,48,32,45,32,118,48,32,49,32,125,32,125,32,102,117,110,32,50,32,50,32,123,32,114,101,116,117,114,110,32,42,32,118,48,32,118,49,32,125]) λa=>U a.1
theorem Tj: @Di= @vM:=by
 unfold Di vM;rw[Ph]
abbrev NN:Nat:=70000
theorem program_p:vM NN=Di NN:=by rw[Tj]
end
open Go Go.Proofs Go.LX
theorem eqInt(a b:H Int):CM a b=U (G (a=b)):=by
  unfold CM;by_cases h:O a=O b
  · rw[dF V];simp only[Z2,ba];rw[Pz (λx y=>G (x=y)) a b h rfl (λi x y f d c=>by
      unfold Ec;rw[kz,kz,d,c];by_cases e:x=y<;>simp[e]),Dn (λ_ _=>rfl)]
  · rw[dT V];have:a≠b:=λe=>h (by rw[e]);rw[dF this];rfl
theorem GZ(a b:Int):(G (0<=a)&&G (a<b))=aJ a b:=rfl
theorem inL(a b c:Int):(G (b<=a)&&G (a<=c))=aN a b c:=rfl
theorem OC(a:Int):jq a=aN a (-1000000000) 1000000000:=rfl
theorem tN(a b:Int):(G (a<0)||G (b<=a))= !aJ a b:=by
 unfold aJ;rw[dI];simp;try omega
theorem G5(a:Int):aJ a 4=aN a 0 3:=by
 unfold aJ aN;rw[dI];simp;omega
theorem QS{α:Type}(x:α)(l:H α):vx (x::l) 0=U x:=by simp[vx]
theorem OD{α:Type}(x y:α)(l:H α):vx (x::y::l) 1=U y:=by simp[vx]
theorem Fk{α:Type}(x y z:α)(l:H α):vx (x::y::z::l) 2=U z:=by simp[vx]
theorem QT(op a b c:Int)(x:bM)(n:Int)(hn:n=x.regs)(d:H Int)(h:op=7):∀l:H Int,vq (wE n) Br l ()=vq (qi ⟨op,a,b,c,d⟩ x) dK l ()
 |[]=>rfl
 |y::l=>by
  subst hn h;have f:vq (wE x.regs) Br (y::l) ()=bif (!aJ y x.regs)then U 3 else vq (wE x.regs) Br l ():=rfl;have e:vq (qi ⟨7,a,b,c,d⟩ x) dK (y::l) ()=bif (!aJ y x.regs)then U 3 else vq (qi ⟨7,a,b,c,d⟩ x) dK l ():=rfl;rw[f,e,QT 7 a b c x x.regs rfl d rfl l]
theorem len_one{l:H Int}:O l=1↔∃x,l=[x]:=by
 match l with
 |[]=>simp
 |[x]=>simp
 |x::y::r=>simp
set_option maxHeartbeats 2000000 in
theorem ins_eq(c:An)(i:Int)(x:bM)(g:H bM):iy c i g x.regs (O x.C:Int)=fO c x g:=by
  obtain⟨op,a,b,c,args⟩:=c;by_cases r:op=1
  · subst r;simp[iy,eT,eO,fU,gm,fP,dm,eU,dU,dS,dN,fO,fw,fA,bZ,fq,fu,dW,dV,lk,ic,QS,OD,Fk,GZ,inL,tN,OC,G5];cases ha:aJ a x.regs<;>cases hf:aN b (-1000000000) 1000000000<;>by_cases d:c=0<;>by_cases f:args=[]<;>simp_all[vq,dK]
  by_cases t:op=2
  · subst t;simp[iy,eT,eO,fU,gm,fP,dm,eU,dU,dS,dN,fO,fw,fA,bZ,fq,fu,dW,dV,lk,ic,QS,OD,Fk,GZ,inL,tN,OC,G5];cases ha:aJ a x.regs<;>cases hb:aJ b x.regs<;>by_cases d:c=0<;>by_cases f:args=[]<;>simp_all[vq,dK]
  by_cases z:op=3
  · subst z;simp[iy,eT,eO,fU,gm,fP,dm,eU,dU,dS,dN,fO,fw,fA,bZ,fq,fu,dW,dV,lk,ic,QS,OD,Fk,GZ,inL,tN,OC,G5];cases ha:aJ a x.regs<;>cases hb:aJ b x.regs<;>cases hc:aJ c x.regs<;>simp_all[vq,dK];by_cases e:O args=1
    · obtain⟨y,rfl⟩:=len_one.1 e;cases hy:aN y 1 5<;>simp_all[iy,eT,eO,fU,gm,fP,dm,eU,dU,dS,dN,fO,fw,fA,bZ,fq,fu,dW,dV,lk,ic,QS,OD,Fk,GZ,inL,tN,OC,G5,vq,qi,dK]
    · rw[dF (show¬((O args:Int)=1) by omega)];rfl
  by_cases v:op=4
  · subst v;simp[iy,eT,eO,fU,gm,fP,dm,eU,dU,dS,dN,fO,fw,fA,bZ,fq,fu,dW,dV,lk,ic,QS,OD,Fk,GZ,inL,tN,OC,G5];cases ha:aJ a x.regs<;>cases hb:aJ b x.regs<;>cases hf:aN c 0 3<;>by_cases f:args=[]<;>simp_all[vq,dK]
  by_cases u:op=5
  · subst u;simp[iy,eT,eO,fU,gm,fP,dm,eU,dU,dS,dN,fO,fw,fA,bZ,fq,fu,dW,dV,lk,ic,QS,OD,Fk,GZ,inL,tN,OC,G5];cases ha:aJ a x.regs<;>cases hf:aN b 1 4<;>by_cases d:c=0<;>by_cases f:args=[]<;>simp_all[vq,dK]
  by_cases p:op=6
  · subst p;simp[iy,eT,eO,fU,gm,fP,dm,eU,dU,dS,dN,fO,fw,fA,bZ,fq,fu,dW,dV,lk,ic,QS,OD,Fk,GZ,inL,tN,OC,G5];cases ha:aJ a x.regs<;>cases hb:aJ b x.regs<;>by_cases d:c=0<;>by_cases f:args=[]<;>simp_all[vq,dK]
  by_cases w:op=7
  · subst w;simp[iy,eT,eO,fU,gm,fP,dm,eU,dU,dS,dN,fO,fw,fA,bZ,fq,fu,dW,dV,lk,ic,QS,OD,Fk,GZ,inL,tN,OC,G5];cases ha:aJ a x.regs<;>cases hf:aJ b (O g:Int)<;>simp_all[vq,dK];cases J:vx g b with
    |none=>rfl
    |some y=>
      by_cases d:c=0<;>by_cases o:(O args:Int)=y.params<;>simp_all;exact QT 7 a b 0 x x.regs Z args Z args
  by_cases q:op=8
  · subst q;simp[iy,eT,eO,fU,gm,fP,dm,eU,dU,dS,dN,fO,fw,fA,bZ,fq,fu,dW,dV,lk,ic,QS,OD,Fk,GZ,inL,tN,OC,G5];cases ha:aJ a x.regs<;>by_cases k:b=0<;>by_cases d:c=0<;>by_cases f:args=[]<;>simp_all[vq,dK]
  by_cases s:op=9
  · subst s;simp[iy,eT,eO,fU,gm,fP,dm,eU,dU,dS,dN,fO,fw,fA,bZ,fq,fu,dW,dV,lk,ic,QS,OD,Fk,GZ,inL,tN,OC,G5];cases ha:aJ a x.regs<;>by_cases k:b=0<;>by_cases d:c=0<;>by_cases f:args=[]<;>simp_all[vq,dK]
  by_cases l:op=10
  · subst l;simp[iy,eT,eO,fU,gm,fP,dm,eU,dU,dS,dN,fO,fw,fA,bZ,fq,fu,dW,dV,lk,ic,QS,OD,Fk,GZ,inL,tN,OC,G5];by_cases o:a=0<;>by_cases k:b=0<;>by_cases d:c=0<;>by_cases f:args=[]<;>simp_all[vq,dK]
  by_cases m:op=11
  · subst m;simp[iy,eT,eO,fU,gm,fP,dm,eU,dU,dS,dN,fO,fw,fA,bZ,fq,fu,dW,dV,lk,ic,QS,OD,Fk,GZ,inL,tN,OC,G5];cases ha:aJ a x.regs<;>by_cases k:b=0<;>by_cases d:c=0<;>by_cases f:args=[]<;>simp_all[vq,dK]
  by_cases n:op=12
  · subst n;simp[iy,eT,eO,fU,gm,fP,dm,eU,dU,dS,dN,fO,fw,fA,bZ,fq,fu,dW,dV,lk,ic,QS,OD,Fk,GZ,inL,tN,OC,G5];by_cases o:a=0<;>cases hf:aJ b (O x.C:Int)<;>by_cases d:c=0<;>by_cases f:args=[]<;>simp_all[vq,dK]
  by_cases j:op=13
  · subst j;simp[iy,eT,eO,fU,gm,fP,dm,eU,dU,dS,dN,fO,fw,fA,bZ,fq,fu,dW,dV,lk,ic,QS,OD,Fk,GZ,inL,tN,OC,G5];cases ha:aJ a x.regs<;>cases hf:aJ b (O x.C:Int)<;>by_cases d:c=0<;>by_cases f:args=[]<;>simp_all[vq,dK]
  · simp[iy,eT,eO,fU,gm,fO,lk, *]
def G6(i:Nat)(x:bM):Int:=
 if(0<=x.params/\x.params<=3)/\(1<=x.regs/\x.params<=x.regs/\x.regs<=40)/\¬(i=0/\x.params≠0)then(if 1<=O x.C/\O x.C<=2000 then 0 else 2)else 3
theorem b39_eq(i:Nat)(x:bM)(c:Unit->L Int):rF (i:Int) x () c=if G6 i x≠0 then U (G6 i x)else c ():=by
  unfold rF G6;by_cases b:(0<=x.params/\x.params<=3)/\(1<=x.regs/\x.params<=x.regs/\x.regs<=40)/\¬(i=0/\x.params≠0)
  · have e:(((((G ((x.params:Int)<0)||G ((3:Int)<x.params))||G ((x.regs:Int)<1))||G ((x.regs:Int)<x.params))||G ((40:Int)<x.regs))||(G ((i:Int)=0)&&G ((0:Int)<x.params)))=false:=by
      simp only[cV,cm,decide_eq_false_iff_not];omega
    rw[e,Z3 b];simp only[Z2];by_cases a:1<=O x.C/\O x.C<=2000
    · rw[Z3 a,show(G (((O x.C:Int):Int)=0)||G ((2000:Int)<(O x.C:Int)))=aw by simp only[cV,decide_eq_false_iff_not];omega];rfl
    · rw[Z4 a,show(G (((O x.C:Int):Int)=0)||G ((2000:Int)<(O x.C:Int)))=bh by simp only[dC,decide_eq_true_eq];omega];rfl
  · have e:(((((G ((x.params:Int)<0)||G ((3:Int)<x.params))||G ((x.regs:Int)<1))||G ((x.regs:Int)<x.params))||G ((40:Int)<x.regs))||(G ((i:Int)=0)&&G ((0:Int)<x.params)))=true:=by
      simp only[dC,cS,decide_eq_true_eq];omega
    rw[e,Z4 b];rfl
theorem r39_eq(i:Nat)(x:bM)(c:Unit->L Int):kM (i:Int) x () c=if G6 i x≠0 then U (G6 i x)else c ():=by
  unfold kM G6 aN;by_cases b:(0<=x.params/\x.params<=3)/\(1<=x.regs/\x.params<=x.regs/\x.regs<=40)/\¬(i=0/\x.params≠0)
  · have e:(((!(G ((0:Int)<=x.params)&&G (x.params<=(3:Int))))||(!(G (max 1 x.params<=x.regs)&&G (x.regs<=(40:Int)))))||(G ((i:Int)=0)&&G ((x.params:Int)≠0)))=false:=by
      simp only[cV,cm,sl,cS,decide_eq_true_eq,decide_eq_false_iff_not];omega
    rw[e,Z3 b];simp only[Z2];by_cases a:1<=O x.C/\O x.C<=2000
    · rw[Z3 a,show(!(G ((1:Int)<=(O x.C:Int))&&G ((O x.C:Int)<=(2000:Int))))=aw by simp only[sl,cS,decide_eq_true_eq];omega];rfl
    · rw[Z4 a,show(!(G ((1:Int)<=(O x.C:Int))&&G ((O x.C:Int)<=(2000:Int))))=bh by simp only[ep,cm,decide_eq_false_iff_not];omega];rfl
  · have e:(((!(G ((0:Int)<=x.params)&&G (x.params<=(3:Int))))||(!(G (max 1 x.params<=x.regs)&&G (x.regs<=(40:Int)))))||(G ((i:Int)=0)&&G ((x.params:Int)≠0)))=true:=by
      simp only[dC,cS,ep,cm,decide_eq_true_eq,decide_eq_false_iff_not];omega
    rw[e,Z4 b];rfl
def D0:Nat->H bM->Int
 |_,[]=>0
 |i,x::p=>if G6 i x≠0 then G6 i x else D0 (i+1) p
theorem Fu(k:Unit->L Int):∀(p:H bM) (i:Nat),ic rF k (i:Int) p ()=if D0 i p≠0 then U (D0 i p)else k ()
 |[],i=>by simp[D0,ic]
 |x::p,i=>by
  show rF (i:Int) x () (ic rF k ((i:Int)+1) p)=_;rw[b39_eq,show((i:Int)+1)=((i+1:Nat):Int) by omega,Fu k p (i+1),D0];by_cases h:G6 i x=0<;>simp[h]
theorem RP(k:Unit->L Int):∀(p:H bM) (i:Nat),ic kM k (i:Int) p ()=if D0 i p≠0 then U (D0 i p)else k ()
 |[],i=>by simp[D0,ic]
 |x::p,i=>by
  show kM (i:Int) x () (ic kM k ((i:Int)+1) p)=_;rw[r39_eq,show((i:Int)+1)=((i+1:Nat):Int) by omega,RP k p (i+1),D0];by_cases h:G6 i x=0<;>simp[h]
theorem b35_eq(a:H bM)(x:bM)(i:Int)(c:An)(b:Unit->L Int):jg a x i c () b=jK x a c () b:=by
 unfold jg jK;rw[ins_eq]
theorem Lq(a:H bM)(x:bM)(k:Unit->L Int):∀(l:H An) (i:Int),ic (jg a x) k i l ()=vq (jK x a) k l ()
 |[],i=>rfl
 |c::l,i=>by
  have b:ic (jg a x) k (i+1) l=vq (jK x a) k l:=by funext u;exact Lq a x k l (i+1)
  have e:ic (jg a x) k i (c::l) ()=jg a x i c () (ic (jg a x) k (i+1) l):=rfl;have d:vq (jK x a) k (c::l) ()=jK x a c () (vq (jK x a) k l):=rfl;rw[e,d,b35_eq,b]
theorem b37_eq(a:H bM)(x:bM)(b:Unit->L Int):lW a x () b=jL a x () b:=by
 unfold lW jL;rw[Lq];rfl
theorem J2(a:H bM):tX a=pX a:=by
 unfold tX pX;have e:(G (((O a:Int):Int)=0)||G ((4:Int)<(O a:Int)))= !(aN (O a:Int) 1 4):=by
  unfold aN;rw[dI];simp only[dC,ep,cm,decide_eq_true_eq,decide_eq_false_iff_not];omega
 rw[e];have k1:∀l:H bM,vq (lW a) uC l ()=vq (jL a) pg l ():=by
  intro l;induction l with
  |nil=>rfl
  |cons x l ih=>
   have i:vq (lW a) uC (x::l) ()=lW a x () (vq (lW a) uC l):=rfl;have d:vq (jL a) pg (x::l) ()=jL a x () (vq (jL a) pg l):=rfl;have:(vq (lW a) uC l)=(vq (jL a) pg l):=by funext u;exact ih
   rw[i,d,b37_eq,this]
 have g:=Fu (uD a) a 0;have f:=RP (sO a) a 0;have c:ic rF (uD a) 0 a ()=_:=g;have b:ic kM (sO a) 0 a ()=_:=f;have k2:uD a ()=sO a ():=k1 a;rw[c,b,k2]
def wy(x:bM):Prop:=1<=O x.C/\O x.C<=2000
theorem fQ{α σ ρ:Type}{body:α->σ->(σ->ρ)->ρ}{k:σ->ρ}(x:α)(l:H α)(s:σ):vq body k (x::l) s=body x s (vq body k l):=rfl
theorem kJ{α σ ρ:Type}{body:α->σ->(σ->ρ)->ρ}{k:σ->ρ}(s:σ):vq body k [] s=k s:=rfl
theorem b8_tot(d:Int):∀l:H Int,∃y,vq (wE d) Br l ()=U y
 |[]=>⟨0,rfl⟩
 |x::l=>by
  obtain⟨y,a⟩:=b8_tot d l;rw[fQ];unfold wE;cases (!(G ((0:Int)<=x)&&G ((x:Int)<d)))with
  |true=>exact⟨3,rfl⟩
  |false=>exact⟨y,a⟩
theorem j5_tot(j:YU)(a:An)(b e:Int)(c:H bM)(f g d k:Int):∃y,eU j a b e c f g d k=U y/\(y=0->(O a.args:Int)=g):=by
 unfold eU;cases j with
 |false=>exact⟨3,rfl,λh=>ZL h tS⟩
 |true=>
  simp only[cE,Z2];generalize i:(((G ((a.a:Int)≠k)||G ((a.b:Int)≠e))||G ((a.c:Int)≠f))||G (((O a.args:Int):Int)≠g))=C;cases C with
  |true=>exact⟨4,rfl,λh=>ZL h tS⟩
  |false=>
   simp only[cV,decide_eq_false_iff_not,eN]at i;simp only[Z2];cases G ((a.op:Int)=7)with
   |true=>obtain⟨y,l⟩:=b8_tot d a.args;exact⟨y,l,λ_=>i.2⟩
   |false=>exact⟨0,rfl,λ_=>i.2⟩
theorem j4_tot(a:An)(b:Int)(c:H bM)(d:Int)(j:YU)(i g e f:Int):∃y,dm a b c d j i g e f=U y/\(y=0->(O a.args:Int)=i):=by
 unfold dm;cases G ((a.op:Int)=12)with
 |true=>exact j5_tot j a b e c f i d 0
 |false=>exact j5_tot j a b e c f i d g
def InsT(a:An)(r:L Int):Prop:=∃y,r=U y/\(y=0->O a.args<=3)
theorem PC(a:An)(b:Int)(c:H bM)(d:Int)(j:YU){i:Int}(g e f:Int)(h:i<=3):InsT a (dm a b c d j i g e f):=by
 obtain⟨y,m,k⟩:=j4_tot a b c d j i g e f;exact⟨y,m,λl=>by have:=k l;omega⟩
theorem Bp{a:An}{c:YU}{x y:L Int}(d:InsT a x)(b:InsT a y):InsT a (bif c then x else y):=by
  cases c
  · exact b
  · exact d
theorem Ks{a:An}{e:Int}(h:e≠0):InsT a (U e):=⟨e,rfl,λb=>ZL b h⟩
theorem check_ins(a:An)(b:Int)(c:H bM)(d e:Int)(J:∀x∈c,x.params<=3):InsT a (iy a b c d e):=by
  unfold iy;refine Bp (Ks tS)<|Bp (Ks tS)<|Bp (PC _ _ _ _ _ _ _ _ tS)<|Bp (PC _ _ _ _ _ _ _ _ tS) ?_;have f:∀x,InsT a (dN a b c d x):=λx=>by
    unfold dN;exact Bp (PC _ _ _ _ _ _ _ _ tS)<|Bp (PC _ _ _ _ _ _ _ _ tS)<|PC _ _ _ _ _ _ _ _ tS
  have i:∀x,InsT a (dS a b c d e x):=λx=>by
    unfold dS;refine Bp (PC _ _ _ _ _ _ _ _ tS) ?_;cases G ((a.op:Int)=7)with
    |false=>
      rw[Z2];exact Bp (f _)<|Bp (f _)<|f _
    |true=>
      simp only[Z1];rw[tN];cases hb:aJ a.b (O c:Int)with
      |false=>exact Ks tS
      |true=>
        simp only[cE,Z2];unfold aJ at hb;simp only[cS,decide_eq_true_eq]at hb;obtain⟨n,hn⟩:=ck hb.1;rw[hn,rC V,cJ];exact PC _ _ _ _ _ _ _ _<|J _<|cw _
  have g:∀x,InsT a (dU a b c d e x):=λx=>by
    unfold dU;refine Bp (PC _ _ _ _ _ _ _ _ tS) ?_;cases G ((a.op:Int)=3)with
    |false=>
      rw[Z2];exact Bp (i _)<|i _
    |true=>
      simp only[Z1];by_cases k:O a.args=1
      · rw[dT (show((O a.args:Int):Int)=1 by omega)];obtain⟨y,j⟩:=len_one.1 k;simp only[Z1];rw[show vx a.args 0=U y by rw[j,QS],cJ];exact PC _ _ _ _ _ _ _ _ tS
      · rw[dF (show¬((O a.args:Int):Int)=1 by omega)];exact PC _ _ _ _ _ _ _ _ tS
  exact Bp (g _)<|g _
def Good(a:H bM):Prop:=O a<=4/\∀x∈a,wy x/\∀c∈x.C,O c.args<=3
theorem headOk_zero{i:Nat}{x:bM}(h:G6 i x=0):x.params<=3/\wy x:=by
  unfold G6 at h;split at h
  · split at h
    · exact⟨by omega,by unfold wy;omega⟩
    · cases h
  · cases h
theorem MS:∀(p:H bM) (i:Nat),D0 i p=0->∀x∈p,x.params<=3/\wy x
  |[],_,_,x,hx=>by cases hx
  |y::p,i,h,x,hx=>by
    unfold D0 at h;split at h
    · rename_i a;exact ZL h a
    · rename_i a;rcases bs.1 hx with rfl|hx
      · exact headOk_zero<|eN.1 a
      · exact MS p (i+1) h x hx
theorem b35_tot(a:H bM)(x:bM)(k:Unit->L Int)(J:∀x∈a,x.params<=3)(sc:Prop)(j:∃y,k ()=U y/\(y=0->sc)):∀(l:H An) (i:Int),∃y,ic (jg a x) k i l ()=U y/\(y=0->sc/\∀c∈l,O c.args<=3)
  |[],i=>by
    obtain⟨y,f,b⟩:=j;exact⟨y,f,λh=>⟨b h,by intro c m;cases m⟩⟩
  |c::l,i=>by
    obtain⟨y,f,b⟩:=b35_tot a x k J sc j l<|i+1;have n:ic (jg a x) k i (c::l) ()=jg a x i c () (ic (jg a x) k (i+1) l):=rfl;rw[n];unfold jg;obtain⟨z,g1,g2⟩:=check_ins c i a x.regs (O x.C:Int) J;rw[g1,cJ];by_cases e:z=0
    · rw[dF V,Z2];refine⟨y,f,λh=>⟨(b h).1,λd g=>?_⟩⟩;rcases bs.1 g with rfl|g
      · exact g2 e
      · exact(b h).2 d g
    · rw[dT e,Z1];exact⟨z,Z,λh=>ZL h e⟩
theorem b37_tot(a:H bM)(J:∀x∈a,x.params<=3/\wy x):∀l:H bM,(∀x∈l,x.params<=3/\wy x)->∃y,vq (lW a) uC l ()=U y/\(y=0->∀x∈l,∀c∈x.C,O c.args<=3)
  |[],_=>⟨0,rfl,λ_ x b=>by cases b⟩
  |x::l,hl=>by
    obtain⟨y,f,e⟩:=b37_tot a J l λz g=>hl z<|bo _ g;rw[fQ];unfold lW;have b:=hl x C7;obtain⟨z,g1,g2⟩:=b35_tot a x (F9 x (vq (lW a) uC l)) (λx b=>(J x b).1) (∀x∈l,∀c∈x.C,O c.args<=3) (by
      unfold F9;have i:=b.2;unfold wy at i;rw[gI,show((O x.C:Int)-1)=((O x.C-1:Nat):Int) by omega,rC V,cJ];cases (G ((x.C[O x.C-1].op:Int)≠8)&&G ((x.C[O x.C-1].op:Int)≠12))with
      |true=>exact⟨4,rfl,λh=>ZL h tS⟩
      |false=>exact⟨y,f,e⟩) x.C 0
    refine⟨z,g1,λh=>?_⟩;intro w d;rcases bs.1 d with rfl|d
    · exact(g2 h).2
    · exact(g2 h).1 w d
theorem SO(a:H bM):∃y,tX a=U y/\(y=0->Good a):=by
  unfold tX;generalize e:(G (((O a:Int):Int)=0)||G ((4:Int)<(O a:Int)))=C;cases C with
  |true=>exact⟨2,rfl,λh=>ZL h tS⟩
  |false=>
    simp only[cV,decide_eq_false_iff_not]at e;have d:ic rF (uD a) 0 a ()=_:=Fu (uD a) a 0;rw[Z2,d];by_cases b:D0 0 a=0
    · rw[Z4 V];have J:=MS a 0 b;obtain⟨y,g1,g2⟩:=b37_tot a J a J;exact⟨y,g1,λh=>⟨by omega,λx c=>⟨(J x c).2,g2 h x c⟩⟩⟩
    · rw[Z3 b];exact⟨_,Z,λh=>ZL h b⟩
def Lt(a:H bM):Int:=(tX a).getD 0
theorem G4(a:H bM):tX a=U (Lt a):=by
 obtain⟨y,h,_⟩:=SO a;unfold Lt;rw[h];rfl
theorem chk_eq2(a:H bM):pX a=U (Lt a):=by rw[<-J2,G4]
def Ei(R x:Int):Prop:=0<=x/\x<R
def Tk(a:H bM)(R Zs:Int)(c:An):Prop:=
 (c.op=1/\Ei R c.a/\(-1000000000<=c.b/\c.b<=1000000000))\/
 (c.op=2/\Ei R c.a/\Ei R c.b)\/
 (c.op=3/\Ei R c.a/\Ei R c.b/\Ei R c.c/\∃n,c.args=[n]/\1<=n/\n<=5)\/
 ((c.op=4\/c.op=6)/\Ei R c.a/\Ei R c.b/\(0<=c.c/\c.c<4))\/
 (c.op=5/\Ei R c.a/\(1<=c.b/\c.b<=4))\/
 (c.op=7/\Ei R c.a/\(∃p,vx a c.b=U p/\(O c.args:Int)=p.params)/\∀x∈c.args,Ei R x)\/
 ((c.op=8\/c.op=9\/c.op=11)/\Ei R c.a)\/
 c.op=10\/
 (c.op=12/\(0<=c.b/\c.b<Zs))\/
 (c.op=13/\Ei R c.a/\(0<=c.b/\c.b<Zs))
theorem each_b8(R:Int):∀l:H Int,vq (wE R) Br l ()=U 0->∀x∈l,Ei R x
  |[],_,x,hx=>by cases hx
  |y::l,h,x,hx=>by
    rw[fQ]at h;unfold wE at h;cases e:(!(G ((0:Int)<=y)&&G ((y:Int)<R)))with
    |true=>rw[e,Z1]at h;cases h
    |false=>
      rw[e,Z2]at h;rcases bs.1 hx with rfl|hx
      · simp at e;exact e
      · exact each_b8 R l h x hx
theorem insG_of{c:An}{i:Int}{a:H bM}{R Zs:Int}(h:iy c i a R Zs=U 0):Tk a R Zs c:=by
  obtain⟨op,t,v,u,args⟩:=c;by_cases n:op=1
  · subst n;simp[iy,eT,eO,fU,gm,fP,dm,eU,dU,dS,dN,dv]at h;simp[Tk,Ei]
    (repeat (split at h;·simp at h))
    omega
  by_cases j:op=2
  · subst j;simp[iy,eT,eO,fU,gm,fP,dm,eU,dU,dS,dN,dv]at h;simp[Tk,Ei]
    (repeat (split at h;·simp at h))
    omega
  by_cases s:op=3
  · subst s;simp[iy,eT,eO,fU,gm,fP,dm,eU,dU,dS,dN,dv]at h;simp[Tk,Ei];by_cases hl:O args=1
    · obtain⟨y,rfl⟩:=len_one.1 hl;simp[QS]at h;split at h
      · simp at h
      split at h
      · simp at h
      refine⟨by omega,by omega,by omega,y,Z,by omega,by omega⟩
    · exfalso;rw[Z4 (show¬((O args:Int)=1) by omega)]at h;split at h<;>simp at h
  by_cases o:op=4
  · subst o;simp[iy,eT,eO,fU,gm,fP,dm,eU,dU,dS,dN,dv]at h;simp[Tk,Ei]
    (repeat (split at h;·simp at h))
    omega
  by_cases k:op=5
  · subst k;simp[iy,eT,eO,fU,gm,fP,dm,eU,dU,dS,dN,dv]at h;simp[Tk,Ei]
    (repeat (split at h;·simp at h))
    omega
  by_cases l:op=6
  · subst l;simp[iy,eT,eO,fU,gm,fP,dm,eU,dU,dS,dN,dv]at h;simp[Tk,Ei]
    (repeat (split at h;·simp at h))
    omega
  by_cases q:op=7
  · subst q;simp[iy,eT,eO,fU,gm,fP,dm,eU,dU,dS,dN,dv]at h;simp[Tk,Ei];split at h
    · simp at h
    split at h
    · simp at h
    obtain⟨p,J,h⟩:=aR h
    (repeat (split at h;·simp at h))
    refine⟨by omega,⟨p,J,by omega⟩,λx g=>each_b8 R args h x g⟩
  by_cases m:op=8
  · subst m;simp[iy,eT,eO,fU,gm,fP,dm,eU,dU,dS,dN,dv]at h;simp[Tk,Ei]
    (repeat (split at h;·simp at h))
    omega
  by_cases r:op=9
  · subst r;simp[iy,eT,eO,fU,gm,fP,dm,eU,dU,dS,dN,dv]at h;simp[Tk,Ei]
    (repeat (split at h;·simp at h))
    omega
  by_cases d:op=10
  · subst d;simp[Tk,Ei]
  by_cases e:op=11
  · subst e;simp[iy,eT,eO,fU,gm,fP,dm,eU,dU,dS,dN,dv]at h;simp[Tk,Ei]
    (repeat (split at h;·simp at h))
    omega
  by_cases f:op=12
  · subst f;simp[iy,eT,eO,fU,gm,fP,dm,eU,dU,dS,dN,dv]at h;simp[Tk,Ei]
    (repeat (split at h;·simp at h))
    omega
  by_cases b:op=13
  · subst b;simp[iy,eT,eO,fU,gm,fP,dm,eU,dU,dS,dN,dv]at h;simp[Tk,Ei]
    (repeat (split at h;·simp at h))
    omega
  · exfalso;simp[iy,eT,eO,fU,gm,fP,dm,eU,dU,dS,dN,dv, *]at h
structure oW(a:List bM):Prop where
 many:1<=a.length/\a.length<=4
 head:∀(i:Nat) x,a[i]? =U x->(0<=x.params/\x.params<=3)/\(1<=x.regs/\x.params<=x.regs/\x.regs<=40)/\¬(i=0/\x.params≠0)/\wy x
 last:∀x∈a,∃c,vx x.C ((x.C.length:Int)-1)=U c/\(c.op=8\/c.op=12)
 ins:∀x∈a,∀c∈x.C,Tk a x.regs x.C.length c
theorem S6:∀(p:H bM) (j:Nat),D0 j p=0->∀(i:Nat) x,p[i]? =U x->G6 (j+i) x=0
  |[],j,_,i,x,hx=>by simp at hx
  |y::p,j,h,i,x,hx=>by
    unfold D0 at h;split at h
    · rename_i a;exact ZL h a
    · rename_i a;cases i with
      |zero=>simp at hx;subst hx;exact eN.1 a
      |succ i=>rw[show j+(i+1)=(j+1)+i by omega];exact S6 p (j+1) h i x (by simpa using hx)
theorem b35_ins(a:H bM)(x:bM)(k:Unit->L Int):∀(l:H An) (i:Int),ic (jg a x) k i l ()=U 0->k ()=U 0/\∀c∈l,Tk a x.regs (O x.C) c
  |[],i,h=>⟨h,λc b=>by cases b⟩
  |y::l,i,h=>by
    have g:ic (jg a x) k i (y::l) ()=jg a x i y () (ic (jg a x) k (i+1) l):=rfl;rw[g]at h;unfold jg at h;obtain⟨z,f,h⟩:=aR h;by_cases d:z=0
    · subst d;rw[dF C7,Z2]at h;obtain⟨j,e⟩:=b35_ins a x k l (i+1) h;refine⟨j,λc b=>?_⟩;rcases bs.1 b with rfl|b
      · exact insG_of f
      · exact e c b
    · rw[dT d,Z1]at h;exact ZL (osi h) d
theorem b37_ins(a:H bM):∀l:H bM,vq (lW a) uC l ()=U 0->∀x∈l,(∃c,vx x.C ((O x.C:Int)-1)=U c/\(c.op=8\/c.op=12))/\∀c∈x.C,Tk a x.regs (O x.C) c
  |[],_,x,hx=>by cases hx
  |y::l,h,x,hx=>by
    rw[fQ]at h;unfold lW at h;obtain⟨b,d⟩:=b35_ins a y _ y.C 0 h;unfold F9 at b;obtain⟨_,b⟩:=cK b;obtain⟨c,f,b⟩:=aR b;cases e:(G ((c.op:Int)≠8)&&G ((c.op:Int)≠12))with
    |true=>rw[e,Z1]at b;cases b
    |false=>
      rw[e,Z2]at b;rcases bs.1 hx with rfl|hx
      · exact⟨⟨c,f,by simp only[cm,decide_eq_false_iff_not,eN]at e;exact e⟩,d⟩
      · exact b37_ins a l b x hx
theorem nk{a:H bM}(h:Lt a=0):oW a:=by
  have b:=G4 a;rw[h]at b;unfold tX at b;generalize j:(G (((O a:Int):Int)=0)||G ((4:Int)<(O a:Int)))=C at b;cases C with
  |true=>cases b
  |false=>
    simp only[cV,decide_eq_false_iff_not]at j;have f:ic rF (uD a) 0 a ()=_:=Fu (uD a) a 0;rw[Z2,f]at b;by_cases d:D0 0 a=0
    · rw[Z4 V]at b;have e:=b37_ins a a b;refine⟨by omega,λi x c=>?_,λx c=>(e x c).1,λx c=>(e x c).2⟩;have:=S6 a 0 d i x c;rw[Nat.zero_add]at this;unfold G6 at this;split at this
      · rename_i g;split at this
        · rename_i g2;exact⟨g.1,g.2.1,g.2.2,g2⟩
        · cases this
      · cases this
    · rw[Z3 d]at b;exact ZL (osi b) d
theorem Ay{α σ ρ:Type}{body:Int->α->σ->(σ->ρ)->ρ}{k:σ->ρ}(i:Int)(x:α)(l:H α)(s:σ):ic body k i (x::l) s=body i x s (ic body k (i+1) l):=rfl
theorem QU{σ ρ:Type}{body:Int->σ->(σ->ρ)->ρ}{k:σ->ρ}(i:Int)(m:Nat)(s:σ):Ax body k i (m+1) s=body i s (Ax body k (i+1) m):=rfl
theorem sV{σ β:Type}{body:σ->(σ->L β)->L β}{m:Nat}{s:σ}:again body (m+1) s=body s (again body m):=rfl
def lJ(n:Nat)(v:tp):Prop:=(v.h=0/\v.n=0)\/(v.h=1/\ -1000000000<=v.n/\v.n<=1000000000)\/(v.h=2/\0<=v.n/\v.n<n)
instance (n:Nat) (v:tp):Decidable (lJ n v):=inferInstanceAs (Decidable (_\/_))
theorem uN(n:Nat)(v:tp):lu v (n:Int)=0↔lJ n v:=by
  obtain⟨k,m⟩:=v;simp only[lu,lJ,dv,dC,decide_eq_true_eq];constructor
  · intro h
    (repeat' split at h)<;>first|omega|(exfalso;omega)
  · intro h;rcases h with⟨h1,h2⟩|⟨h1,h2⟩|⟨h1,h2⟩
    · rw[Z3 h1,Z4 V]
    · rw[Z4 V,Z3 h1,Z4 V]
    · rw[Z4 V,Z4 V,Z3 h1,Z4 V]
theorem value_eq(v:tp)(n:Int):jb v n=lu v n:=by
 obtain⟨k,m⟩:=v;simp only[lu,jb,sP,aN,jq,aJ,dv,dC,cS,ep,decide_eq_true_eq,decide_eq_false_iff_not,cm]
 (repeat' split)<;>first|rfl|(exfalso;omega)
def wz(l:H (H tp)):Prop:=O l<=24/\∀c∈l,(1<=O c/\O c<=4)/\∀v∈c,lJ (O l) v
theorem cells_eq(a:H (H tp)):rR a=ry a:=by
 unfold rR ry;have k1:∀(l:H tp) (f:Unit->Int),vq (rM a) (rO f) l ()=vq (rG a) (pU f) l ():=by
  intro l f;induction l with
  |nil=>rfl
  |cons x l ih=>
   show(bif G ((jb x (O a:Int):Int)≠0)then jb x (O a:Int)else vq (rM a) (rO f) l ())=(bif G ((lu x (O a:Int):Int)≠0)then lu x (O a:Int)else vq (rG a) (pU f) l ());rw[value_eq,ih]
 have k2:∀l:H (H tp),vq (rP a) rQ l ()=vq (uR a) rH l ():=by
  intro l;induction l with
  |nil=>rfl
  |cons x l ih=>
   show(bif (!(aN (O x:Int) 1 4))then 2 else vq (rM a) (rO<|vq (rP a) rQ l) x ())=(bif (G (((O x:Int):Int)=0)||G ((4:Int)<(O x:Int)))then 2 else vq (rG a) (pU<|vq (uR a) rH l) x ());have e:(!(aN (O x:Int) 1 4))=(G (((O x:Int):Int)=0)||G ((4:Int)<(O x:Int))):=by
    unfold aN;rw[dI];simp only[dC,ep,cm,decide_eq_true_eq,decide_eq_false_iff_not];omega
   rw[e,k1];have:vq (rP a) rQ l=vq (uR a) rH l:=by funext u;exact ih
   rw[this]
 rw[k2]
theorem all_ok(a:H (H tp)):ry a=0↔wz a:=by
  have k1:∀(l:H tp) (f:Unit->Int),vq (rG a) (pU f) l ()=0↔(∀v∈l,lJ (O a) v)/\f ()=0:=by
    intro l f;induction l with
    |nil=>simp[kJ,pU]
    |cons x l ih=>
      show(bif G ((lu x (O a:Int):Int)≠0)then lu x (O a:Int)else vq (rG a) (pU f) l ())=0↔_;by_cases h:lu x (O a:Int)=0
      · rw[dF V,Z2,ih];have:=(uN _ _).1 h;simp[this]
      · rw[dT h,Z1];have b:¬lJ (O a) x:=λe=>h ((uN _ _).2 e);simp[h,b]
  have k2:∀l:H (H tp),vq (uR a) rH l ()=0↔∀c∈l,(1<=O c/\O c<=4)/\∀v∈c,lJ (O a) v:=by
    intro l;induction l with
    |nil=>simp[kJ,rH]
    |cons x l ih=>
      show(bif (G (((O x:Int):Int)=0)||G ((4:Int)<(O x:Int)))then 2 else vq (rG a) (pU<|vq (uR a) rH l) x ())=0↔_;by_cases h:1<=O x/\O x<=4
      · rw[show(G (((O x:Int):Int)=0)||G ((4:Int)<(O x:Int)))=aw by simp only[cV,decide_eq_false_iff_not];omega,Z2,k1,ih];simp[h]
      · rw[show(G (((O x:Int):Int)=0)||G ((4:Int)<(O x:Int)))=bh by simp only[dC,decide_eq_true_eq];omega,Z1];simp[h]
  unfold ry wz;by_cases h:O a<=24
  · rw[dF V,Z2,k2];simp[h]
  · rw[dT V,Z1];simp[h]
structure Pj(a:List bM)(n:Nat)(f:Ya)(x:bM):Prop where
 F:vx a f.F=U x
 at_:0<=f.at_/\f.at_<x.C.length
 regs:(f.regs.length:Int)=x.regs
 vals:∀v∈f.regs,lJ n v
def qL(a:H bM)(n:Nat):Int->H Ya->Prop
 |_,[]=>True
 |ahead,f::l=>(∃x,Pj a n f x)/\(0<=f.x/\f.x<ahead)/\qL a n (O f.regs) l
structure Au(a:List bM)(s:Ys):Prop where
 q:0<=s.q/\s.q<=3
 bC: -1000000000<=s.bC/\s.bC<=1000000000
 stay:s.q≠3->s.bC=0
 ended:s.q=1↔s.i=[]
 many:s.i.length<=10
 j:wz s.j
 i:qL a s.j.length 1 s.i
def ahead(pre:H Ya):Int:=match pre.getLast? with|none=>1|some f=>O f.regs
theorem S3:ahead []=1:=rfl
theorem Sc(pre:H Ya)(f:Ya):ahead (pre++[f])=O f.regs:=by simp[ahead]
theorem G3(b:Ys)(f:Ya)(c:Unit->L Int)(a:Int->L Int)(hn:c ()=a (O f.regs)):∀l:H tp,vq (Dx b) (Dy c) l ()=vq (w9 b) (xe a f) l ()
 |[]=>hn
 |x::l=>by
  show(bif G ((lu x (O b.j:Int):Int)≠0)then U (lu x (O b.j:Int))else vq (Dx b) (Dy c) l ())=(bif G ((jb x (O b.j:Int):Int)≠0)then U (jb x (O b.j:Int))else vq (w9 b) (xe a f) l ());rw[value_eq,G3 b f c a hn l]
theorem vals_tot(b:Ys)(a:Unit->L Int)(sc:Prop)(hn:∃y,a ()=U y/\(y=0↔sc)):∀l:H tp,∃y,vq (Dx b) (Dy a) l ()=U y/\(y=0↔(∀v∈l,lJ (O b.j) v)/\sc)
  |[]=>by obtain⟨y,d,c⟩:=hn;exact⟨y,d,by simp[c]⟩
  |x::l=>by
    obtain⟨y,d,c⟩:=vals_tot b a sc hn l;have e:vq (Dx b) (Dy a) (x::l) ()=(bif G ((lu x (O b.j:Int):Int)≠0)then U (lu x (O b.j:Int))else vq (Dx b) (Dy a) l ()):=rfl;rw[e];by_cases h:lu x (O b.j:Int)=0
    · rw[dF V,Z2];have:=(uN _ _).1 h;exact⟨y,d,by rw[c];simp[this]⟩
    · rw[dT h,Z1];refine⟨_,Z,?_⟩;have f:¬lJ (O b.j) x:=λe=>h ((uN _ _).2 e);simp[h,f]
theorem HK(a:H bM)(b:Ys)(m:O b.i<=10):∀(l pre:H Ya),b.i=pre++l->
    ic (KS a b) Rt (O pre:Int) l ()=vq (ky a b) oh l (ahead pre)
  |[],pre,h=>rfl
  |f::l,pre,h=>by
    have d:=HK a b m l (pre++[f]) (by simpa using h);rw[Sc]at d;have hi:((O (pre++[f]):Nat):Int)=(O pre:Int)+1:=by simp
    rw[hi]at d;rw[Ay,fQ];generalize ic (KS a b) Rt ((O pre:Int)+1) l=K1 at d⊢;generalize vq (ky a b) oh l=K2 at d⊢;unfold KS ky;have hl:O pre<=10:=by have:=ZS O h;simp at this;omega
    have k:(G ((f.F:Int)<0)||G (((O a:Int):Int)<=f.F))= !aJ f.F (O a:Int):=tN _ _;rw[k];cases J:aJ f.F (O a:Int)with
    |false=>rfl
    |true=>
      simp only[cE,Z2];cases hx:vx a f.F with
      |none=>rfl
      |some x=>
        simp only[vt];cases ha:aJ f.at_ (O x.C:Int)with
        |false=>
          rw[show(((G ((f.at_:Int)<0)||G (((O x.C:Int):Int)<=f.at_))||G ((f.x:Int)<0))||(G ((O pre:Int)=0)&&G ((f.x:Int)≠0)))=bh by
            have:=tN f.at_ (O x.C:Int);rw[ha]at this;rw[this];rfl]
          rfl
        |true=>
          have j:=tN f.at_ (O x.C:Int);rw[ha]at j;rw[j];simp only[cE,Bool.false_or,Z2];have i:∀t,Dz f x b K1 t=kv a f b K2 t:=by
            intro t;unfold Dz kv;rw[hx,vt,G3 b f _ _ d]
          simp only[i];rcases List.eq_nil_or_concat pre with rfl|⟨q,g,rfl⟩
          · rw[S3];by_cases c:f.x=0
            · rw[show(G ((f.x:Int)<0)||(G ((O ([]:H Ya):Int)=0)&&G ((f.x:Int)≠0)))=aw by simp[c],Z2,dF C7,Z2,show(!aJ f.x 1)=aw by simp[c,aJ]]
            · rw[show(G ((f.x:Int)<0)||(G ((O ([]:H Ya):Int)=0)&&G ((f.x:Int)≠0)))=bh by simp[c],Z1,show(!aJ f.x 1)=bh by simp[aJ];omega]
          · rw[List.concat_eq_append]at*;rw[Sc];have e:(O (q++[g]):Int)=(O q:Int)+1:=by simp
            rw[e,show(G ((O q:Int)+1=0))=aw from dF V,Bool.false_and,Bool.or_false];by_cases c:f.x<0
            · rw[dT c,Z1,show(!aJ f.x (O g.regs:Int))=bh by simp[aJ];omega]
            · rw[dF c,Z2,dT V,Z1,gI V (by simp at hl;omega),show(O q:Int)+1-1=((O q:Nat):Int) by omega,kz,h];simp only[List.append_assoc,List.getElem?_append_right (Nat.le_refl _),Nat.sub_self,List.cons_append,List.nil_append,List.getElem?_cons_zero,vt];congr 1;rw[dI];simp[aJ];omega
theorem UY(a:H bM)(b:Ys):Me a b=mG a b:=by
  unfold Me mG;have i:(((G ((b.q:Int)<0)||G ((3:Int)<b.q))||G ((b.bC:Int)< -1000000000))||G ((1000000000:Int)<b.bC))=((!(aN b.q 0 3))||(!(jq b.bC))):=by
    unfold jq aN;rw[dI];simp only[dC,ep,cm,decide_eq_true_eq,decide_eq_false_iff_not];omega
  have c:((G ((b.q:Int)≠3)&&G ((b.bC:Int)≠0))||(G ((b.q:Int)=1) !=G (((O b.i:Int):Int)=0)))=(((G ((b.bC:Int)≠0)&&G ((b.q:Int)≠3))||(G ((b.q:Int)=1)&&G ((0:Int)<(O b.i:Int))))||(G ((b.q:Int)≠1)&&G (((O b.i:Int):Int)=0))):=by
    by_cases e:b.q=1<;>by_cases d:O b.i=0<;>by_cases g:b.q=3<;>by_cases f:b.bC=0<;>simp[e,d,g,f]<;>omega
  rw[i,c,cells_eq];by_cases h:O b.i<=10
  · have:=HK a b h b.i [] Z;rw[S3]at this;rw[<-this];rfl
  · rw[show(G ((10:Int)<(O b.i:Int)))=bh from dT V];rfl
theorem NQ(a:H bM)(b:Ys):∀(l:H Ya) (t:Int),∃y,vq (ky a b) oh l t=U y/\(y=0↔qL a (O b.j) t l)
  |[],t=>⟨0,rfl,by simp[qL]⟩
  |f::l,t=>by
    obtain⟨y,i,k⟩:=NQ a b l (O f.regs);rw[fQ];generalize vq (ky a b) oh l=K2 at i⊢;unfold ky;cases J:aJ f.F (O a:Int)with
    |false=>
      refine⟨5,Z,?_⟩;have:¬qL a (O b.j) t (f::l):=by
        rintro⟨⟨x,g⟩,-,-⟩;have:=aM g.F;have j:=(List.getElem?_eq_some_iff.1 this.2).1;unfold aJ at J;simp only[cm,decide_eq_false_iff_not]at J;omega
      simp[this]
    |true=>
      unfold aJ at J;simp only[cS,decide_eq_true_eq]at J;simp only[cE,Z2];obtain⟨n,hn⟩:=ck J.1;have d:vx a f.F=U (a[n]'V):=by rw[hn,rC V]
      generalize a[n]'V=x at d;rw[d,vt];have kB:∃y,kv a f b K2 bh=U y/\y≠0:=⟨3,Z,by decide⟩;have c:∀z,Pj a (O b.j) f z->z=x:=λz g=>by have:=g.F;rw[d]at this;exact(osi this).symm
      cases ha:aJ f.at_ (O x.C:Int)with
      |false=>
        obtain⟨y,g1,g2⟩:=kB;refine⟨y,g1,?_⟩;have:¬qL a (O b.j) t (f::l):=by
          rintro⟨⟨z,g⟩,-,-⟩;have:=c z g;subst this;have:=g.at_;unfold aJ at ha;simp only[cm,decide_eq_false_iff_not]at ha;omega
        simp[this,g2]
      |true=>
        simp only[cE,Z2];cases ht:aJ f.x t with
        |false=>
          obtain⟨y,g1,g2⟩:=kB;refine⟨y,g1,?_⟩;have:¬qL a (O b.j) t (f::l):=by
            rintro⟨⟨z,g⟩,j,-⟩;unfold aJ at ht;simp only[cm,decide_eq_false_iff_not]at ht;omega
          simp[this,g2]
        |true=>
          simp only[cE];unfold kv;rw[d,Z2,vt];unfold aJ at ha ht;simp only[cS,decide_eq_true_eq]at ha ht;by_cases e:(O f.regs:Int)=x.regs
          · rw[dF V,Z2,<-G3 b f (λ_=>K2 (O f.regs)) _ rfl];obtain⟨z,g1,g2⟩:=vals_tot b (λ_=>K2 (O f.regs)) _ ⟨y,i,k⟩ f.regs;refine⟨z,g1,g2.trans ⟨λh=>⟨⟨x,d,ha,e,h.1⟩,ht,h.2⟩,?_⟩⟩;rintro⟨⟨z,g⟩,j,m⟩;exact⟨g.vals,m⟩
          · rw[dT V,Z1];refine⟨4,Z,?_⟩;have:¬qL a (O b.j) t (f::l):=by
              rintro⟨⟨z,g⟩,-,-⟩;have:=c z g;subst this;exact e g.regs
            simp[this]
theorem MY(a:H bM)(b:Ys):∃y,Me a b=U y/\(y=0↔Au a b):=by
  rw[UY];unfold mG;cases c1:((!(aN b.q 0 3))||(!(jq b.bC)))with
  |true=>
    refine⟨3,Z,⟨λh=>ZL h tS,λh=>?_⟩⟩;unfold jq aN at c1;simp only[dC,ep,cm,decide_eq_false_iff_not]at c1;have:=h.q;have:=h.bC;omega
  |false=>
    unfold jq aN at c1;simp only[cV,sl,cS,decide_eq_true_eq]at c1;rw[Z2];cases c2:(((G ((b.bC:Int)≠0)&&G ((b.q:Int)≠3))||(G ((b.q:Int)=1)&&G ((0:Int)<(O b.i:Int))))||(G ((b.q:Int)≠1)&&G (((O b.i:Int):Int)=0)))with
    |true=>
      refine⟨4,Z,⟨λh=>ZL h tS,λh=>?_⟩⟩;simp only[dC,cS,decide_eq_true_eq]at c2;rcases c2 with(c2|c2)|c2
      · exact ZL (h.stay c2.2) c2.1
      · have:=h.ended.1 c2.1;rw[this]at c2;simp at c2
      · exact ZL (h.ended.2<|cA V) c2.1
    |false=>
      simp only[cV,cm,decide_eq_false_iff_not]at c2;rw[Z2];by_cases e:O b.i<=10
      · rw[dF V,Z2,cells_eq];by_cases c:ry b.j=0
        · rw[dF V,Z2];obtain⟨y,g,f⟩:=NQ a b b.i 1;refine⟨y,g,f.trans ⟨λh=>⟨by omega,by omega,λd=>by omega,⟨λd=>?_,λd=>?_⟩,e,(all_ok _).1 c,h⟩,λh=>h.i⟩⟩
          · exact cA V
          · rw[d]at c2;simp at c2;omega
        · rw[dT c,Z1];exact⟨_,Z,⟨λh=>ZL h c,λh=>ZL ((all_ok _).2 h.j) c⟩⟩
      · rw[dT V,Z1];exact⟨2,Z,⟨λh=>ZL h tS,λh=>ZL h.many e⟩⟩
def US(a:H bM)(s:Ys):Int:=(Me a s).getD 0
theorem ckS_eq(a:H bM)(s:Ys):Me a s=U (US a s):=by obtain⟨y,h,-⟩:=MY a s;unfold US;rw[h];rfl
theorem ckS_eq2(a:H bM)(s:Ys):mG a s=U (US a s):=by rw[<-UY,ckS_eq]
theorem Ku{a:H bM}{s:Ys}:US a s=0↔Au a s:=by obtain⟨y,h,b⟩:=MY a s;unfold US;rw[h];exact b
theorem OE(a:H bM)(s:Ys):Jr a s=U (if Lt a≠0 then Lt a else US a s):=by
  unfold Jr;rw[G4,vt];by_cases h:Lt a=0
  · rw[dF V,Z2,ckS_eq,vt,Z4 V]
  · rw[dT h,Z1,Z3 h]
theorem eqVals(a b:H tp):nZ a b=U (G (a=b)):=by
  unfold nZ;by_cases h:O a=O b
  · rw[dF V];simp only[Z2,ba];rw[Pz (λx y=>G (x=y)) a b h rfl (λi x y j f c=>by
      unfold HV;rw[kz,kz,f,c];obtain⟨k,n⟩:=x;obtain⟨k2,g⟩:=y;by_cases e:k=k2<;>by_cases d:n=g<;>simp[e,d]),Dn (λ_ _=>rfl)]
  · rw[dT V];have:a≠b:=λe=>h (by rw[e]);rw[dF this];rfl
theorem eqCells(a b:H (H tp)):Vp a b=U (G (a=b)):=by
  unfold Vp;by_cases h:O a=O b
  · rw[dF V,Z2,Rf (λx y=>G (x=y)) a b h rfl (λi x y d c=>by
      unfold ZE;rw[kz,c,vt,eqVals,vt];by_cases e:x=y<;>simp[e]),Dn (λ_ _=>rfl)]
  · rw[dT V];have:a≠b:=λe=>h (by rw[e]);rw[dF this];rfl
theorem eqCells2(a b:H (H tp)):xN a b=U (G (a=b)):=by
  unfold xN;by_cases h:O a=O b
  · rw[dF V];simp only[Z2,ba];rw[Pz (λx y=>G (x=y)) a b h rfl (λi x y f d c=>by
      unfold Ey;rw[kz,kz,d,c,vt,vt,eqVals,vt];by_cases e:x=y<;>simp[e]),Dn (λ_ _=>rfl)]
  · rw[dT V];have:a≠b:=λe=>h (by rw[e]);rw[dF this];rfl
theorem fr_eq(x y:Ya)(b:Unit->L YU):(bif ((G ((x.F:Int)=y.F)&&G ((x.at_:Int)=y.at_))&&G ((x.x:Int)=y.x))then Option.bind (nZ x.regs y.regs) λa=>Fh b (!a)else Fh b bh)=bif G (x=y)then b ()else U false:=by
 obtain⟨p,t,r,o⟩:=x;obtain⟨f,t2,e,o2⟩:=y;simp only[eqVals,vt,Fh];by_cases i:p=f<;>by_cases d:t=t2<;>by_cases g:r=e<;>by_cases c:o=o2<;>simp[i,d,g,c]
theorem st_eq(a b:Ys):G (a=b)=((G (a.q=b.q)&&G (a.bC=b.bC))&&(G (a.j=b.j)&&G (a.i=b.i))):=by
 obtain⟨f,c,s,w⟩:=a;obtain⟨e,c2,d,g⟩:=b;rw[dI];simp;constructor<;>(intro h;simp[h])
theorem eqState(a b:Ys):Vq a b=U (G (a=b)):=by
  rw[st_eq];unfold Vq;cases (G ((a.q:Int)=b.q)&&G ((a.bC:Int)=b.bC))with
  |false=>rfl
  |true=>
    rw[Z1,eqCells,vt];cases G (a.j=b.j)with
    |false=>rfl
    |true=>
      rw[Z1];by_cases h:O a.i=O b.i
      · rw[dF V,Z2,Rf (λx y=>G (x=y)) a.i b.i h rfl (λi x y d c=>by
          unfold HC;rw[kz,c,vt];exact fr_eq x y d),Dn (λ_ _=>rfl)];rfl
      · rw[dT V];have:a.i≠b.i:=λe=>h (by rw[e]);rw[dF this];rfl
theorem eqState2(a b:Ys):tF a b=U (G (a=b)):=by
 rw[<-eqState];unfold tF Vq;rw[eqCells,eqCells2];rfl
structure EV(s:Ys):Prop where
 i:s.i.length<=10
 regs:∀f∈s.i,f.regs.length<=40
 j:s.j.length<=24
 fields:∀c∈s.j,c.length<=4
theorem DW{a:H bM}{n:Nat}:∀{l:H Ya} {t:Int},qL a n t l->∀f∈l,∃x,Pj a n f x
  |[],_,_,f,hf=>by cases hf
  |g::l,t,h,f,hf=>by
    rcases bs.1 hf with rfl|hf
    · exact h.1
    · exact DW h.2.2 f hf
theorem oW.mem{a:H bM}(h:oW a){k:Int}{x:bM}(c:vx a k=U x):x∈a/\(0<=x.params/\x.params<=3)/\(1<=x.regs/\x.params<=x.regs/\x.regs<=40)/\wy x:=by
 have b:=(aM c).2;have:=h.head _ x b;exact⟨List.mem_of_getElem? b,this.1,this.2.1,this.2.2.2⟩
theorem Au.small{a:H bM}{s:Ys}(h:Au a s)(ha:oW a):EV s where
 i:=h.many
 regs f hf:=by
  obtain⟨x,g⟩:=DW h.i f hf;have:=(ha.mem g.F).2.2.1;have:=g.regs;omega
 j:=h.j.1
 fields c hc:=(h.j.2 c hc).1.2
theorem E3{α:Type}{bytes:Nat}{a:H α}(h:O a<=400)(b:bytes<=48):Dd bytes a=U a:=by
 have:O a*bytes<=400*48:=Dg h b;unfold Dd;exact gH ⟨by simp;omega,by simp;omega⟩
theorem Lu{ρ:Type}{body:Int->Unit->(Unit->ρ)->ρ}{k:Unit->ρ}:∀(m:Nat) (i:Nat),(∀j:Nat,i<=j->j<i+m->∀a,body (j:Int) () a=a ())->Ax body k (i:Int) m ()=k ()
 |0,i,_=>rfl
 |m+1,i,h=>by
  rw[QU,h i (Nat.le_refl _) V,show((i:Int)+1)=((i+1:Nat):Int) by omega];exact Lu m (i+1) λj c b=>h j V V
theorem cellCopy_eq{l:H (H tp)}(h:O l<=24)(a:∀c∈l,O c<=4):Vn l=U l:=by
 unfold Vn;rw[E3 V tS,vt,ba];exact Lu (k:=Rx l) (O l) 0 (λj d b e=>by
  unfold Rw;rw[rC V,vt,E3 (by have:=a _ (cw (by omega:j<O l));omega) tS,vt])
theorem HX{s:Ys}(h:EV s):Ry s=U s:=by
 unfold Ry;rw[E3 (by have:=h.i;omega) tS,vt,cellCopy_eq h.j h.fields,vt];unfold Xa;rw[ba];exact Lu (k:=W9 s s.j) (O s.i) 0 (λj b a c=>by
  unfold WZ;rw[rC V,vt,E3 (by have:=h.regs _ (cw (by omega:j<O s.i));omega) tS,vt])
theorem A5{α:Type}{bytes:Nat}{l m:H α}(h:O l+O m<=100000)(a:bytes<=48):Room bytes l m:=by
 have:(O l+O m)*bytes<=100000*48:=Dg h a;exact⟨by omega,by omega⟩
theorem S2(d:H Ya)(s:Ys):∀(l a:H (H tp)),(∀c∈l,O c<=4)->O a+O l<=24->vq uY (Ae d s) l a=U ⟨d,a++l,s.q,s.bC⟩
 |[],a,_,_=>by simp[kJ,Ae]
 |x::l,a,h,hl=>by
  rw[fQ];unfold uY;have:=h x C7;simp only[br]at hl;rw[gH (A5 (by simp;omega) tS),gH (A5 (by simp;omega) tS)];have i:=S2 d s l (a++[([]:H tp)++x]) (λc j=>h c (bo _ j)) (by simp;omega);have e:uY=λb f g=>iC (Room 16 ([]:H tp) b) (iC (Room 24 f [([]:H tp)++b])<|g<|f++[([]:H tp)++b]):=rfl;rw[<-e,i];simp
theorem Iv(s:Ys)(b:O s.j<=24/\∀c∈s.j,O c<=4):∀(l a:H Ya),(∀f∈l,O f.regs<=40)->O a+O l<=10->vq uZ (vg s) l a=U ⟨a++l,s.j,s.q,s.bC⟩
 |[],a,_,_=>by
  rw[kJ,vg,S2 _ _ _ _ b.2 (by simp;omega)];simp
 |x::l,a,h,hl=>by
  rw[fQ];have:=h x C7;simp only[br]at hl;have d:=Iv s b l (a++[⟨x.F,x.at_,([]:H tp)++x.regs,x.x⟩]) (λc b=>h c (bo _ b)) (by simp;omega);generalize vq uZ (vg s) l=K at d⊢;unfold uZ;rw[gH (A5 (by simp;omega) tS),gH (A5 (by simp;omega) tS),d];simp
theorem own_eq{s:Ys}(h:EV s):qG s=U s:=by
 unfold qG;rw[Iv s ⟨h.j,h.fields⟩ s.i [] h.regs (by simpa using h.i)];simp
def YK(l:H Int)(v:tp):H Int:=if v.h=2/\v.n∉l then l++[v.n]else l
def YL(l:H Int)(vs:H tp):H Int:=vs.foldl YK l
def A6(cells:H (H tp))(k:Int):H tp:=(vx cells k).getD []
def bfs(cells:H (H tp)):Nat->Nat->H Int->H Int
 |0,_,l=>l
 |m+1,k,l=>if h:k<O l then bfs cells m (k+1) (YL l (A6 cells l[k]))else l
def Pk(cells:H (H tp))(vs:H tp):H Int:=bfs cells 25 0 (YL [] vs)
theorem QV(l:H Int)(v:tp)(vs:H tp):YL l (v::vs)=YL (YK l v) vs:=rfl
theorem metV_pre(l:H Int)(v:tp):l<+:YK l v:=by
  unfold YK;split
  · exact List.prefix_append _ _
  · exact hY _
theorem QW:∀(vs:H tp) (l:H Int),l<+:YL l vs
 |[],l=>hY _
 |v::vs,l=>(metV_pre l v).trans (QW vs _)
theorem bfs_pre(cells:H (H tp)):∀(m k:Nat) (l:H Int),l<+:bfs cells m k l
  |0,_,l=>hY _
  |m+1,k,l=>by
    unfold bfs;split
    · exact(QW _ _).trans<|bfs_pre cells m _ _
    · exact hY _
theorem Tb:∀(n:Nat) (l:H Int),l.Nodup->(∀x∈l,0<=x/\x<n)->O l<=n
  |0,l,_,h=>by
    cases l with
    |nil=>simp
    |cons x l=>have:=h x C7;omega
  |n+1,l,hn,h=>by
    have c:=Tb n (l.erase (n:Int)) (hn.erase _) (λx b=>by
      have a:=(hn.mem_erase_iff).1 b;have:=h x a.2;have e:=a.1;constructor
      · omega
      · push_cast at this;omega)
    have d:O l<=O (l.erase (n:Int))+1:=by rw[List.length_erase];split<;>omega
    omega
def Ao(n:Nat)(l:H Int):Prop:=l.Nodup/\∀x∈l,0<=x/\x<n
section
variable{n:Nat}{l:H Int}
theorem Ao.len(h:Ao n l):O l<=n:=Tb n l h.1 h.2
theorem Ao.nil:Ao n []:=⟨List.nodup_nil,λx a=>by cases a⟩
variable{v:tp}
theorem lJ.ref(h:lJ n v)(a:v.h=2):0<=v.n/\v.n<n:=by unfold lJ at h;omega
theorem Ao.vv(h:Ao n l)(g:lJ n v):Ao n (YK l v):=by
  unfold YK;split
  · rename_i f;refine⟨List.nodup_append.2 ⟨h.1,by simp,λa i b d=>?_⟩,λx c=>?_⟩
    · simp at d;subst d;intro e;subst e;exact f.2 i
    · rcases List.mem_append.1 c with c|c
      · exact h.2 x c
      · simp at c;subst c;exact g.ref f.1
  · exact h
theorem Ao.ll:∀{vs:H tp} {l:H Int},Ao n l->(∀v∈vs,lJ n v)->Ao n (YL l vs)
 |[],l,h,_=>h
 |v::vs,l,h,hv=>Ao.ll (vs:=vs) (l:=YK l v) (h.vv (hv v C7)) (λw a=>hv w (bo _ a))
variable{cells:H (H tp)}{k:Int}
theorem IK(h:0<=k/\k<O cells):vx cells k=U (A6 cells k)/\A6 cells k∈cells:=by
 obtain⟨n,rfl⟩:=ck h.1;unfold A6;rw[rC V];exact⟨Z,cw _⟩
theorem wz.at(h:wz cells)(a:0<=k/\k<O cells):(1<=O (A6 cells k)/\O (A6 cells k)<=4)/\∀v∈A6 cells k,lJ (O cells) v:=h.2 _ (IK a).2
theorem Ao.bfs(a:wz cells):∀{m k:Nat} {l:H Int},Ao (O cells) l->Ao (O cells) (bfs cells m k l)
  |0,_,l,h=>h
  |m+1,k,l,h=>by
    unfold Proofs.YteijalgmijkphaaGreatDoor.bfs;split
    · rename_i b;exact Ao.bfs a<|h.ll (a.at<|h.2 _<|cw b).2
    · exact h
def uf(vs:H tp)(l:H Int):Prop:=∀v∈vs,v.h=2->v.n∈l
variable{vs:H tp}
theorem uf.pre{l m:H Int}(h:uf vs l)(J:l<+:m):uf vs m:=λv a b=>J.subset (h v a b)
theorem metV_in(l:H Int)(v:tp)(a:v.h=2):v.n∈YK l v:=by
  unfold YK;split
  · simp
  · rename_i b;exact eN.1 λh=>b ⟨a,h⟩
theorem metL_in:∀(vs:H tp) (l:H Int),uf vs (YL l vs)
  |[],l,v,hv,_=>by cases hv
  |w::vs,l,v,hv,hk=>by
    rw[QV];rcases bs.1 hv with rfl|hv
    · exact(QW vs _).subset<|metV_in l v hk
    · exact metL_in vs _ v hv hk
theorem bfs_in(d:wz cells):∀{m k:Nat} {l:H Int},Ao (O cells) l->O cells<k+m->(∀j (b:j<O l),j<k->uf (A6 cells l[j]) l)->∀x∈bfs cells m k l,uf (A6 cells x) (bfs cells m k l)
  |0,k,l,h,hm,b,x,hx=>by
    have:=h.len;obtain⟨j,a,rfl⟩:=wv hx;exact b j a (by have i:j<O l:=a;omega)
  |m+1,k,l,h,hm,b,x,hx=>by
    unfold Proofs.YteijalgmijkphaaGreatDoor.bfs at hx⊢;split at hx
    · rename_i c;rw[dif_pos c];have g:=(d.at<|h.2 _<|cw c).2;have J:=QW (A6 cells l[k]) l;refine bfs_in d (h.ll g) V (λj a o=>?_) x hx;by_cases e:j<O l
      · have n:(YL l<|A6 cells l[k])[j]=l[j]:=(J.getElem e).symm;rw[n];by_cases f:j<k
        · exact(b j e f).pre J
        · have:j=k:=by omega
          subst this;exact metL_in _ _
      · omega
    · rename_i c;rw[dif_neg c];obtain⟨j,a,rfl⟩:=wv hx;exact b j a V
theorem reach_ok(a:wz cells)(d:∀v∈vs,lJ (O cells) v):Ao (O cells) (Pk cells vs)/\uf vs (Pk cells vs)/\∀x∈Pk cells vs,uf (A6 cells x) (Pk cells vs):=by
 have b:Ao (O cells) (YL [] vs):=Ao.nil.ll d;refine⟨Ao.bfs a b,(metL_in vs []).pre (bfs_pre _ _ _ _),bfs_in a b (by have:=a.1;omega) (λj e c=>ZL c (Nat.not_lt_zero _))⟩
theorem lk_lput{α:Type}(k a:Int)(v:α):∀l:H (Int×α),lk k (VT a v l)=if k=a then U v else lk k l
  |[]=>by unfold VT lk;by_cases h:k=a<;>simp[h,lk]
  |p::l=>by
    unfold VT;by_cases h:a=p.1
    · rw[Z3 h];show(if k=p.1 then U v else lk k l)=if k=a then U v else(if k=p.1 then U p.2 else lk k l)
      by_cases e:k=p.1
      · rw[Z3 e,Z3 V]
      · rw[Z4 e,Z4 V,Z4 e]
    · rw[Z4 h];show(if k=p.1 then U p.2 else lk k (VT a v l))=if k=a then U v else(if k=p.1 then U p.2 else lk k l)
      by_cases e:k=p.1
      · rw[Z3 e,Z3 e,Z4 V]
      · rw[Z4 e,Z4 e,lk_lput k a v l]
def Seen(l:H Int)(m:H (Int×YU)):Prop:=∀k,(lk k m).getD aw=G (k∈l)
theorem Seen.nil:Seen [] []:=λk=>rfl
theorem Seen.put{m:H (Int×YU)}(h:Seen l m)(n:Int):Seen (l++[n]) (VT n bh m):=by
  intro k;rw[lk_lput];by_cases e:k=n
  · simp[e]
  · rw[Z4 e,h k,dI];simp[e]
variable{ρ:Type}
theorem Ft{body:tp->H Int×H (Int×YU)->(H Int×H (Int×YU)->L ρ)->L ρ}{K:H Int×H (Int×YU)->L ρ}(b:∀x l m c,O l<=1000->body x (l,m) c=bif (G (x.h=2)&&(!((lk x.n m).getD aw)))then c (l++[x.n],VT x.n bh m)else c (l,m)):
    ∀(vs:H tp) (l:H Int) (m:H (Int×YU)),Seen l m->O l+O vs<=1000->∃d,Seen (YL l vs) d/\vq body K vs (l,m)=K (YL l vs,d)
  |[],l,m,h,_=>⟨m,h,rfl⟩
  |v::vs,l,m,h,hl=>by
    simp only[br]at hl;rw[fQ,b v l m _ V,h v.n,QV];unfold YK;by_cases a:v.h=2/\v.n∉l
    · rw[Z3 a,dT a.1,dF a.2,Bool.true_and,en,Z1];exact Ft b vs _ _ (h.put v.n) (by simp;omega)
    · rw[Z4 a,show(G (v.h=2)&& !decide (v.n∈l))=aw by rw[cm];simp;simp only[not_and,eN]at a;by_cases e:v.h=2<;>simp[e,a],Z2];exact Ft b vs _ _ h V
theorem bfs_loop(e:wz cells):∀(m N k:Nat) (l:H Int) (s:H (Int×YU)),Ao (O cells) l->Seen l s->O cells<k+m->m<N->k<=O l->again (Cv cells) N ((k:Int),l,s)=U (bfs cells m k l,0)
  |m,0,k,l,s,h,W,hm,hN,hk=>by omega
  |0,N+1,k,l,s,h,W,hm,hN,hk=>by have:=h.len;omega
  |m+1,N+1,k,l,s,h,W,hm,hN,hk=>by
    rw[sV];unfold Cv Proofs.YteijalgmijkphaaGreatDoor.bfs;simp only;have hl:=h.len;have hn:=e.1;by_cases a:k<O l
    · rw[dT V,Z1,rC a,vt,dif_pos a];have i:=h.2 _<|cw a;have g:=e.at i;rw[(IK i).1,vt];have p:(fun(s:Int×H Int×H (Int×YU))(c:Int×H Int×H (Int×YU)->L (H Int×Int))=>match s with|(b,YV,Wt)=>bif G ((b:Int)<(O YV:Int))then Option.bind (vx YV b) λf=>ao (vx cells f) λd=>vq Gi (Gj b c) d (YV,Wt)else U (YV,0))=Cv cells:=rfl;rw[p];obtain⟨o,q,j⟩:=Ft (body:=Gi) (K:=Gj (k:Int) (again (Cv cells) N)) (λx l m r hl=>by
        unfold Gi;simp only[];cases (G (x.h=2)&&(!((lk x.n m).getD aw)))with
        |false=>rfl
        |true=>rw[Z1,Z1,gH (A5 (by simp;omega) tS)]) (A6 cells l[k]) l s W (by have:=g.1.2;omega)
      rw[j];unfold Gj;simp only;rw[gI V V];have J:=(QW (A6 cells l[k]) l).length_le;exact bfs_loop e m N (k+1) _ o (h.ll g.2) q V V V
    · rw[dF V,Z2,dif_neg a]
variable{N:Nat}
theorem reach_eq(hN:100<=N)(b:wz cells)(a:∀v∈vs,lJ (O cells) v)(hl:O vs<=400):Rv N cells vs=U (Pk cells vs,0):=by
 unfold Rv;rw[(all_ok cells).2 b,dF C7,Z2,dF V,Z2];have k1:∀l:H tp,(∀v∈l,lJ (O cells) v)->vq (Mg cells) (Gl N cells vs) l ()=Gl N cells vs ():=by
  intro l;induction l with
  |nil=>intro _;rfl
  |cons x l ih=>
   intro h;rw[fQ];unfold Mg;rw[(uN _ _).2 (h x C7),dF C7,Z2];exact ih λv a=>h v<|bo _ a
 rw[k1 vs a];unfold Gl;obtain⟨d,e,c⟩:=Ft (body:=Mf) (K:=TI N cells) (λx l m f hl=>by
  unfold Mf;simp only[];cases (G (x.h=2)&&(!((lk x.n m).getD aw)))with
  |false=>rfl
  |true=>rw[Z1,Z1,gH (A5 (by simp;omega) tS)]) vs [] [] Seen.nil (by simp;omega)
 rw[c];exact bfs_loop b 25 N 0 _ d (Ao.nil.ll a) e (by have:=b.1;omega) V V
theorem YM(a:H Int)(b:Int):∀(m i:Nat),i+m=O a->Ax (vL a b) Ef (i:Int) m ()=U (match (a.drop i).findIdx? (λx=>G (b=x))with|some j=>((i+j:Nat):Int)|none=> -1)
  |0,i,h=>by
    rw[show a.drop i=[]from List.drop_eq_nil_of_le V];rfl
  |m+1,i,h=>by
    rw[QU];have f:=YM a b m (i+1) V;unfold vL;rw[rC V,vt,List.drop_eq_getElem_cons (by omega:i<O a),List.findIdx?_cons];by_cases e:b=a[i]
    · rw[dT e,Z1];simp
    · rw[dF e,Z2];have k:(fun(d:Int)(s:Unit)(c:Unit->L Int)=>ao (vx a d) λg=>bif G ((b:Int)=g)then U d else c ())=vL a b:=rfl;rw[k,show((i:Int)+1)=((i+1:Nat):Int) by omega,f];cases (a.drop (i+1)).findIdx? (λx=>G (b=x))with
      |none=>rfl
      |some j=>simp only[dF e,Bool.false_eq_true,if_false,Option.map_some];rw[show i+1+j=i+(j+1) by omega]
theorem GP{a:H Int}{b:Int}(h:b∈a):Ds a b=U (a.idxOf b:Int):=by
 unfold Ds;rw[ba];have:=YM a b (O a) 0 V;rw[fF]at this;have e:a.findIdx? (λx=>decide<|b=x)=U (a.idxOf b):=by
  rw[List.findIdx?_eq_some_iff_findIdx_eq];have c:a.findIdx (λx=>decide<|b=x)=a.idxOf b:=by
   unfold List.idxOf;congr 1;funext x;rw[dI];simp;exact⟨λh=>h.symm,λh=>h.symm⟩
  exact⟨List.idxOf_lt_length_of_mem h,c⟩
 rw[e]at this;simpa using this
theorem contains_eq(a:H Int)(b:Int):DE a b=U (G (b∈a)):=by
  unfold DE;by_cases h:b∈a
  · rw[GP h,vt,dT V,dT h]
  · unfold Ds;have:=YM a b (O a) 0 V;rw[fF]at this;have e:a.findIdx? (λx=>decide<|b=x)=none:=by
      rw[List.findIdx?_eq_none_iff];intro x c;simp;intro e;subst e;exact h c
    rw[e]at this;rw[ba];have d:Ax (vL a b) Ef 0 (O a) ()=U (-1):=this;rw[d,vt,dF V,dF h]
theorem UZ{K:H Int->L (H Int)}:∀(vs:H tp) (l:H Int),O l+O vs<=1000->vq yK K vs l=K (YL l vs)
  |[],l,_=>rfl
  |v::vs,l,hl=>by
    simp only[br]at hl;rw[fQ,QV];generalize c:vq yK K vs=K1;unfold yK YK;simp only[yJ,contains_eq,vt];by_cases a:v.h=2
    · rw[dT a,Z1];by_cases b:v.n∈l
      · rw[dT b,cE,Z2,Z4 (λh=>h.2 b),<-c];exact UZ vs l V
      · rw[dF b,en,Z1,Z3 ⟨a,b⟩,gH (A5 (by simp;omega) tS),<-c];exact UZ vs _ (by simp;omega)
    · rw[dF a,Z2,Z2,Z4 (λh=>a h.1),<-c];exact UZ vs l V
theorem HG(b:wz cells):∀(m N k:Nat) (l:H Int) (w:H tp),Ao (O cells) l->O cells<k+m->m<N->k<=O l->again (qF cells) N (l,w,(k:Int))=U (bfs cells m k l)
  |m,0,k,l,w,h,hm,hN,hk=>by omega
  |0,N+1,k,l,w,h,hm,hN,hk=>by have:=h.len;omega
  |m+1,N+1,k,l,w,h,hm,hN,hk=>by
    rw[sV];generalize e:again (qF cells) N=K;unfold qF Proofs.YteijalgmijkphaaGreatDoor.bfs;simp only;have hl:=h.len;have hn:=b.1;by_cases a:k<O l
    · rw[dT V,Z1,dT V,Z1,rC a,vt,dif_pos a];have d:=h.2 _<|cw a;have c:=b.at d;rw[(IK d).1,vt];unfold uL;rw[UZ _ _ (by have:=c.1.2;omega)];unfold CW;rw[gI V V,<-e];have J:=(QW (A6 cells l[k]) l).length_le;exact HG b m N (k+1) _ _ (h.ll c.2) V V V
    · rw[dF V,Z2,dif_neg a]
theorem met_eq(hN:100<=N)(a:wz cells)(b:∀v∈vs,lJ (O cells) v)(hl:O vs<=400):EL N cells vs=U (Pk cells vs):=by
 unfold EL;obtain⟨M,rfl⟩:∃M,N=M+1:=⟨N-1,by omega⟩;rw[sV];generalize c:again (qF cells) M=K;unfold qF;simp only;rw[dT C7,Z1,dF C7,Z2];unfold uL;rw[UZ _ _ (by simp;omega)];unfold CW;rw[gI V V,<-c];exact HG a 25 M 0 _ _ (Ao.nil.ll b) (by have:=a.1;omega) V V
end
end Go.Proofs.YteijalgmijkphaaGreatDoor