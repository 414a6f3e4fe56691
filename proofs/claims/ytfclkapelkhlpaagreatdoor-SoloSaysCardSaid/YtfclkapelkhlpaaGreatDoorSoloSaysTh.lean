/-
  What the law SoloSays needs of our own library and of the walks, no more.
-/
import Derived.Test.YtfclkapelkhlpaaGreatDoorProg
import Derived.Test.YtfclkapelkhlpaaGreatDoorSoloSaysTg
set_option linter.unusedSimpArgs false
set_option linter.unusedVariables false
set_option maxRecDepth 10000
namespace Go.Proofs.YtfclkapelkhlpaaGreatDoor
open Go Go.Proofs Go.LX
noncomputable section
def rP (fH : List LX.Frame) (sx : LX.State) (iU : LX.Frame) (x25 : Ins) (a : List bL) (tY : Int) (MU : Int) (x69 : Bool) : Option (List Int × Bool × Bool × LX.State) :=
  bif (!x69) then some ([], false, false, (⟨fH, sx.cells, sx.status, sx.aL⟩ : LX.State)) else (idx iU.regs x25.a).bind fun x71 => some ([], false, true, (⟨(fH.set (((sx.frames.length : Int) - 1)).toNat ({ iU with regs := (iU.regs.set (x25.a).toNat (⟨tY, MU⟩ : Val)) })), sx.cells, sx.status, sx.aL⟩ : LX.State))
def ni (fH : List LX.Frame) (sx : LX.State) (x81 : Val) (x25 : Ins) (iU : LX.Frame) (a : List bL) (x90 : Bool) : Option (List Int × Bool × Bool × LX.State) :=
  bif x90 then some ([], false, false, (⟨fH, sx.cells, sx.status, sx.aL⟩ : LX.State)) else (idx sx.cells x81.n).bind fun x92 => ib (x92 ≠ []) ((idx x92 x25.c).bind fun x104 => (idx iU.regs x25.a).bind fun x112 => some ([], false, true, (⟨(fH.set (((sx.frames.length : Int) - 1)).toNat ({ iU with regs := (iU.regs.set (x25.a).toNat x104) })), sx.cells, sx.status, sx.aL⟩ : LX.State)))
def nk (fH : List LX.Frame) (sx : LX.State) (BH : Val) (iU : LX.Frame) (x25 : Ins) (Xm : Bool) : Option (List Int × Bool × Bool × LX.State) :=
  bif Xm then some ([], false, false, (⟨fH, sx.cells, sx.status, sx.aL⟩ : LX.State)) else (idx sx.cells BH.n).bind fun Un => ib (Un ≠ []) ((idx iU.regs x25.b).bind fun x153 => (idx Un x25.c).bind fun x161 => some ([], false, true, (⟨fH, (sx.cells.set (BH.n).toNat (Un.set (x25.c).toNat x153)), sx.status, sx.aL⟩ : LX.State)))
def kQ (x25 : Ins) (a : List bL) (Eb : List LX.Frame) (zL : List (List Val)) (IQ : Int) (IU : Int) : Option (List Int × Bool × Bool × LX.State) :=
  bif decide (((zL.length : Int) : Int) = 24) then some ([], false, false, (⟨Eb, zL, IQ, IU⟩ : LX.State)) else ib (jV ((Eb.length : Int) - 1)) ((idx Eb ((Eb.length : Int) - 1)).bind fun Fe => (idx Fe.regs x25.a).bind fun x199 => ib (0 ≤ x25.b ∧ x25.b * 16 ≤ 140737488355328) (ib (Room 24 zL [(List.replicate x25.b.toNat (⟨0, 0⟩ : Val))]) (some ([], false, true, (⟨(Eb.set (((Eb.length : Int) - 1)).toNat ({ Fe with regs := (Fe.regs.set (x25.a).toNat (⟨2, (zL.length : Int)⟩ : Val)) })), (zL ++ [(List.replicate x25.b.toNat (⟨0, 0⟩ : Val))]), IQ, IU⟩ : LX.State)))))
def jw (iU : LX.Frame) (i233 : Int) (x234 : Int) (Di : List Val) (nx236 : List Val → Option (List Int × Bool × Bool × LX.State)) : Option (List Int × Bool × Bool × LX.State) :=
  (idx iU.regs x234).bind fun RU => (idx Di i233).bind fun x252 => nx236 (Di.set (i233).toNat RU)
def jy (fH : List LX.Frame) (x25 : Ins) (a : List bL) (sx : LX.State) (Di : List Val) : Option (List Int × Bool × Bool × LX.State) :=
  ib (Room 48 fH [(⟨x25.b, 0, Di, x25.a⟩ : LX.Frame)]) (some ([], false, true, (⟨(fH ++ [(⟨x25.b, 0, Di, x25.a⟩ : LX.Frame)]), sx.cells, sx.status, sx.aL⟩ : LX.State)))
def wZ (iU : LX.Frame) (i273 : Int) (x274 : Int) (Dj : List Val) (nx276 : List Val → Option (List Int × Bool × Bool × LX.State)) : Option (List Int × Bool × Bool × LX.State) :=
  (idx iU.regs x274).bind fun RV => (idx Dj i273).bind fun x292 => nx276 (Dj.set (i273).toNat RV)
def w9 (fH : List LX.Frame) (x25 : Ins) (a : List bL) (sx : LX.State) (Dj : List Val) : Option (List Int × Bool × Bool × LX.State) :=
  ib (Room 48 fH [(⟨x25.b, 0, Dj, x25.a⟩ : LX.Frame)]) (some ([], false, true, (⟨(fH ++ [(⟨x25.b, 0, Dj, x25.a⟩ : LX.Frame)]), sx.cells, sx.status, sx.aL⟩ : LX.State)))
def gV (iU : LX.Frame) (x25 : Ins) (a : List bL) (fH : List LX.Frame) (sx : LX.State) (Xn : Bool) : Option (List Int × Bool × Bool × LX.State) :=
  bif Xn then (idx iU.regs x25.a).bind fun IV => bif decide ((IV.kind : Int) ≠ 1) then some ([], false, false, (⟨fH, sx.cells, sx.status, sx.aL⟩ : LX.State)) else bif decide ((x25.op : Int) = 9) then some ([IV.n], false, true, (⟨fH, sx.cells, sx.status, sx.aL⟩ : LX.State)) else some ([], true, true, (⟨fH, sx.cells, 3, IV.n⟩ : LX.State)) else bif decide ((x25.op : Int) = 10) then some ([], true, true, (⟨fH, sx.cells, sx.status, sx.aL⟩ : LX.State)) else bif decide ((x25.op : Int) = 12) then some ([], false, true, (⟨(fH.set (((sx.frames.length : Int) - 1)).toNat ({ iU with at_ := x25.b })), sx.cells, sx.status, sx.aL⟩ : LX.State)) else bif decide ((x25.op : Int) = 13) then (idx iU.regs x25.a).bind fun NR => bif (decide ((NR.kind : Int) ≠ 2) && decide ((NR.n : Int) = 0)) then some ([], false, true, (⟨(fH.set (((sx.frames.length : Int) - 1)).toNat ({ iU with at_ := x25.b })), sx.cells, sx.status, sx.aL⟩ : LX.State)) else some ([], false, true, (⟨fH, sx.cells, sx.status, sx.aL⟩ : LX.State)) else some ([], false, true, (⟨fH, sx.cells, sx.status, sx.aL⟩ : LX.State))
def dC (N : Nat) (sx : LX.State) (x25 : Ins) (a : List bL) (fH : List LX.Frame) : Option (List Int × Bool × Bool × LX.State) :=
  (idx fH ((sx.frames.length : Int) - 1)).bind fun iU => bif decide ((x25.op : Int) = 1) then (idx iU.regs x25.a).bind fun AX => some ([], false, true, (⟨(fH.set (((sx.frames.length : Int) - 1)).toNat ({ iU with regs := (iU.regs.set (x25.a).toNat (⟨1, x25.b⟩ : Val)) })), sx.cells, sx.status, sx.aL⟩ : LX.State)) else bif decide ((x25.op : Int) = 2) then (idx iU.regs x25.b).bind fun Qi => (idx iU.regs x25.a).bind fun x59 => some ([], false, true, (⟨(fH.set (((sx.frames.length : Int) - 1)).toNat ({ iU with regs := (iU.regs.set (x25.a).toNat Qi) })), sx.cells, sx.status, sx.aL⟩ : LX.State)) else bif decide ((x25.op : Int) = 3) then (idx x25.args 0).bind fun IW => (idx iU.regs x25.b).bind fun Dk => (idx iU.regs x25.c).bind fun AL => (tF IW Dk AL).bind fun gW => rP fH sx iU x25 a gW.1.kind gW.1.n gW.2 else bif decide ((x25.op : Int) = 4) then (idx iU.regs x25.b).bind fun x81 => bif decide ((x81.kind : Int) ≠ 2) then ni fH sx x81 x25 iU a true else (idx sx.cells x81.n).bind fun Bg => ni fH sx x81 x25 iU a (decide (((Bg.length : Int) : Int) ≤ x25.c)) else bif decide ((x25.op : Int) = 6) then (idx iU.regs x25.a).bind fun BH => bif decide ((BH.kind : Int) ≠ 2) then nk fH sx BH iU x25 true else (idx sx.cells BH.n).bind fun x168 => nk fH sx BH iU x25 (decide (((x168.length : Int) : Int) ≤ x25.c)) else bif decide ((x25.op : Int) = 5) then bif decide (((sx.cells.length : Int) : Int) = 24) then (uw N (⟨fH, sx.cells, sx.status, sx.aL⟩ : LX.State)).bind fun mq => kQ x25 a mq.frames mq.cells mq.status mq.aL else kQ x25 a fH sx.cells sx.status sx.aL else bif decide ((x25.op : Int) = 7) then bif decide (((fH.length : Int) : Int) = 10) then some ([], false, false, (⟨fH, sx.cells, sx.status, sx.aL⟩ : LX.State)) else (idx a x25.b).bind fun AO => ib (0 ≤ AO.regs ∧ AO.regs * 16 ≤ 140737488355328) (dW (jw iU) (jy fH x25 a sx) 0 x25.args (List.replicate AO.regs.toNat (⟨0, 0⟩ : Val))) else bif decide ((x25.op : Int) = 8) then (idx iU.regs x25.a).bind fun mr => ib (jV ((fH.length : Int) - 1)) ((sub? fH 0 ((fH.length : Int) - 1)).bind fun x313 => bif decide ((((fH.take (((fH.length : Int) - 1)).toNat).length : Int) : Int) = 0) then some ([], false, true, (⟨(fH.take (((fH.length : Int) - 1)).toNat), sx.cells, 1, sx.aL⟩ : LX.State)) else ib (jV (((fH.take (((fH.length : Int) - 1)).toNat).length : Int) - 1)) ((idx (fH.take (((fH.length : Int) - 1)).toNat) (((fH.take (((fH.length : Int) - 1)).toNat).length : Int) - 1)).bind fun Qs => (idx Qs.regs iU.lW).bind fun x331 => some ([], false, true, (⟨((fH.take (((fH.length : Int) - 1)).toNat).set ((((fH.take (((fH.length : Int) - 1)).toNat).length : Int) - 1)).toNat ({ Qs with regs := (Qs.regs.set (iU.lW).toNat mr) })), sx.cells, sx.status, sx.aL⟩ : LX.State)))) else bif decide ((x25.op : Int) = 9) then gV iU x25 a fH sx (decide ((x25.op : Int) = 9)) else gV iU x25 a fH sx (decide ((x25.op : Int) = 11))
def eO (N : Nat) (sx : LX.State) (a : List bL) : Option (List Int × Bool × Bool × LX.State) :=
  ib (jV ((sx.frames.length : Int) - 1)) ((idx sx.frames ((sx.frames.length : Int) - 1)).bind fun x3 => (idx a x3.proc).bind fun yw => (idx yw.code x3.at_).bind fun x25 => ib (jV ((yw.code.length : Int) - 1)) (bif decide ((x3.at_ : Int) < ((yw.code.length : Int) - 1)) then ib (jV (x3.at_ + 1)) (dC N sx x25 a (sx.frames.set (((sx.frames.length : Int) - 1)).toNat ({ x3 with at_ := (x3.at_ + 1) }))) else dC N sx x25 a sx.frames))
theorem Er (N : Nat) (w0 : World) (M : BS) (hM : ∀ b, M b → b < w0.heap.size) (sb : Nat) (sx : LX.State) (gT vs1 : Value) (iH ig : List Value) (hC : Chunk.holds w0 M (Chunk.own' (cT sb gT vs1 (sx.status) (sx.aL) sx.frames iH sx.cells ig)) (cT sb gT vs1 (sx.status) (sx.aL) sx.frames iH sx.cells ig)) (hap : ∀ b, Chunk.own' (cT sb gT vs1 (sx.status) (sx.aL) sx.frames iH sx.cells ig) b → ¬ M b) (va : Value) (a : List bL) (ha : gX jk w0 (fun b => M b ∨ (cT sb gT vs1 (sx.status) (sx.aL) sx.frames iH sx.cells ig).own' b) va a) (r : List Int × Bool × Bool × LX.State) (hs : eO N sx a = some r) :
    Calls Tryz.prog 70 #[va, (.pointer (some ⟨sb, 0, none⟩))] w0 (fun e w' => aP (Chunk.own' (cT sb gT vs1 (sx.status) (sx.aL) sx.frames iH sx.cells ig)) w0 w' ∧ ∃ u0, ∃ Ll, ∃ Lm, ∃ Lp, ∃ Lr, e = .returned (.tuple #[u0, .bool r.2.1, .bool r.2.2.1]) ∧ Chunk.holds w' M (Chunk.own' (cT sb Ll Lm r.2.2.2.status r.2.2.2.aL r.2.2.2.frames Lp r.2.2.2.cells Lr)) (cT sb Ll Lm r.2.2.2.status r.2.2.2.aL r.2.2.2.frames Lp r.2.2.2.cells Lr) ∧ (∀ b, Chunk.own' (cT sb Ll Lm r.2.2.2.status r.2.2.2.aL r.2.2.2.frames Lp r.2.2.2.cells Lr) b → b < w0.heap.size → Chunk.own' (cT sb gT vs1 (sx.status) (sx.aL) sx.frames iH sx.cells ig) b) ∧ gX eP w' (fun b => M b ∨ Chunk.own' (cT sb Ll Lm r.2.2.2.status r.2.2.2.aL r.2.2.2.frames Lp r.2.2.2.cells Lr) b) u0 r.1) := by
 refine aQ (args := [va, (.pointer (some ⟨sb, 0, none⟩))]) Tryz.func70 rfl Tryz.ntmps70 (bF rfl) ?_
 have h := SH.Il hM hC hap
 replace h := h.EH 6 ha Dz
 generalize vZ : (cT sb gT vs1 (sx.status) (sx.aL) sx.frames iH sx.cells ig).own' = K0 at h
 replace h := h.bY 1 5 (by decide) rfl rfl
 replace h := h.bY 1 4 (by decide) rfl rfl
 replace h := h.bY 1 3 (by decide) rfl rfl
 replace h := h.bY 1 2 (by decide) rfl rfl
 have vC := ha.bT
 refine nG (mD (cs := [(.pointer (some ⟨sb, 0, none⟩))]) h 7 rfl rfl fun w b1 h => aa (ae (v := (.slice none 0 0)) rfl) (aa (ae (v := (.bool (false))) rfl) (aa (ae (v := (.bool (false))) rfl) (nN (aM (uI mixed (by kernel_rfl) h fun w h => aD (aA h 7 rfl lY rfl rfl) (aD (aW rfl) (aD (ag dQ rfl) (aD (aA h 1 rfl gD rfl rfl) (aD (aA h 7 rfl lY rfl rfl) (aD (aW rfl) (aD (ag dQ rfl) (aD (aA h 1 rfl gD rfl rfl) (aD (mM (N := bg) dx rfl (h.eG 2 rfl) (h.fD 3 rfl)) ?_))))))))))))))
 obtain ⟨a2, hs⟩ := bB hs
 refine aD (mV rfl rfl a2) ?_
 obtain ⟨x3, e4, hs⟩ := aK hs
 obtain ⟨u8, e9, h⟩ := h.l6 3 8 x3.regs rfl rfl (by decide) (aB e4).2 rfl
 obtain ⟨b6, q7, i5⟩ := h.qY 2 rfl dx rfl (aB e4).1 (eu (aB e4).2 e9)
 refine aD (i5 _ _ _ _ _ _ _ _ _ rfl rfl) (aD (ae (v := (.pointer (some ⟨b6, (((sx.frames.length : Int) - 1)).toNat * 4, none⟩))) rfl) (uf (ak (nG (aa (ah (v := va) rfl) (aa (ah (v := (.pointer (some ⟨b6, (((sx.frames.length : Int) - 1)).toNat * 4, none⟩))) rfl) (aa (aW rfl) (aa (ag yU rfl) ?_))))))))
 obtain ⟨cs10, m11, r12⟩ := h.uF 2 rfl q7 (eu (aB e4).2 e9)
 obtain ⟨rfl, -⟩ := r12
 refine aa (kH (k := 0) m11 aU rfl rfl) ?_
 obtain ⟨yw, e14, hs⟩ := aK hs
 obtain ⟨b16, o17, cs18, h, r19, i15⟩ := h.Cm 6 9 rfl gU rfl (aB e14).1 (aB e14).2
 obtain ⟨u20, rfl, g21⟩ := jW r19
 replace h := h.dA 10 g21.up
 refine aa (i15 _ _ _ _ _ _ _ _ _ rfl rfl) (aa (ag nQ rfl) (aa (fq (k := 2) h 9 rfl xy rfl rfl) (aa (ae (v := u20) rfl) (nJ (aa (ah (v := u20) rfl) (aa (ah (v := (.pointer (some ⟨b6, (((sx.frames.length : Int) - 1)).toNat * 4, none⟩))) rfl) (aa (aW rfl) (aa (ag qC rfl) ?_))))))))
 obtain ⟨cs22, m23, r24⟩ := h.uF 2 rfl q7 (eu (aB e4).2 e9)
 obtain ⟨rfl, -⟩ := r24
 refine aa (kH (k := 1) m23 aU rfl rfl) ?_
 obtain ⟨x25, e26, hs⟩ := aK hs
 obtain ⟨b28, o29, cs30, h, r31, i27⟩ := h.Cm 10 11 rfl iy rfl (aB e26).1 (aB e26).2
 obtain ⟨u32, rfl, g33⟩ := wM r31
 replace h := h.dA 12 g33.up
 refine aa (i27 _ _ _ _ _ _ _ _ _ rfl rfl) (aa (jo (k := 0) (vs := [(I6 x25.op), (I6 x25.a), (I6 x25.b), (I6 x25.c), u32]) h 11 rfl nT rfl rfl rfl (bF rfl)) (bP h 13 nT fun w Gx h => dH (vs := [(I6 x25.op), (I6 x25.a), (I6 x25.b), (I6 x25.c), u32]) h 13 [(I6 x25.op), (I6 x25.a), (I6 x25.b), (I6 x25.c), u32] rfl nT rfl rfl rfl rfl rfl (ai rfl (ai rfl (ai rfl (ai rfl (ai (h.iD 12 rfl).one aS))))) fun w h => nN (bX (σ := List LX.Frame) (inl (rg 50 15)) (fun fH => []) (fun fH w => SH w0 M K0 w (hset [(1, .blk sb [gT, vs1, (I6 sx.status), (I6 sx.aL)]), (2, .own bg.raw 49 gT (List.zip fH iH)), (3, .ik (dS bC 51 hn iH (List.map bg.sub fH))), (4, .own (dZ Val).raw 47 vs1 (List.zip sx.cells ig)), (5, .ik (dS bC 51 hn ig (List.map (dZ Val).sub sx.cells))), (6, .rd jk va a), (7, .blk b1 [(.pointer (some ⟨sb, 0, none⟩))]), (12, .rd eP u32 x25.args), (13, .blk Gx [(I6 x25.op), (I6 x25.a), (I6 x25.b), (I6 x25.c), u32])]) ∧ dC N sx x25 a fH = some r) ?_ ?_)))
 rintro fH w dO ⟨h, hs⟩
 refine nG (aa (ah (v := (.pointer (some ⟨b6, (((sx.frames.length : Int) - 1)).toNat * 4, none⟩))) rfl) (aa (aW rfl) (aa (ag jZ rfl) ?_)))
 obtain ⟨iU, e37, hs⟩ := aK hs
 obtain ⟨u38, e39, h⟩ := h.l6 3 14 iU.regs rfl rfl (by decide) (aB e37).2 rfl
 obtain ⟨cs40, m41, r42⟩ := h.uF 2 rfl q7 (eu (aB e37).2 e39)
 obtain ⟨rfl, -⟩ := r42
 refine aa (kH (k := 2) m41 j3 rfl rfl) (aa (ae (v := u38) rfl) (nJ (aa (r9 (c1 := []) (c2 := [(.pointer (some ⟨Gx, 0, none⟩)), (.pointer (some ⟨b1, 0, none⟩))]) rfl rfl) (aa (ae (v := (.func (.func 93) #[] #[(.pointer (some ⟨Gx, 0, none⟩)), (.pointer (some ⟨b1, 0, none⟩))])) rfl) (nK (aa (ag mG rfl) (aa (aA h 13 rfl aU rfl rfl) (nN (aO (nG (aa (bz rfl rfl) (aa (ae (v := (.bool (decide ((x25.op : Int) = 1)))) rfl) (nN ?_)))))))))))))
 refine aI hs rfl (fun Tq hs => ?_) (fun Tq hs => ?_)
 refine aC (aa (ah (v := u38) rfl) (aa (ag jb rfl) (aa (aA h 13 rfl aU rfl rfl) (aa (ag gp rfl) (aa (aA h 13 rfl aU rfl rfl) (aa (ek (pv := [(0, (I6 1)), (1, (I6 x25.b))]) (out := [(I6 1), (I6 x25.b)]) qE rfl ⟨0, 1, [(I6 1)], rfl, rfl, rfl, bF rfl, ⟨1, 1, [(I6 x25.b)], rfl, rfl, rfl, bF rfl, rfl⟩⟩) ?_))))))
 obtain ⟨AX, e45, hs⟩ := aK hs
 obtain ⟨b47, q48, i46⟩ := h.qY 14 rfl aZ rfl (aB e45).1 (aB e45).2
 refine aa (i46 _ _ _ _ _ _ _ _ _ rfl rfl) (ry (a' := (⟨1, x25.b⟩ : Val)) (vs := [(I6 1), (I6 x25.b)]) h 14 rfl q48 rfl (aB e45).2 aY rfl rfl rfl rfl rfl fun w h ZN => az (ax (ak (nG (aa (ae (v := (.slice none 0 0)) rfl) (aa (ae (v := (.bool (false))) rfl) (aa (ae (v := (.bool (true))) rfl) (nR (yB (v1 := (.slice none 0 0)) (v2 := (.bool (false))) (v3 := (.bool (true))) Tryz.results70 rfl rfl rfl ?_)))))))))
 replace h := h.l5 2 3 14 ({ iU with regs := (iU.regs.set (x25.a).toNat (⟨1, x25.b⟩ : Val)) }) rfl rfl rfl (by decide) (by decide) (by decide) (aB e37).2 e39 rfl
 replace h := h.pair 1 2 (by decide)
 replace h := h.pair 1 3 (by decide)
 replace h := h.pair 1 4 (by decide)
 replace h := h.pair 1 5 (by decide)
 obtain rfl := fP hs
 subst vZ
 obtain ⟨o1, o2, o3⟩ := h.kJ 1 (C := (cT sb gT vs1 (sx.status) (sx.aL) (fH.set (((sx.frames.length : Int) - 1)).toNat ({ iU with regs := (iU.regs.set (x25.a).toNat (⟨1, x25.b⟩ : Val)) })) iH sx.cells ig)) rfl ⟨⟨⟨⟨trivial, trivial⟩, trivial⟩, trivial⟩, trivial⟩
 exact ⟨o2, .slice none 0 0, gT, vs1, iH, ig, rfl, o1, o3, gy.nil⟩
 refine nG (aa (bz rfl rfl) (aa (ae (v := (.bool (decide ((x25.op : Int) = 2)))) rfl) (nN (aI hs rfl (fun c50 hs => ?_) (fun c50 hs => ?_)))))
 refine lg 9 mixed (by kernel_rfl) h fun w h => aD (ah (v := u38) rfl) (aD (ag jb rfl) (aD (aA h 13 rfl aU rfl rfl) (aD (ah (v := u38) rfl) (aD (ag gp rfl) (aD (aA h 13 rfl aU rfl rfl) ?_)))))
 obtain ⟨Qi, e52, hs⟩ := aK hs
 obtain ⟨b54, q55, i53⟩ := h.qY 14 rfl aZ rfl (aB e52).1 (aB e52).2
 refine aD (i53 _ _ _ _ _ _ _ _ _ rfl rfl) ?_
 obtain ⟨cs56, m57, r58⟩ := h.uF 14 rfl q55 (aB e52).2
 obtain rfl := r58
 refine aD (kg (k := 0) (vs := [(I6 Qi.kind), (I6 Qi.n)]) m57 aY rfl rfl rfl (bF rfl)) ?_
 obtain ⟨x59, e60, hs⟩ := aK hs
 obtain ⟨b62, q63, i61⟩ := h.qY 14 rfl aZ rfl (aB e60).1 (aB e60).2
 refine aD (i61 _ _ _ _ _ _ _ _ _ rfl rfl) (uH (ry (a' := Qi) (vs := [(I6 Qi.kind), (I6 Qi.n)]) h 14 rfl q63 rfl (aB e60).2 aY rfl rfl rfl rfl rfl fun w h k64 => az (ax (ak (nG (aa (ae (v := (.slice none 0 0)) rfl) (aa (ae (v := (.bool (false))) rfl) (aa (ae (v := (.bool (true))) rfl) (nR (yB (v1 := (.slice none 0 0)) (v2 := (.bool (false))) (v3 := (.bool (true))) Tryz.results70 rfl rfl rfl ?_))))))))))
 replace h := h.l5 2 3 14 ({ iU with regs := (iU.regs.set (x25.a).toNat Qi) }) rfl rfl rfl (by decide) (by decide) (by decide) (aB e37).2 e39 rfl
 replace h := h.pair 1 2 (by decide)
 replace h := h.pair 1 3 (by decide)
 replace h := h.pair 1 4 (by decide)
 replace h := h.pair 1 5 (by decide)
 obtain rfl := fP hs
 subst vZ
 obtain ⟨o1, o2, o3⟩ := h.kJ 1 (C := (cT sb gT vs1 (sx.status) (sx.aL) (fH.set (((sx.frames.length : Int) - 1)).toNat ({ iU with regs := (iU.regs.set (x25.a).toNat Qi) })) iH sx.cells ig)) rfl ⟨⟨⟨⟨trivial, trivial⟩, trivial⟩, trivial⟩, trivial⟩
 exact ⟨o2, .slice none 0 0, gT, vs1, iH, ig, rfl, o1, o3, gy.nil⟩
 refine nG (aa (bz rfl rfl) (aa (ae (v := (.bool (decide ((x25.op : Int) = 3)))) rfl) (nN (aI hs rfl (fun Al hs => ?_) (fun Al hs => ?_)))))
 refine bX (σ := Nat × Int × Int × Bool) (inl ([12, 13] ++ rg 94 18)) (fun ⟨b66, tY, MU, x69⟩ => [(12, (.pointer (some ⟨b66, 0, none⟩))), (13, (.bool (x69)))]) (fun ⟨b66, tY, MU, x69⟩ w => SH w0 M K0 w (hset [(1, .blk sb [gT, vs1, (I6 sx.status), (I6 sx.aL)]), (2, .own bg.raw 49 gT (List.zip fH iH)), (3, .ik (dS bC 51 (hat (((sx.frames.length : Int) - 1)).toNat) iH (List.map bg.sub fH))), (4, .own (dZ Val).raw 47 vs1 (List.zip sx.cells ig)), (5, .ik (dS bC 51 hn ig (List.map (dZ Val).sub sx.cells))), (12, .rd eP u32 x25.args), (13, .blk Gx [(I6 x25.op), (I6 x25.a), (I6 x25.b), (I6 x25.c), u32]), (14, .own bC 51 u38 iU.regs), (231, .blk b66 [(I6 tY), (I6 MU)])]) ∧ rP fH sx iU x25 a tY MU x69 = some r) ?_ ?_
 rintro ⟨b66, tY, MU, x69⟩ w dO ⟨h, hs⟩
 refine aM (nG (aa (ah (v := (.bool (x69))) rfl) (aa (gL rfl) (nN (aI hs rfl (fun c70 hs => ?_) (fun c70 hs => ?_))))))
 refine nG (aa (ae (v := (.slice none 0 0)) rfl) (aa (ae (v := (.bool (false))) rfl) (aa (ae (v := (.bool (false))) rfl) (nR (ay (aF (ay (yB (v1 := (.slice none 0 0)) (v2 := (.bool (false))) (v3 := (.bool (false))) Tryz.results70 rfl rfl rfl ?_))))))))
 replace h := h.ed 3 14 rfl rfl (by decide) (aB e37).2 e39 rfl
 replace h := h.pair 1 2 (by decide)
 replace h := h.pair 1 3 (by decide)
 replace h := h.pair 1 4 (by decide)
 replace h := h.pair 1 5 (by decide)
 obtain rfl := fP hs
 subst vZ
 obtain ⟨o1, o2, o3⟩ := h.kJ 1 (C := (cT sb gT vs1 (sx.status) (sx.aL) fH iH sx.cells ig)) rfl ⟨⟨⟨⟨trivial, trivial⟩, trivial⟩, trivial⟩, trivial⟩
 exact ⟨o2, .slice none 0 0, gT, vs1, iH, ig, rfl, o1, o3, gy.nil⟩
 refine aH (ak (aC (aa (ah (v := u38) rfl) (aa (ag jb rfl) (aa (aA h 13 rfl aU rfl rfl) (aa (dK (vs := [(I6 tY), (I6 MU)]) h 231 rfl aY rfl rfl rfl) ?_))))))
 obtain ⟨x71, WA, hs⟩ := aK hs
 obtain ⟨b74, q75, i73⟩ := h.qY 14 rfl aZ rfl (aB WA).1 (aB WA).2
 refine aa (i73 _ _ _ _ _ _ _ _ _ rfl rfl) (ry (a' := (⟨tY, MU⟩ : Val)) (vs := [(I6 tY), (I6 MU)]) h 14 rfl q75 rfl (aB WA).2 aY rfl rfl rfl rfl rfl fun w h k76 => az (ax (ak (nG (aa (ae (v := (.slice none 0 0)) rfl) (aa (ae (v := (.bool (false))) rfl) (aa (ae (v := (.bool (true))) rfl) (nR (yB (v1 := (.slice none 0 0)) (v2 := (.bool (false))) (v3 := (.bool (true))) Tryz.results70 rfl rfl rfl ?_)))))))))
 replace h := h.l5 2 3 14 ({ iU with regs := (iU.regs.set (x25.a).toNat (⟨tY, MU⟩ : Val)) }) rfl rfl rfl (by decide) (by decide) (by decide) (aB e37).2 e39 rfl
 replace h := h.pair 1 2 (by decide)
 replace h := h.pair 1 3 (by decide)
 replace h := h.pair 1 4 (by decide)
 replace h := h.pair 1 5 (by decide)
 obtain rfl := fP hs
 subst vZ
 obtain ⟨o1, o2, o3⟩ := h.kJ 1 (C := (cT sb gT vs1 (sx.status) (sx.aL) (fH.set (((sx.frames.length : Int) - 1)).toNat ({ iU with regs := (iU.regs.set (x25.a).toNat (⟨tY, MU⟩ : Val)) })) iH sx.cells ig)) rfl ⟨⟨⟨⟨trivial, trivial⟩, trivial⟩, trivial⟩, trivial⟩
 exact ⟨o2, .slice none 0 0, gT, vs1, iH, ig, rfl, o1, o3, gy.nil⟩
 refine Dx mixed h fun w h => fT 0 (aP.refl BE _) rfl aj (by kernel_rfl) (by kernel_rfl) (by kernel_rfl) (fun w hk => ag qZ rfl) (fT 1 (aP.refl BE _) rfl aj (by kernel_rfl) (by kernel_rfl) (by kernel_rfl) (fun w hk => have h := h.grow hk; aA h 13 rfl qD rfl rfl) ?_)
 obtain ⟨IW, RX, hs⟩ := aK hs
 obtain ⟨bq77x2_4, oq77x2_5, csq77x2_6, h, aau, aav⟩ := h.Cm 12 256 rfl bV rfl (aB RX).1 (aB RX).2
 obtain rfl := aau
 refine fT 2 (aP.refl BE _) rfl aj (by kernel_rfl) (by kernel_rfl) (by kernel_rfl) (fun w hk => aav _ _ _ _ _ _ _ _ _ rfl rfl) (fT 3 (aP.refl BE _) rfl aj (by kernel_rfl) (by kernel_rfl) (by kernel_rfl) (fun w hk => have h := h.grow hk; fq (k := 0) h 256 rfl aU rfl rfl) (fT 4 (aP.refl BE _) rfl aj (by kernel_rfl) (by kernel_rfl) (by kernel_rfl) (fun w hk => ah (v := u38) rfl) (fT 5 (aP.refl BE _) rfl aj (by kernel_rfl) (by kernel_rfl) (by kernel_rfl) (fun w hk => ag gp rfl) (fT 6 (aP.refl BE _) rfl aj (by kernel_rfl) (by kernel_rfl) (by kernel_rfl) (fun w hk => have h := h.grow hk; aA h 13 rfl aU rfl rfl) ?_))))
 obtain ⟨Dk, MV, hs⟩ := aK hs
 obtain ⟨bq77x7_4, aaw, aax⟩ := h.qY 14 rfl aZ rfl (aB MV).1 (aB MV).2
 refine fT 7 (aP.refl BE _) rfl aj (by kernel_rfl) (by kernel_rfl) (by kernel_rfl) (fun w hk => aax _ _ _ _ _ _ _ _ _ rfl rfl) ?_
 obtain ⟨csq77x8_1, aay, aaz⟩ := h.uF 14 rfl aaw (aB MV).2
 obtain rfl := aaz
 refine fT 8 (aP.refl BE _) rfl aj (by kernel_rfl) (by kernel_rfl) (by kernel_rfl) (fun w hk => have h := h.grow hk; kg (k := 0) (vs := [(I6 Dk.kind), (I6 Dk.n)]) (aay.grow hk) aY rfl rfl rfl (bF rfl)) (fT 9 (aP.refl BE _) rfl aj (by kernel_rfl) (by kernel_rfl) (by kernel_rfl) (fun w hk => ah (v := u38) rfl) (fT 10 (aP.refl BE _) rfl aj (by kernel_rfl) (by kernel_rfl) (by kernel_rfl) (fun w hk => ag mH rfl) (fT 11 (aP.refl BE _) rfl aj (by kernel_rfl) (by kernel_rfl) (by kernel_rfl) (fun w hk => have h := h.grow hk; aA h 13 rfl aU rfl rfl) ?_)))
 obtain ⟨AL, Kh, hs⟩ := aK hs
 obtain ⟨bq77x12_4, Xo, Xp⟩ := h.qY 14 rfl aZ rfl (aB Kh).1 (aB Kh).2
 refine fT 12 (aP.refl BE _) rfl aj (by kernel_rfl) (by kernel_rfl) (by kernel_rfl) (fun w hk => Xp _ _ _ _ _ _ _ _ _ rfl rfl) ?_
 obtain ⟨csq77x13_1, Xq, Xr⟩ := h.uF 14 rfl Xo (aB Kh).2
 obtain rfl := Xr
 refine fT 13 (aP.refl BE _) rfl aj (by kernel_rfl) (by kernel_rfl) (by kernel_rfl) (fun w hk => have h := h.grow hk; kg (k := 0) (vs := [(I6 AL.kind), (I6 AL.n)]) (Xq.grow hk) aY rfl rfl rfl (bF rfl)) ?_
 obtain ⟨gW, OT, hs⟩ := aK hs
 obtain ⟨ws78, ws78e⟩ : ∃ x, x = w := ⟨_, rfl⟩
 have ym : Grow ws78 w := ws78e ▸ aP.refl BE w
 refine LA ws78e.symm (Pq 14 18 (by kernel_rfl) rfl aj rfl aj ?_ ?_)
 refine aX Y1 rfl rfl (zK _ _ h.lt IW Dk AL _ OT) ?_
 rintro _ w ⟨Dl, rfl⟩
 refine ⟨_, rfl, ?_⟩
 replace h := h.grow Dl
 replace ym := ym.trans Dl
 refine az (kz ym (uK 15 ym rfl (by kernel_rfl) (fun w hk => ah (v := (.tuple #[(.agg #[(I6 gW.1.kind), (I6 gW.1.n)]), (.bool (gW.2))])) rfl) (uK 16 ym rfl (by kernel_rfl) (fun w hk => bu rfl rfl) (uK 17 ym rfl (by kernel_rfl) (fun w hk => bu rfl rfl) (su 18 (by kernel_rfl) rfl aj (wL h 448 aY fun w Dm h Ha Hd => ?_))))))
 have He : ws78.heap.size ≤ Dm := Nat.le_trans ym.size Hd
 replace ym := ym.trans Ha
 refine az (kz ym (su 19 (by kernel_rfl) rfl aj (vO (vs := [(I6 gW.1.kind), (I6 gW.1.n)]) h 448 [(I6 gW.1.kind), (I6 gW.1.n)] rfl aY rfl rfl rfl rfl rfl (ai rfl (ai rfl aS)) fun w h Ki => ?_)))
 replace ym := ym.fresh Ki (fun x hx => hx ▸ He)
 refine az (kz ym (uK 20 ym rfl (by kernel_rfl) (fun w hk => ae (v := (.bool (gW.2))) rfl) (yS (by kernel_rfl) (au ?_))))
 replace h := (h.fA 231).moveC 448 231 rfl rfl (by decide)
 exact bQ (Dm, gW.1.kind, gW.1.n, gW.2) ⟨h.cn _, hs⟩
 refine wL h 448 aY fun w Dm h Ha Hd => ?_
 have He : ws78.heap.size ≤ Dm := Nat.le_trans ym.size Hd
 replace ym := ym.trans Ha
 refine az (kz ym (su 14 (by kernel_rfl) rfl aj (aX Y1 rfl rfl (zK _ _ h.lt IW Dk AL _ OT) ?_)))
 rintro _ w ⟨Dl, rfl⟩
 refine ⟨_, rfl, ?_⟩
 replace h := h.grow Dl
 replace ym := ym.trans Dl
 refine az (kz ym (uK 15 ym rfl (by kernel_rfl) (fun w hk => ah (v := (.tuple #[(.agg #[(I6 gW.1.kind), (I6 gW.1.n)]), (.bool (gW.2))])) rfl) (uK 16 ym rfl (by kernel_rfl) (fun w hk => bu rfl rfl) (uK 17 ym rfl (by kernel_rfl) (fun w hk => bu rfl rfl) (su 19 (by kernel_rfl) rfl aj (vO (vs := [(I6 gW.1.kind), (I6 gW.1.n)]) h 448 [(I6 gW.1.kind), (I6 gW.1.n)] rfl aY rfl rfl rfl rfl rfl (ai rfl (ai rfl aS)) fun w h Ki => ?_))))))
 replace ym := ym.fresh Ki (fun x hx => hx ▸ He)
 refine az (kz ym (uK 20 ym rfl (by kernel_rfl) (fun w hk => ae (v := (.bool (gW.2))) rfl) (yS (by kernel_rfl) (au ?_))))
 replace h := (h.fA 231).moveC 448 231 rfl rfl (by decide)
 exact bQ (Dm, gW.1.kind, gW.1.n, gW.2) ⟨h.cn _, hs⟩
 refine nG (aa (bz rfl rfl) (aa (ae (v := (.bool (decide ((x25.op : Int) = 4)))) rfl) (nN (aI hs rfl (fun c80 hs => ?_) (fun c80 hs => ?_)))))
 refine nG (aa (ah (v := (.func (.func 93) #[] #[(.pointer (some ⟨Gx, 0, none⟩)), (.pointer (some ⟨b1, 0, none⟩))])) rfl) (aa (ah (v := u38) rfl) (aa (ag gp rfl) (aa (aA h 13 rfl aU rfl rfl) ?_))))
 obtain ⟨x81, e82, hs⟩ := aK hs
 obtain ⟨CL, q85, i83⟩ := h.qY 14 rfl aZ rfl (aB e82).1 (aB e82).2
 refine aa (i83 _ _ _ _ _ _ _ _ _ rfl rfl) ?_
 obtain ⟨cs86, m87, r88⟩ := h.uF 14 rfl q85 (aB e82).2
 obtain rfl := r88
 refine aa (kg (k := 0) (vs := [(I6 x81.kind), (I6 x81.n)]) m87 aY rfl rfl rfl (bF rfl)) (lh (args := [(.agg #[(I6 x81.kind), (I6 x81.n)]), (.pointer (some ⟨Gx, 0, none⟩)), (.pointer (some ⟨b1, 0, none⟩))]) Y0 rfl rfl (aQ (args := [(.agg #[(I6 x81.kind), (I6 x81.n)]), (.pointer (some ⟨Gx, 0, none⟩)), (.pointer (some ⟨b1, 0, none⟩))]) Tryz.func93 rfl Tryz.ntmps93 (bF rfl) (nG (mD (cs := [(I6 x81.kind), (I6 x81.n)]) h 496 rfl rfl fun w b89 h => aa (ae (v := (.slice none 0 0)) rfl) (nN (aM (bX (σ := Bool) (inl (rg 5 17)) (fun x90 => [(21, (.bool (x90)))]) (fun x90 w => SH w0 M K0 w (hset [(1, .blk sb [gT, vs1, (I6 sx.status), (I6 sx.aL)]), (2, .own bg.raw 49 gT (List.zip fH iH)), (3, .ik (dS bC 51 (hat (((sx.frames.length : Int) - 1)).toNat) iH (List.map bg.sub fH))), (4, .own (dZ Val).raw 47 vs1 (List.zip sx.cells ig)), (5, .ik (dS bC 51 hn ig (List.map (dZ Val).sub sx.cells))), (7, .blk b1 [(.pointer (some ⟨sb, 0, none⟩))]), (12, .rd eP u32 x25.args), (13, .blk Gx [(I6 x25.op), (I6 x25.a), (I6 x25.b), (I6 x25.c), u32]), (14, .own bC 51 u38 iU.regs), (496, .blk b89 [(I6 x81.kind), (I6 x81.n)])]) ∧ ni fH sx x81 x25 iU a x90 = some r) ?_ ?_)))))))
 rintro x90 w dO ⟨h, hs⟩
 refine aI hs rfl (fun c91 hs => ?_) (fun c91 hs => ?_)
 refine nG (aa (ae (v := (.slice none 0 0)) rfl) (nR (ay (dD (v := (.slice none 0 0)) Tryz.results93 rfl (⟨_, rfl, ?_⟩)))))
 refine aa (ae (v := (.slice none 0 0)) rfl) (nK (aa (ah (v := (.slice none 0 0)) rfl) (aa (QY aZ rfl rfl) (nN (SK rfl (nG (aa (ae (v := (.slice none 0 0)) rfl) (aa (ae (v := (.bool (false))) rfl) (aa (ae (v := (.bool (false))) rfl) (nR (ay (aF (ay (yB (v1 := (.slice none 0 0)) (v2 := (.bool (false))) (v3 := (.bool (false))) Tryz.results70 rfl rfl rfl ?_))))))))))))))
 replace h := h.ed 3 14 rfl rfl (by decide) (aB e37).2 e39 rfl
 replace h := h.pair 1 2 (by decide)
 replace h := h.pair 1 3 (by decide)
 replace h := h.pair 1 4 (by decide)
 replace h := h.pair 1 5 (by decide)
 obtain rfl := fP hs
 subst vZ
 obtain ⟨o1, o2, o3⟩ := h.kJ 1 (C := (cT sb gT vs1 (sx.status) (sx.aL) fH iH sx.cells ig)) rfl ⟨⟨⟨⟨trivial, trivial⟩, trivial⟩, trivial⟩, trivial⟩
 exact ⟨o2, .slice none 0 0, gT, vs1, iH, ig, rfl, o1, o3, gy.nil⟩
 refine aH (ak (aM (uI mixed (by kernel_rfl) h fun w h => aD (aA h 7 rfl lY rfl rfl) (aD (aW rfl) (aD (ag gF rfl) (aD (aA h 1 rfl jU rfl rfl) (aD (ag fu rfl) (aD (aA h 496 rfl aU rfl rfl) ?_))))))))
 obtain ⟨x92, e93, hs⟩ := aK hs
 obtain ⟨TK, e98, h⟩ := h.l6 5 497 x92 rfl rfl (by decide) (aB e93).2 rfl
 obtain ⟨b95, q96, i94⟩ := h.qY 4 rfl eQ rfl (aB e93).1 (eu (aB e93).2 e98)
 refine aD (i94 _ _ _ _ _ _ _ _ _ rfl rfl) ?_
 obtain ⟨cs99, m100, r101⟩ := h.uF 4 rfl q96 (eu (aB e93).2 e98)
 obtain ⟨rfl, -⟩ := r101
 refine aD (kH (k := 0) m100 j3 rfl rfl) (aD (ae (v := TK) rfl) (uf (ak (BR (dD (v := TK) Tryz.results93 rfl (⟨_, rfl, ?_⟩))))))
 refine aa (ae (v := TK) rfl) (nK (aa (ah (v := TK) rfl) (aa (FC aZ rfl (h.eG 497 rfl) rfl) (nN ?_))))
 obtain ⟨Wh, hs⟩ := bB hs
 refine gK rfl (fun Wi => absurd (xk (h.eG 497 rfl) Wi).2 Wh) (fun Wi => ?_)
 refine aH (ak (lg 9 mixed (by kernel_rfl) h fun w h => aD (ah (v := u38) rfl) (aD (ag jb rfl) (aD (aA h 13 rfl aU rfl rfl) (aD (ah (v := TK) rfl) (aD (ag mH rfl) (aD (aA h 13 rfl aU rfl rfl) ?_)))))))
 obtain ⟨x104, Jq, hs⟩ := aK hs
 obtain ⟨b107, q108, i106⟩ := h.qY 497 rfl aZ rfl (aB Jq).1 (aB Jq).2
 refine aD (i106 _ _ _ _ _ _ _ _ _ rfl rfl) ?_
 obtain ⟨cs109, m110, r111⟩ := h.uF 497 rfl q108 (aB Jq).2
 obtain rfl := r111
 refine aD (kg (k := 0) (vs := [(I6 x104.kind), (I6 x104.n)]) m110 aY rfl rfl rfl (bF rfl)) ?_
 obtain ⟨x112, Qk, hs⟩ := aK hs
 obtain ⟨b115, q116, i114⟩ := h.qY 14 rfl aZ rfl (aB Qk).1 (aB Qk).2
 refine aD (i114 _ _ _ _ _ _ _ _ _ rfl rfl) (uH (ry (a' := x104) (vs := [(I6 x104.kind), (I6 x104.n)]) h 14 rfl q116 rfl (aB Qk).2 aY rfl rfl rfl rfl rfl fun w h k117 => az (ax (ak (nG (aa (ae (v := (.slice none 0 0)) rfl) (aa (ae (v := (.bool (false))) rfl) (aa (ae (v := (.bool (true))) rfl) (nR (yB (v1 := (.slice none 0 0)) (v2 := (.bool (false))) (v3 := (.bool (true))) Tryz.results70 rfl rfl rfl ?_))))))))))
 replace h := h.l5 2 3 14 ({ iU with regs := (iU.regs.set (x25.a).toNat x104) }) rfl rfl rfl (by decide) (by decide) (by decide) (aB e37).2 e39 rfl
 replace h := h.ed 5 497 rfl rfl (by decide) (aB e93).2 e98 rfl
 replace h := h.pair 1 2 (by decide)
 replace h := h.pair 1 3 (by decide)
 replace h := h.pair 1 4 (by decide)
 replace h := h.pair 1 5 (by decide)
 obtain rfl := fP hs
 subst vZ
 obtain ⟨o1, o2, o3⟩ := h.kJ 1 (C := (cT sb gT vs1 (sx.status) (sx.aL) (fH.set (((sx.frames.length : Int) - 1)).toNat ({ iU with regs := (iU.regs.set (x25.a).toNat x104) })) iH sx.cells ig)) rfl ⟨⟨⟨⟨trivial, trivial⟩, trivial⟩, trivial⟩, trivial⟩
 exact ⟨o2, .slice none 0 0, gT, vs1, iH, ig, rfl, o1, o3, gy.nil⟩
 refine uI mixed (by kernel_rfl) h fun w h => aD (ag mW rfl) (aD (aA h 496 rfl aU rfl rfl) (aD (iA rfl rfl) (aD (ah (v := (.bool (decide ((x81.kind : Int) ≠ 2)))) rfl) (kT (b := decide ((x81.kind : Int) ≠ 2)) hs (fun yN hs => ?_) (fun yN hs => ?_)))))
 refine dR (b' := true) rfl (cB yN) rfl (dR (b' := true) rfl (cB yN) rfl (dR (b' := true) rfl (cB yN) rfl (dR (b' := true) rfl (cB yN) rfl (dR (b' := true) rfl (cB yN) rfl (dR (b' := true) rfl (cB yN) rfl (dR (b' := true) rfl (cB yN) rfl (dR (b' := true) rfl (cB yN) rfl (dR (b' := true) rfl (cB yN) rfl (dR (b' := true) rfl (cB yN) rfl (dR (b' := true) rfl (cB yN) rfl (dR (b' := true) rfl (cB yN) rfl (aD (fB (b := true) (v := (.bool (true))) (cB yN) rfl) (uf (au ?_))))))))))))))
 exact bQ true ⟨h.cn _, hs⟩
 refine fw rfl (cB yN) (aD (ag mH rfl) (fw rfl (cB yN) (aD (aA h 13 rfl aU rfl rfl) (fw rfl (cB yN) (aD (aA h 7 rfl lY rfl rfl) (fw rfl (cB yN) (aD (aW rfl) (fw rfl (cB yN) (aD (ag gF rfl) (fw rfl (cB yN) (aD (aA h 1 rfl jU rfl rfl) (fw rfl (cB yN) (aD (ag fu rfl) (fw rfl (cB yN) (aD (aA h 496 rfl aU rfl rfl) (fw rfl (cB yN) ?_))))))))))))))))
 obtain ⟨Bg, e120, hs⟩ := aK hs
 obtain ⟨u124, e125, h⟩ := h.l6 5 498 Bg rfl rfl (by decide) (aB e120).2 rfl
 obtain ⟨b122, q123, i121⟩ := h.qY 4 rfl eQ rfl (aB e120).1 (eu (aB e120).2 e125)
 refine aD (i121 _ _ _ _ _ _ _ _ _ rfl rfl) (fw rfl (cB yN) ?_)
 obtain ⟨cs126, m127, r128⟩ := h.uF 4 rfl q123 (eu (aB e120).2 e125)
 obtain ⟨rfl, -⟩ := r128
 refine aD (kH (k := 0) m127 j3 rfl rfl) (fw rfl (cB yN) (aD (bW aZ rfl (h.eG 498 rfl)) (fw rfl (cB yN) (aD (qV rfl rfl) (aD (fB (b := false) (v := (.bool (decide (((Bg.length : Int) : Int) ≤ x25.c)))) (cB yN) rfl) (uf ?_))))))
 replace h := h.ed 5 498 rfl rfl (by decide) (aB e120).2 e125 rfl
 refine au ?_
 exact bQ (decide (((Bg.length : Int) : Int) ≤ x25.c)) ⟨h.cn _, hs⟩
 refine nG (aa (bz rfl rfl) (aa (ae (v := (.bool (decide ((x25.op : Int) = 6)))) rfl) (nN (aI hs rfl (fun c129 hs => ?_) (fun c129 hs => ?_)))))
 refine nG (aa (ah (v := (.func (.func 93) #[] #[(.pointer (some ⟨Gx, 0, none⟩)), (.pointer (some ⟨b1, 0, none⟩))])) rfl) (aa (ah (v := u38) rfl) (aa (ag jb rfl) (aa (aA h 13 rfl aU rfl rfl) ?_))))
 obtain ⟨BH, Ql, hs⟩ := aK hs
 obtain ⟨b133, q134, i132⟩ := h.qY 14 rfl aZ rfl (aB Ql).1 (aB Ql).2
 refine aa (i132 _ _ _ _ _ _ _ _ _ rfl rfl) ?_
 obtain ⟨cs135, m136, r137⟩ := h.uF 14 rfl q134 (aB Ql).2
 obtain rfl := r137
 refine aa (kg (k := 0) (vs := [(I6 BH.kind), (I6 BH.n)]) m136 aY rfl rfl rfl (bF rfl)) (lh (args := [(.agg #[(I6 BH.kind), (I6 BH.n)]), (.pointer (some ⟨Gx, 0, none⟩)), (.pointer (some ⟨b1, 0, none⟩))]) Y0 rfl rfl (aQ (args := [(.agg #[(I6 BH.kind), (I6 BH.n)]), (.pointer (some ⟨Gx, 0, none⟩)), (.pointer (some ⟨b1, 0, none⟩))]) Tryz.func93 rfl Tryz.ntmps93 (bF rfl) (nG (mD (cs := [(I6 BH.kind), (I6 BH.n)]) h 499 rfl rfl fun w b138 h => aa (ae (v := (.slice none 0 0)) rfl) (nN (aM (bX (σ := Bool) (inl (rg 5 17)) (fun Xm => [(21, (.bool (Xm)))]) (fun Xm w => SH w0 M K0 w (hset [(1, .blk sb [gT, vs1, (I6 sx.status), (I6 sx.aL)]), (2, .own bg.raw 49 gT (List.zip fH iH)), (3, .ik (dS bC 51 (hat (((sx.frames.length : Int) - 1)).toNat) iH (List.map bg.sub fH))), (4, .own (dZ Val).raw 47 vs1 (List.zip sx.cells ig)), (5, .ik (dS bC 51 hn ig (List.map (dZ Val).sub sx.cells))), (7, .blk b1 [(.pointer (some ⟨sb, 0, none⟩))]), (12, .rd eP u32 x25.args), (13, .blk Gx [(I6 x25.op), (I6 x25.a), (I6 x25.b), (I6 x25.c), u32]), (14, .own bC 51 u38 iU.regs), (499, .blk b138 [(I6 BH.kind), (I6 BH.n)])]) ∧ nk fH sx BH iU x25 Xm = some r) ?_ ?_)))))))
 rintro Xm w dO ⟨h, hs⟩
 refine aI hs rfl (fun c140 hs => ?_) (fun c140 hs => ?_)
 refine nG (aa (ae (v := (.slice none 0 0)) rfl) (nR (ay (dD (v := (.slice none 0 0)) Tryz.results93 rfl (⟨_, rfl, ?_⟩)))))
 refine aa (ae (v := (.slice none 0 0)) rfl) (nK (aa (ah (v := (.slice none 0 0)) rfl) (aa (QY aZ rfl rfl) (nN (SK rfl (nG (aa (ae (v := (.slice none 0 0)) rfl) (aa (ae (v := (.bool (false))) rfl) (aa (ae (v := (.bool (false))) rfl) (nR (ay (aF (ay (yB (v1 := (.slice none 0 0)) (v2 := (.bool (false))) (v3 := (.bool (false))) Tryz.results70 rfl rfl rfl ?_))))))))))))))
 replace h := h.ed 3 14 rfl rfl (by decide) (aB e37).2 e39 rfl
 replace h := h.pair 1 2 (by decide)
 replace h := h.pair 1 3 (by decide)
 replace h := h.pair 1 4 (by decide)
 replace h := h.pair 1 5 (by decide)
 obtain rfl := fP hs
 subst vZ
 obtain ⟨o1, o2, o3⟩ := h.kJ 1 (C := (cT sb gT vs1 (sx.status) (sx.aL) fH iH sx.cells ig)) rfl ⟨⟨⟨⟨trivial, trivial⟩, trivial⟩, trivial⟩, trivial⟩
 exact ⟨o2, .slice none 0 0, gT, vs1, iH, ig, rfl, o1, o3, gy.nil⟩
 refine aH (ak (aM (uI mixed (by kernel_rfl) h fun w h => aD (aA h 7 rfl lY rfl rfl) (aD (aW rfl) (aD (ag gF rfl) (aD (aA h 1 rfl jU rfl rfl) (aD (ag fu rfl) (aD (aA h 499 rfl aU rfl rfl) ?_))))))))
 obtain ⟨Un, aaA, hs⟩ := aK hs
 obtain ⟨aaB, e147, h⟩ := h.l6 5 500 Un rfl rfl (by decide) (aB aaA).2 rfl
 obtain ⟨b144, q145, i143⟩ := h.qY 4 rfl eQ rfl (aB aaA).1 (eu (aB aaA).2 e147)
 refine aD (i143 _ _ _ _ _ _ _ _ _ rfl rfl) ?_
 obtain ⟨cs148, m149, r150⟩ := h.uF 4 rfl q145 (eu (aB aaA).2 e147)
 obtain ⟨rfl, -⟩ := r150
 refine aD (kH (k := 0) m149 j3 rfl rfl) (aD (ae (v := aaB) rfl) (uf (ak (BR (dD (v := aaB) Tryz.results93 rfl (⟨_, rfl, ?_⟩))))))
 refine aa (ae (v := aaB) rfl) (nK (aa (ah (v := aaB) rfl) (aa (FC aZ rfl (h.eG 500 rfl) rfl) (nN ?_))))
 obtain ⟨a151, hs⟩ := bB hs
 refine gK rfl (fun c152 => absurd (xk (h.eG 500 rfl) c152).2 a151) (fun c152 => ?_)
 refine aH (ak (lg 9 mixed (by kernel_rfl) h fun w h => aD (ah (v := aaB) rfl) (aD (ag mH rfl) (aD (aA h 13 rfl aU rfl rfl) (aD (ah (v := u38) rfl) (aD (ag gp rfl) (aD (aA h 13 rfl aU rfl rfl) ?_)))))))
 obtain ⟨x153, e154, hs⟩ := aK hs
 obtain ⟨b156, q157, i155⟩ := h.qY 14 rfl aZ rfl (aB e154).1 (aB e154).2
 refine aD (i155 _ _ _ _ _ _ _ _ _ rfl rfl) ?_
 obtain ⟨cs158, m159, r160⟩ := h.uF 14 rfl q157 (aB e154).2
 obtain rfl := r160
 refine aD (kg (k := 0) (vs := [(I6 x153.kind), (I6 x153.n)]) m159 aY rfl rfl rfl (bF rfl)) ?_
 obtain ⟨x161, e162, hs⟩ := aK hs
 obtain ⟨b164, q165, i163⟩ := h.qY 500 rfl aZ rfl (aB e162).1 (aB e162).2
 refine aD (i163 _ _ _ _ _ _ _ _ _ rfl rfl) (uH (ry (a' := x153) (vs := [(I6 x153.kind), (I6 x153.n)]) h 500 rfl q165 rfl (aB e162).2 aY rfl rfl rfl rfl rfl fun w h k166 => az (ax (ak (nG (aa (ae (v := (.slice none 0 0)) rfl) (aa (ae (v := (.bool (false))) rfl) (aa (ae (v := (.bool (true))) rfl) (nR (yB (v1 := (.slice none 0 0)) (v2 := (.bool (false))) (v3 := (.bool (true))) Tryz.results70 rfl rfl rfl ?_))))))))))
 replace h := h.ed 3 14 rfl rfl (by decide) (aB e37).2 e39 rfl
 replace h := h.l5 4 5 500 (Un.set (x25.c).toNat x153) rfl rfl rfl (by decide) (by decide) (by decide) (aB aaA).2 e147 rfl
 replace h := h.pair 1 2 (by decide)
 replace h := h.pair 1 3 (by decide)
 replace h := h.pair 1 4 (by decide)
 replace h := h.pair 1 5 (by decide)
 obtain rfl := fP hs
 subst vZ
 obtain ⟨o1, o2, o3⟩ := h.kJ 1 (C := (cT sb gT vs1 (sx.status) (sx.aL) fH iH (sx.cells.set (BH.n).toNat (Un.set (x25.c).toNat x153)) ig)) rfl ⟨⟨⟨⟨trivial, trivial⟩, trivial⟩, trivial⟩, trivial⟩
 exact ⟨o2, .slice none 0 0, gT, vs1, iH, ig, rfl, o1, o3, gy.nil⟩
 refine uI mixed (by kernel_rfl) h fun w h => aD (ag mW rfl) (aD (aA h 499 rfl aU rfl rfl) (aD (iA rfl rfl) (aD (ah (v := (.bool (decide ((BH.kind : Int) ≠ 2)))) rfl) (kT (b := decide ((BH.kind : Int) ≠ 2)) hs (fun c167 hs => ?_) (fun c167 hs => ?_)))))
 refine dR (b' := true) rfl (cB c167) rfl (dR (b' := true) rfl (cB c167) rfl (dR (b' := true) rfl (cB c167) rfl (dR (b' := true) rfl (cB c167) rfl (dR (b' := true) rfl (cB c167) rfl (dR (b' := true) rfl (cB c167) rfl (dR (b' := true) rfl (cB c167) rfl (dR (b' := true) rfl (cB c167) rfl (dR (b' := true) rfl (cB c167) rfl (dR (b' := true) rfl (cB c167) rfl (dR (b' := true) rfl (cB c167) rfl (dR (b' := true) rfl (cB c167) rfl (aD (fB (b := true) (v := (.bool (true))) (cB c167) rfl) (uf (au ?_))))))))))))))
 exact bQ true ⟨h.cn _, hs⟩
 refine fw rfl (cB c167) (aD (ag mH rfl) (fw rfl (cB c167) (aD (aA h 13 rfl aU rfl rfl) (fw rfl (cB c167) (aD (aA h 7 rfl lY rfl rfl) (fw rfl (cB c167) (aD (aW rfl) (fw rfl (cB c167) (aD (ag gF rfl) (fw rfl (cB c167) (aD (aA h 1 rfl jU rfl rfl) (fw rfl (cB c167) (aD (ag fu rfl) (fw rfl (cB c167) (aD (aA h 499 rfl aU rfl rfl) (fw rfl (cB c167) ?_))))))))))))))))
 obtain ⟨x168, e169, hs⟩ := aK hs
 obtain ⟨u173, e174, h⟩ := h.l6 5 501 x168 rfl rfl (by decide) (aB e169).2 rfl
 obtain ⟨b171, q172, i170⟩ := h.qY 4 rfl eQ rfl (aB e169).1 (eu (aB e169).2 e174)
 refine aD (i170 _ _ _ _ _ _ _ _ _ rfl rfl) (fw rfl (cB c167) ?_)
 obtain ⟨cs175, m176, r177⟩ := h.uF 4 rfl q172 (eu (aB e169).2 e174)
 obtain ⟨rfl, -⟩ := r177
 refine aD (kH (k := 0) m176 j3 rfl rfl) (fw rfl (cB c167) (aD (bW aZ rfl (h.eG 501 rfl)) (fw rfl (cB c167) (aD (qV rfl rfl) (aD (fB (b := false) (v := (.bool (decide (((x168.length : Int) : Int) ≤ x25.c)))) (cB c167) rfl) (uf ?_))))))
 replace h := h.ed 5 501 rfl rfl (by decide) (aB e169).2 e174 rfl
 refine au ?_
 exact bQ (decide (((x168.length : Int) : Int) ≤ x25.c)) ⟨h.cn _, hs⟩
 refine nG (aa (bz rfl rfl) (aa (ae (v := (.bool (decide ((x25.op : Int) = 5)))) rfl) (nN (aI hs rfl (fun c178 hs => ?_) (fun c178 hs => ?_)))))
 refine bX (σ := Value × List Value × List LX.Frame × Value × List Value × List (List Val) × Int × Int) (inl (rg 161 12)) (fun ⟨Hf, Ej, Eb, v182, IX, zL, IQ, IU⟩ => []) (fun ⟨Hf, Ej, Eb, v182, IX, zL, IQ, IU⟩ w => SH w0 M K0 w (hset [(1, .blk sb [Hf, v182, (I6 IQ), (I6 IU)]), (7, .blk b1 [(.pointer (some ⟨sb, 0, none⟩))]), (12, .rd eP u32 x25.args), (13, .blk Gx [(I6 x25.op), (I6 x25.a), (I6 x25.b), (I6 x25.c), u32]), (502, .own bg.raw 49 Hf (List.zip Eb Ej)), (503, .ik (dS bC 51 hn Ej (List.map bg.sub Eb))), (504, .own (dZ Val).raw 47 v182 (List.zip zL IX)), (505, .ik (dS bC 51 hn IX (List.map (dZ Val).sub zL)))]) ∧ kQ x25 a Eb zL IQ IU = some r) ?_ ?_
 rintro ⟨Hf, Ej, Eb, v182, IX, zL, IQ, IU⟩ w dO ⟨h, hs⟩
 refine aM (nG (aa (aA h 7 rfl lY rfl rfl) (aa (aW rfl) (aa (ag gF rfl) (aa (aA h 1 rfl jU rfl rfl) (aa (mM (N := (dZ Val)) eQ rfl (h.eG 504 rfl) (h.fD 505 rfl)) (aa (bz rfl rfl) (nN (aI hs rfl (fun c187 hs => ?_) (fun c187 hs => ?_))))))))))
 refine nG (aa (ae (v := (.slice none 0 0)) rfl) (aa (ae (v := (.bool (false))) rfl) (aa (ae (v := (.bool (false))) rfl) (nR (ay (aF (ay (yB (v1 := (.slice none 0 0)) (v2 := (.bool (false))) (v3 := (.bool (false))) Tryz.results70 rfl rfl rfl ?_))))))))
 replace h := h.pair 1 502 (by decide)
 replace h := h.pair 1 503 (by decide)
 replace h := h.pair 1 504 (by decide)
 replace h := h.pair 1 505 (by decide)
 obtain rfl := fP hs
 subst vZ
 obtain ⟨o1, o2, o3⟩ := h.kJ 1 (C := (cT sb Hf v182 (IQ) (IU) Eb Ej zL IX)) rfl ⟨⟨⟨⟨trivial, trivial⟩, trivial⟩, trivial⟩, trivial⟩
 exact ⟨o2, .slice none 0 0, Hf, v182, Ej, IX, rfl, o1, o3, gy.nil⟩
 refine aH (ak (aM (lg 22 mixed (by kernel_rfl) h fun w h => aD (aA h 7 rfl lY rfl rfl) (aD (aW rfl) (aD (ag dQ rfl) (aD (aA h 1 rfl gD rfl rfl) (aD (aA h 7 rfl lY rfl rfl) (aD (aW rfl) (aD (ag dQ rfl) (aD (aA h 1 rfl gD rfl rfl) (aD (mM (N := bg) dx rfl (h.eG 502 rfl) (h.fD 503 rfl)) ?_)))))))))))
 obtain ⟨a188, hs⟩ := bB hs
 refine aD (mV rfl rfl a188) ?_
 obtain ⟨Fe, e190, hs⟩ := aK hs
 obtain ⟨u194, e195, h⟩ := h.l6 503 506 Fe.regs rfl rfl (by decide) (aB e190).2 rfl
 obtain ⟨b192, q193, i191⟩ := h.qY 502 rfl dx rfl (aB e190).1 (eu (aB e190).2 e195)
 refine aD (i191 _ _ _ _ _ _ _ _ _ rfl rfl) (aD (ag jZ rfl) ?_)
 obtain ⟨cs196, m197, r198⟩ := h.uF 502 rfl q193 (eu (aB e190).2 e195)
 obtain ⟨rfl, -⟩ := r198
 refine aD (kH (k := 2) m197 j3 rfl rfl) (aD (ag jb rfl) (aD (aA h 13 rfl aU rfl rfl) (aD (aA h 7 rfl lY rfl rfl) (aD (aW rfl) (aD (ag gF rfl) (aD (aA h 1 rfl jU rfl rfl) (aD (mM (N := (dZ Val)) eQ rfl (h.eG 504 rfl) (h.fD 505 rfl)) (aD (ek (pv := [(0, (I6 2)), (1, (I6 ((zL.length : Int))))]) (out := [(I6 2), (I6 ((zL.length : Int)))]) qE rfl ⟨0, 1, [(I6 2)], rfl, rfl, rfl, bF rfl, ⟨1, 1, [(I6 ((zL.length : Int)))], rfl, rfl, rfl, bF rfl, rfl⟩⟩) ?_))))))))
 obtain ⟨x199, e200, hs⟩ := aK hs
 obtain ⟨b202, q203, i201⟩ := h.qY 506 rfl aZ rfl (aB e200).1 (aB e200).2
 refine aD (i201 _ _ _ _ _ _ _ _ _ rfl rfl) (uH (ry (a' := (⟨2, (zL.length : Int)⟩ : Val)) (vs := [(I6 2), (I6 ((zL.length : Int)))]) h 506 rfl q203 rfl (aB e200).2 aY rfl rfl rfl rfl rfl fun w h k204 => nN (kI (L := (fun b => ob v182 b ∨ b = sb)) mixed h fun w h => bE 0 (aP.refl _ _) rfl aj (by kernel_rfl) (by kernel_rfl) (by kernel_rfl) (fun w hk => have h := h.wB 504 1 (by decide) rfl rfl hk; aA h 7 rfl lY rfl rfl) (bE 1 (aP.refl _ _) rfl aj (by kernel_rfl) (by kernel_rfl) (by kernel_rfl) (fun w hk => have h := h.wB 504 1 (by decide) rfl rfl hk; aA h 7 rfl lY rfl rfl) (bE 2 (aP.refl _ _) rfl aj (by kernel_rfl) (by kernel_rfl) (by kernel_rfl) (fun w hk => aW rfl) (bE 3 (aP.refl _ _) rfl aj (by kernel_rfl) (by kernel_rfl) (by kernel_rfl) (fun w hk => ag gF rfl) (bE 5 (aP.refl _ _) rfl aj (by kernel_rfl) (by kernel_rfl) (by kernel_rfl) (fun w hk => ag gp rfl) (bE 6 (aP.refl _ _) rfl aj (by kernel_rfl) (by kernel_rfl) (by kernel_rfl) (fun w hk => have h := h.wB 504 1 (by decide) rfl rfl hk; aA h 13 rfl aU rfl rfl) ?_))))))))
 obtain ⟨OU, hs⟩ := bB hs
 obtain ⟨AP, hs⟩ := bB hs
 obtain ⟨IY, aaC⟩ : ∃ x, x = w := ⟨_, rfl⟩
 have iY : aP (fun b => ob v182 b ∨ b = sb) IY w := aaC ▸ aP.refl (fun b => ob v182 b ∨ b = sb) w
 refine rf aaC.symm (nD 4 7 (by kernel_rfl) rfl aj rfl aj ?_ ?_)
 refine aa (aA h 1 rfl jU rfl rfl) (az (aR iY (bA 7 (by kernel_rfl) rfl aj (tX (R := bC) (zs := [(I6 0), (I6 0)]) (a := (⟨0, 0⟩ : Val)) h 591 kL aY rfl (by decide) rfl rfl OU rfl (fun _ _ => rfl) fun w j6 h Hg Hl => ?_))))
 have Uo : ∀ b, ob j6 b → IY.heap.size ≤ b := fun b hb => Nat.le_trans iY.size (Hl b hb)
 replace iY := iY.grow Hg
 refine az (aR iY (bA 8 (by kernel_rfl) rfl aj ?_))
 have uZ : (Value.oneCell' j6) = true := (h.dm 591 rfl).one
 refine xu (R := (dZ Val).raw) (vs := [j6]) (xs := List.zip [(List.replicate x25.b.toNat (⟨0, 0⟩ : Val))] [j6]) h 603 kK rfl rfl rfl ⟨⟨fM uZ, uZ⟩, trivial⟩ rfl fun w Dn h Bj Bl => ?_
 have MW : ∀ b, ob Dn b → IY.heap.size ≤ b := fun b hb => Nat.le_trans iY.size (Bl b hb)
 replace iY := iY.grow Bj
 replace h := h.pR (N := (dZ Val)) 591 (List.replicate x25.b.toNat (⟨0, 0⟩ : Val)) rfl rfl
 refine az (aR iY (bA 9 (by kernel_rfl) rfl aj ?_))
 have rQ := h.fD 505 rfl
 have vg := h.fD 591 rfl
 have MX := iY.size
 refine mF (R := (dZ Val).raw) (m := List.zip [(List.replicate x25.b.toNat (⟨0, 0⟩ : Val))] [j6]) h 504 rfl (h.eG 603 rfl) kK rfl rfl rfl (by rw [bS rQ, bS vg]; exact AP.1) (by rw [bS rQ, bS vg]; exact AP.2) fun w nu h Bn Bo => ?_
 have MZ : ∀ b, ob nu b → b < IY.heap.size → ob v182 b := fun b hb hl => Bo b hb (Nat.lt_of_lt_of_le hl (iY).size)
 replace iY := aP.step iY Bn (fun _ hx _ => .inl (hx))
 replace h := (h.pO 505 591 rfl rfl (by decide)).fA 603
 rw [pQ rQ, ← List.map_append] at h
 obtain ⟨vk, zM⟩ : ∃ z, z = IX ++ [j6] := ⟨_, rfl⟩
 rw [← zM] at h
 refine az (aR iY (dG 10 iY rfl (by kernel_rfl) (fun w hk => aW rfl) (dG 11 iY rfl (by kernel_rfl) (fun w hk => ag gF rfl) (bA 12 (by kernel_rfl) rfl aj (nP h 1 [Hf, nu, (I6 IQ), (I6 IU)] rfl jU rfl rfl rfl rfl (h.dm 504 rfl).one fun w h Bp => ?_)))))
 replace iY := aP.step iY Bp (fun _ hx _ => .inr (hx))
 refine az (aR iY (fK (by kernel_rfl) (ax (ak (nG (aa (ae (v := (.slice none 0 0)) rfl) (aa (ae (v := (.bool (false))) rfl) (aa (ae (v := (.bool (true))) rfl) (nR (yB (v1 := (.slice none 0 0)) (v2 := (.bool (false))) (v3 := (.bool (true))) Tryz.results70 rfl rfl rfl ?_))))))))))
 replace h := h.l5 502 503 506 ({ Fe with regs := (Fe.regs.set (x25.a).toNat (⟨2, (zL.length : Int)⟩ : Val)) }) rfl rfl rfl (by decide) (by decide) (by decide) (aB e190).2 e195 rfl
 replace h := h.pair 1 502 (by decide)
 replace h := h.pair 1 503 (by decide)
 replace h := h.pair 1 504 (by decide)
 replace h := h.pair 1 505 (by decide)
 obtain rfl := fP hs
 subst vZ
 obtain ⟨o1, o2, o3⟩ := h.kJ 1 (C := (cT sb Hf nu (IQ) (IU) (Eb.set (((Eb.length : Int) - 1)).toNat ({ Fe with regs := (Fe.regs.set (x25.a).toNat (⟨2, (zL.length : Int)⟩ : Val)) })) Ej (zL ++ [(List.replicate x25.b.toNat (⟨0, 0⟩ : Val))]) vk)) rfl ⟨⟨⟨⟨trivial, trivial⟩, trivial⟩, trivial⟩, trivial⟩
 exact ⟨o2, .slice none 0 0, Hf, nu, Ej, vk, rfl, o1, o3, gy.nil⟩
 refine tX (R := bC) (zs := [(I6 0), (I6 0)]) (a := (⟨0, 0⟩ : Val)) h 591 kL aY rfl (by decide) rfl rfl OU rfl (fun _ _ => rfl) fun w j6 h Hg Hl => ?_
 have Uo : ∀ b, ob j6 b → IY.heap.size ≤ b := fun b hb => Nat.le_trans iY.size (Hl b hb)
 replace iY := iY.grow Hg
 refine az (aR iY (nD 4 8 (by kernel_rfl) rfl aj rfl aj ?_ ?_))
 refine aa (aA h 1 rfl jU rfl rfl) (az (aR iY (bA 8 (by kernel_rfl) rfl aj ?_)))
 have uZ : (Value.oneCell' j6) = true := (h.dm 591 rfl).one
 refine xu (R := (dZ Val).raw) (vs := [j6]) (xs := List.zip [(List.replicate x25.b.toNat (⟨0, 0⟩ : Val))] [j6]) h 603 kK rfl rfl rfl ⟨⟨fM uZ, uZ⟩, trivial⟩ rfl fun w Dn h Bj Bl => ?_
 have MW : ∀ b, ob Dn b → IY.heap.size ≤ b := fun b hb => Nat.le_trans iY.size (Bl b hb)
 replace iY := iY.grow Bj
 replace h := h.pR (N := (dZ Val)) 591 (List.replicate x25.b.toNat (⟨0, 0⟩ : Val)) rfl rfl
 refine az (aR iY (bA 9 (by kernel_rfl) rfl aj ?_))
 have rQ := h.fD 505 rfl
 have vg := h.fD 591 rfl
 have MX := iY.size
 refine mF (R := (dZ Val).raw) (m := List.zip [(List.replicate x25.b.toNat (⟨0, 0⟩ : Val))] [j6]) h 504 rfl (h.eG 603 rfl) kK rfl rfl rfl (by rw [bS rQ, bS vg]; exact AP.1) (by rw [bS rQ, bS vg]; exact AP.2) fun w nu h Bn Bo => ?_
 have MZ : ∀ b, ob nu b → b < IY.heap.size → ob v182 b := fun b hb hl => Bo b hb (Nat.lt_of_lt_of_le hl (iY).size)
 replace iY := aP.step iY Bn (fun _ hx _ => .inl (hx))
 replace h := (h.pO 505 591 rfl rfl (by decide)).fA 603
 rw [pQ rQ, ← List.map_append] at h
 obtain ⟨vk, zM⟩ : ∃ z, z = IX ++ [j6] := ⟨_, rfl⟩
 rw [← zM] at h
 refine az (aR iY (dG 10 iY rfl (by kernel_rfl) (fun w hk => aW rfl) (dG 11 iY rfl (by kernel_rfl) (fun w hk => ag gF rfl) (bA 12 (by kernel_rfl) rfl aj (nP h 1 [Hf, nu, (I6 IQ), (I6 IU)] rfl jU rfl rfl rfl rfl (h.dm 504 rfl).one fun w h Bp => ?_)))))
 replace iY := aP.step iY Bp (fun _ hx _ => .inr (hx))
 refine az (aR iY (fK (by kernel_rfl) (ax (ak (nG (aa (ae (v := (.slice none 0 0)) rfl) (aa (ae (v := (.bool (false))) rfl) (aa (ae (v := (.bool (true))) rfl) (nR (yB (v1 := (.slice none 0 0)) (v2 := (.bool (false))) (v3 := (.bool (true))) Tryz.results70 rfl rfl rfl ?_))))))))))
 replace h := h.l5 502 503 506 ({ Fe with regs := (Fe.regs.set (x25.a).toNat (⟨2, (zL.length : Int)⟩ : Val)) }) rfl rfl rfl (by decide) (by decide) (by decide) (aB e190).2 e195 rfl
 replace h := h.pair 1 502 (by decide)
 replace h := h.pair 1 503 (by decide)
 replace h := h.pair 1 504 (by decide)
 replace h := h.pair 1 505 (by decide)
 obtain rfl := fP hs
 subst vZ
 obtain ⟨o1, o2, o3⟩ := h.kJ 1 (C := (cT sb Hf nu (IQ) (IU) (Eb.set (((Eb.length : Int) - 1)).toNat ({ Fe with regs := (Fe.regs.set (x25.a).toNat (⟨2, (zL.length : Int)⟩ : Val)) })) Ej (zL ++ [(List.replicate x25.b.toNat (⟨0, 0⟩ : Val))]) vk)) rfl ⟨⟨⟨⟨trivial, trivial⟩, trivial⟩, trivial⟩, trivial⟩
 exact ⟨o2, .slice none 0 0, Hf, nu, Ej, vk, rfl, o1, o3, gy.nil⟩
 have uZ : (Value.oneCell' j6) = true := (h.dm 591 rfl).one
 refine xu (R := (dZ Val).raw) (vs := [j6]) (xs := List.zip [(List.replicate x25.b.toNat (⟨0, 0⟩ : Val))] [j6]) h 603 kK rfl rfl rfl ⟨⟨fM uZ, uZ⟩, trivial⟩ rfl fun w Dn h Bj Bl => ?_
 have MW : ∀ b, ob Dn b → IY.heap.size ≤ b := fun b hb => Nat.le_trans iY.size (Bl b hb)
 replace iY := iY.grow Bj
 replace h := h.pR (N := (dZ Val)) 591 (List.replicate x25.b.toNat (⟨0, 0⟩ : Val)) rfl rfl
 refine az (aR iY (bA 4 (by kernel_rfl) rfl aj (aa (aA h 1 rfl jU rfl rfl) (az (aR iY (bA 9 (by kernel_rfl) rfl aj ?_))))))
 have rQ := h.fD 505 rfl
 have vg := h.fD 591 rfl
 have MX := iY.size
 refine mF (R := (dZ Val).raw) (m := List.zip [(List.replicate x25.b.toNat (⟨0, 0⟩ : Val))] [j6]) h 504 rfl (h.eG 603 rfl) kK rfl rfl rfl (by rw [bS rQ, bS vg]; exact AP.1) (by rw [bS rQ, bS vg]; exact AP.2) fun w nu h Bn Bo => ?_
 have MZ : ∀ b, ob nu b → b < IY.heap.size → ob v182 b := fun b hb hl => Bo b hb (Nat.lt_of_lt_of_le hl (iY).size)
 replace iY := aP.step iY Bn (fun _ hx _ => .inl (hx))
 replace h := (h.pO 505 591 rfl rfl (by decide)).fA 603
 rw [pQ rQ, ← List.map_append] at h
 obtain ⟨vk, zM⟩ : ∃ z, z = IX ++ [j6] := ⟨_, rfl⟩
 rw [← zM] at h
 refine az (aR iY (dG 10 iY rfl (by kernel_rfl) (fun w hk => aW rfl) (dG 11 iY rfl (by kernel_rfl) (fun w hk => ag gF rfl) (bA 12 (by kernel_rfl) rfl aj (nP h 1 [Hf, nu, (I6 IQ), (I6 IU)] rfl jU rfl rfl rfl rfl (h.dm 504 rfl).one fun w h Bp => ?_)))))
 replace iY := aP.step iY Bp (fun _ hx _ => .inr (hx))
 refine az (aR iY (fK (by kernel_rfl) (ax (ak (nG (aa (ae (v := (.slice none 0 0)) rfl) (aa (ae (v := (.bool (false))) rfl) (aa (ae (v := (.bool (true))) rfl) (nR (yB (v1 := (.slice none 0 0)) (v2 := (.bool (false))) (v3 := (.bool (true))) Tryz.results70 rfl rfl rfl ?_))))))))))
 replace h := h.l5 502 503 506 ({ Fe with regs := (Fe.regs.set (x25.a).toNat (⟨2, (zL.length : Int)⟩ : Val)) }) rfl rfl rfl (by decide) (by decide) (by decide) (aB e190).2 e195 rfl
 replace h := h.pair 1 502 (by decide)
 replace h := h.pair 1 503 (by decide)
 replace h := h.pair 1 504 (by decide)
 replace h := h.pair 1 505 (by decide)
 obtain rfl := fP hs
 subst vZ
 obtain ⟨o1, o2, o3⟩ := h.kJ 1 (C := (cT sb Hf nu (IQ) (IU) (Eb.set (((Eb.length : Int) - 1)).toNat ({ Fe with regs := (Fe.regs.set (x25.a).toNat (⟨2, (zL.length : Int)⟩ : Val)) })) Ej (zL ++ [(List.replicate x25.b.toNat (⟨0, 0⟩ : Val))]) vk)) rfl ⟨⟨⟨⟨trivial, trivial⟩, trivial⟩, trivial⟩, trivial⟩
 exact ⟨o2, .slice none 0 0, Hf, nu, Ej, vk, rfl, o1, o3, gy.nil⟩
 refine nG (aa (aA h 7 rfl lY rfl rfl) (aa (aW rfl) (aa (ag gF rfl) (aa (aA h 1 rfl jU rfl rfl) (aa (mM (N := (dZ Val)) eQ rfl (h.eG 4 rfl) (h.fD 5 rfl)) (aa (bz rfl rfl) (nN (aI hs rfl (fun c215 hs => ?_) (fun c215 hs => ?_)))))))))
 refine kI (L := (fun x => x = sb)) mixed h fun w h => bE 0 (aP.refl _ _) rfl aj (by kernel_rfl) (by kernel_rfl) (by kernel_rfl) (fun w hk => have h := h.qB 1 rfl hk; aA h 7 rfl lY rfl rfl) (bE 1 (aP.refl _ _) rfl aj (by kernel_rfl) (by kernel_rfl) (by kernel_rfl) (fun w hk => have h := h.qB 1 rfl hk; aA h 7 rfl lY rfl rfl) (bE 2 (aP.refl _ _) rfl aj (by kernel_rfl) (by kernel_rfl) (by kernel_rfl) (fun w hk => aW rfl) ?_))
 obtain ⟨ws221, aaD⟩ : ∃ x, x = w := ⟨_, rfl⟩
 have KN : aP (fun x => x = sb) ws221 w := aaD ▸ aP.refl (fun x => x = sb) w
 refine rf aaD.symm (bA 3 (by kernel_rfl) rfl aj (aa (dK (vs := [gT, vs1, (I6 sx.status), (I6 sx.aL)]) h 1 rfl bM rfl rfl rfl) (az (aR KN (bA 4 (by kernel_rfl) rfl aj ?_)))))
 replace h := h.ed 3 14 rfl rfl (by decide) (aB e37).2 e39 rfl
 obtain ⟨mq, Xt, hs⟩ := aK hs
 refine aX fnOk31 rfl rfl (Gc N _ BE (fun _ h => h.elim) (⟨fH, sx.cells, sx.status, sx.aL⟩ : LX.State) gT vs1 (h.EJ (N := bg) (R' := fC) 2 3 rfl rfl (by decide) rfl tV) (h.EJ (N := (dZ Val)) (R' := (rU bC)) 4 5 rfl rfl (by decide) rfl yT) _ Xt) ?_
 rintro _ w ⟨OV, FY, FZ, M0, M3, rfl, Xu, Xv⟩
 refine ⟨_, rfl, ?_⟩
 replace h := h.U8 723 (C := (cU FY FZ mq.frames M0 mq.cells M3)) OV ⟨⟨⟨trivial, trivial⟩, trivial⟩, trivial⟩ ⟨⟨⟨(fun _ _ _ _ _ h => h), (wN (fun _ _ _ _ _ h => h))⟩, (fun _ _ _ _ _ h => h)⟩, (wN (fun _ _ _ _ _ h => h))⟩ Xu Xv
 replace h := h.bY 723 726 (by decide) rfl rfl
 replace h := h.bY 723 725 (by decide) rfl rfl
 replace h := h.bY 723 724 (by decide) rfl rfl
 replace KN := KN.grow OV
 refine az (aR KN (dG 5 KN rfl (by kernel_rfl) (fun w hk => aW rfl) (bA 6 (by kernel_rfl) rfl aj (vO (vs := [FY, FZ, (I6 mq.status), (I6 mq.aL)]) h 1 [FY, FZ, (I6 mq.status), (I6 mq.aL)] rfl bM rfl rfl rfl rfl rfl (ai (h.dm 723 rfl).one (ai (h.dm 725 rfl).one (ai rfl (ai rfl aS)))) fun w h Xw => ?_))))
 replace KN := KN.same Xw
 refine az (aR KN (fK (by kernel_rfl) (au ?_)))
 replace h := (h.fA 502).moveC 723 502 rfl rfl (by decide)
 replace h := (h.fA 503).moveC 724 503 rfl rfl (by decide)
 replace h := (h.fA 504).moveC 725 504 rfl rfl (by decide)
 replace h := (h.fA 505).moveC 726 505 rfl rfl (by decide)
 exact bQ (FY, M0, mq.frames, FZ, M3, mq.cells, mq.status, mq.aL) ⟨h.cn _, hs⟩
 refine aH ?_
 replace h := h.ed 3 14 rfl rfl (by decide) (aB e37).2 e39 rfl
 refine au ?_
 replace h := (h.fA 502).moveC 2 502 rfl rfl (by decide)
 replace h := (h.fA 503).moveC 3 503 rfl rfl (by decide)
 replace h := (h.fA 504).moveC 4 504 rfl rfl (by decide)
 replace h := (h.fA 505).moveC 5 505 rfl rfl (by decide)
 exact bQ (gT, iH, fH, vs1, ig, sx.cells, sx.status, sx.aL) ⟨h.cn _, hs⟩
 refine nG (aa (bz rfl rfl) (aa (ae (v := (.bool (decide ((x25.op : Int) = 7)))) rfl) (nN (aI hs rfl (fun c223 hs => ?_) (fun c223 hs => ?_)))))
 refine aM (nG (aa (aA h 7 rfl lY rfl rfl) (aa (aW rfl) (aa (ag dQ rfl) (aa (aA h 1 rfl gD rfl rfl) (aa (mM (N := bg) dx rfl (h.eG 2 rfl) (h.fD 3 rfl)) (aa (bz rfl rfl) (nN (aI hs rfl (fun c224 hs => ?_) (fun c224 hs => ?_))))))))))
 refine nG (aa (ae (v := (.slice none 0 0)) rfl) (aa (ae (v := (.bool (false))) rfl) (aa (ae (v := (.bool (false))) rfl) (nR (ay (aF (ay (yB (v1 := (.slice none 0 0)) (v2 := (.bool (false))) (v3 := (.bool (false))) Tryz.results70 rfl rfl rfl ?_))))))))
 replace h := h.ed 3 14 rfl rfl (by decide) (aB e37).2 e39 rfl
 replace h := h.pair 1 2 (by decide)
 replace h := h.pair 1 3 (by decide)
 replace h := h.pair 1 4 (by decide)
 replace h := h.pair 1 5 (by decide)
 obtain rfl := fP hs
 subst vZ
 obtain ⟨o1, o2, o3⟩ := h.kJ 1 (C := (cT sb gT vs1 (sx.status) (sx.aL) fH iH sx.cells ig)) rfl ⟨⟨⟨⟨trivial, trivial⟩, trivial⟩, trivial⟩, trivial⟩
 exact ⟨o2, .slice none 0 0, gT, vs1, iH, ig, rfl, o1, o3, gy.nil⟩
 refine aH (ak (aM (Dx mixed h fun w h => fT 0 (aP.refl BE _) rfl aj (by kernel_rfl) (by kernel_rfl) (by kernel_rfl) (fun w hk => ag gp rfl) (fT 1 (aP.refl BE _) rfl aj (by kernel_rfl) (by kernel_rfl) (by kernel_rfl) (fun w hk => have h := h.grow hk; aA h 13 rfl aU rfl rfl) (fT 2 (aP.refl BE _) rfl aj (by kernel_rfl) (by kernel_rfl) (by kernel_rfl) (fun w hk => ag jb rfl) (fT 3 (aP.refl BE _) rfl aj (by kernel_rfl) (by kernel_rfl) (by kernel_rfl) (fun w hk => have h := h.grow hk; aA h 13 rfl aU rfl rfl) (fT 4 (aP.refl BE _) rfl aj (by kernel_rfl) (by kernel_rfl) (by kernel_rfl) (fun w hk => ah (v := va) rfl) (fT 5 (aP.refl BE _) rfl aj (by kernel_rfl) (by kernel_rfl) (by kernel_rfl) (fun w hk => ag gp rfl) (fT 6 (aP.refl BE _) rfl aj (by kernel_rfl) (by kernel_rfl) (by kernel_rfl) (fun w hk => have h := h.grow hk; aA h 13 rfl aU rfl rfl) ?_)))))))))
 obtain ⟨AO, OW, hs⟩ := aK hs
 obtain ⟨bq225x7_4, oq225x7_5, csq225x7_6, h, Xx, Xy⟩ := h.Cm 6 855 rfl gU rfl (aB OW).1 (aB OW).2
 obtain ⟨uq225x7_8, rfl, Xz⟩ := jW Xx
 replace h := h.dA 856 Xz.up
 refine fT 7 (aP.refl BE _) rfl aj (by kernel_rfl) (by kernel_rfl) (by kernel_rfl) (fun w hk => Xy _ _ _ _ _ _ _ _ _ rfl rfl) (fT 8 (aP.refl BE _) rfl aj (by kernel_rfl) (by kernel_rfl) (by kernel_rfl) (fun w hk => ag wy rfl) (fT 9 (aP.refl BE _) rfl aj (by kernel_rfl) (by kernel_rfl) (by kernel_rfl) (fun w hk => have h := h.grow hk; fq (k := 1) h 855 rfl aU rfl rfl) ?_))
 obtain ⟨M4, hs⟩ := bB hs
 obtain ⟨RY, aaE⟩ : ∃ x, x = w := ⟨_, rfl⟩
 have uy : Grow RY w := aaE ▸ aP.refl BE w
 refine LA aaE.symm (Pq 10 12 (by kernel_rfl) rfl aj rfl aj ?_ ?_)
 refine tX (R := bC) (zs := [(I6 0), (I6 0)]) (a := (⟨0, 0⟩ : Val)) h 891 kL aY rfl (by decide) rfl rfl M4 rfl (fun _ _ => rfl) fun w dN h Ff Fg => ?_
 have RZ : ∀ b, ob dN b → RY.heap.size ≤ b := fun b hb => Nat.le_trans uy.size (Fg b hb)
 replace uy := uy.trans Ff
 refine az (kz uy (uK 11 uy rfl (by kernel_rfl) (fun w hk => ek (pv := [(0, (I6 x25.b)), (3, (I6 x25.a)), (2, dN)]) (out := [(I6 x25.b), (I6 0), dN, (I6 x25.a)]) CB rfl ⟨0, 1, [(I6 x25.b)], rfl, rfl, rfl, bF rfl, ⟨3, 1, [(I6 x25.a)], rfl, rfl, rfl, bF rfl, ⟨2, 1, [dN], rfl, (fM (h.dm 891 rfl).one), rfl, bF rfl, rfl⟩⟩⟩) (su 12 (by kernel_rfl) rfl aj (wL h 915 il fun w Bq h Fh Fj => ?_))))
 have Fp : RY.heap.size ≤ Bq := Nat.le_trans uy.size Fj
 replace uy := uy.trans Fh
 refine az (kz uy (su 13 (by kernel_rfl) rfl aj (vO (vs := [(I6 x25.b), (I6 0), dN, (I6 x25.a)]) h 915 [(I6 x25.b), (I6 0), dN, (I6 x25.a)] rfl il rfl rfl rfl rfl rfl (ai rfl (ai rfl (ai (h.dm 891 rfl).one (ai rfl aS)))) fun w h Hm => ?_)))
 replace uy := uy.fresh Hm (fun x hx => hx ▸ Fp)
 refine az (kz uy (yS (by kernel_rfl) (ak (aM (nG (aa (ag qZ rfl) (aa (aA h 13 rfl qD rfl rfl) (aa (bW bV rfl (h.ny 12 rfl)) (aa (ah (v := (I6 0)) rfl) (nN (aO (gu (σ := Nat × Int × List Val) (inl ([17, 18] ++ rg 236 14)) (fun ⟨R3, i233, Di⟩ => [(236, (I6 i233))]) (fun ⟨R3, i233, Di⟩ w => SH w0 M K0 w (hset [(1, .blk sb [gT, vs1, (I6 sx.status), (I6 sx.aL)]), (2, .own bg.raw 49 gT (List.zip fH iH)), (3, .ik (dS bC 51 (hat (((sx.frames.length : Int) - 1)).toNat) iH (List.map bg.sub fH))), (4, .own (dZ Val).raw 47 vs1 (List.zip sx.cells ig)), (5, .ik (dS bC 51 hn ig (List.map (dZ Val).sub sx.cells))), (7, .blk b1 [(.pointer (some ⟨sb, 0, none⟩))]), (12, .rd eP u32 x25.args), (14, .own bC 51 u38 iU.regs), (891, .own bC 51 dN Di), (915, .blk Bq [(I6 x25.b), (I6 0), dN, (I6 x25.a)])]) ∧ i233 = (R3 : Int) ∧ dW (jw iU) (jy fH x25 a sx) i233 (x25.args.drop R3) Di = some r) (fun ⟨R3, i233, Di⟩ => x25.args.length - R3) ⟨0, 0, (List.replicate AO.regs.toNat (⟨0, 0⟩ : Val))⟩ ⟨rfl, trivial⟩ ?_ ?_))))))))))))
 exact ⟨h.cn _, rfl, hs⟩
 rintro ⟨R3, i233, Di⟩ w dO ⟨h, hik, hs⟩
 refine nG ?_
 refine aa (eB rfl rfl) (nN ?_)
 refine aM (gK rfl (fun e237 => ?_) (fun e237 => ?_))
 refine aH (ak ?_)
 obtain ⟨x234, e238a, e238b⟩ := fU (hik ▸ e237)
 rw [e238b, ja] at hs
 generalize hnx236 : dW (jw iU) (jy fH x25 a sx) (i233 + 1) (x25.args.drop (R3 + 1)) = nx236 at hs
 have e238r := gm ((h.ny 12 rfl)).bT hik e237
 refine aM (aO (nG (aa (ah (v := (I6 i233)) rfl) ?_)))
 obtain ⟨b240, o241, cs242, h, r243, i239⟩ := h.Cm 12 951 rfl bV rfl (iI hik) (fZ hik e238a)
 obtain rfl := r243
 refine aa (i239 _ _ _ _ _ _ _ _ _ rfl rfl) (aa (fq (k := 0) h 951 rfl aU rfl rfl) (aa (ae (v := (I6 i233)) rfl) (aa (ae (v := (I6 x234)) rfl) (nN (lg 8 mixed (by kernel_rfl) h fun w h => aD (ag jZ rfl) (aD (aA h 915 rfl j3 rfl rfl) (aD (ah (v := (I6 i233)) rfl) (aD (ah (v := u38) rfl) (aD (ah (v := (I6 x234)) rfl) ?_)))))))))
 obtain ⟨RU, e245, hs⟩ := aK hs
 obtain ⟨b247, q248, i246⟩ := h.qY 14 rfl aZ rfl (aB e245).1 (aB e245).2
 refine aD (i246 _ _ _ _ _ _ _ _ _ rfl rfl) ?_
 obtain ⟨cs249, m250, r251⟩ := h.uF 14 rfl q248 (aB e245).2
 obtain rfl := r251
 refine aD (kg (k := 0) (vs := [(I6 RU.kind), (I6 RU.n)]) m250 aY rfl rfl rfl (bF rfl)) ?_
 obtain ⟨x252, e253, hs⟩ := aK hs
 obtain ⟨b255, q256, i254⟩ := h.qY 891 rfl aZ rfl (aB e253).1 (aB e253).2
 refine aD (i254 _ _ _ _ _ _ _ _ _ rfl rfl) (uH (ry (a' := RU) (vs := [(I6 RU.kind), (I6 RU.n)]) h 891 rfl q256 rfl (aB e253).2 aY rfl rfl rfl rfl rfl fun w h k257 => az (ax (ak (aC (aa (dP rfl rfl e238r) (aa (ah (v := (I6 ((i233 + 1)))) rfl) (az (au ?_)))))))))
 subst hnx236
 exact jB ⟨R3 + 1, i233 + 1, (Di.set (i233).toNat RU)⟩ ⟨h.cn _, by omega, hs⟩ (by have := p8 e237; dsimp only; omega)
 rw [fV (hik ▸ e237), mh] at hs
 refine iL (bI (bI (eH (ak (kI (L := (fun b => ob gT b ∨ b = sb)) mixed h fun w h => bE 0 (aP.refl _ _) rfl aj (by kernel_rfl) (by kernel_rfl) (by kernel_rfl) (fun w hk => have h := h.wB 2 1 (by decide) rfl rfl hk; aA h 7 rfl lY rfl rfl) (bE 1 (aP.refl _ _) rfl aj (by kernel_rfl) (by kernel_rfl) (by kernel_rfl) (fun w hk => have h := h.wB 2 1 (by decide) rfl rfl hk; aA h 7 rfl lY rfl rfl) (bE 2 (aP.refl _ _) rfl aj (by kernel_rfl) (by kernel_rfl) (by kernel_rfl) (fun w hk => aW rfl) (bE 3 (aP.refl _ _) rfl aj (by kernel_rfl) (by kernel_rfl) (by kernel_rfl) (fun w hk => ag dQ rfl) (bE 5 (aP.refl _ _) rfl aj (by kernel_rfl) (by kernel_rfl) (by kernel_rfl) (fun w hk => have h := h.wB 2 1 (by decide) rfl rfl hk; dK (vs := [(I6 x25.b), (I6 0), dN, (I6 x25.a)]) h 915 rfl il rfl rfl rfl) ?_)))))))))
 obtain ⟨F3, hs⟩ := bB hs
 obtain ⟨R4, aaF⟩ : ∃ x, x = w := ⟨_, rfl⟩
 have qa : aP (fun b => ob gT b ∨ b = sb) R4 w := aaF ▸ aP.refl (fun b => ob gT b ∨ b = sb) w
 refine rf aaF.symm (nD 4 6 (by kernel_rfl) rfl aj rfl aj ?_ ?_)
 refine aa (aA h 1 rfl gD rfl rfl) (az (aR qa (bA 6 (by kernel_rfl) rfl aj ?_)))
 have Ho : (Value.oneCell' dN) = true := (h.dm 891 rfl).one
 refine xu (R := bg.raw) (vs := [(.agg #[(I6 x25.b), (I6 0), dN, (I6 x25.a)])]) (xs := List.zip [(⟨x25.b, 0, Di, x25.a⟩ : LX.Frame)] [dN]) h 1024 jT rfl rfl rfl ⟨⟨rfl, Ho⟩, trivial⟩ rfl fun w Kj h Hq Hr => ?_
 have Uq : ∀ b, ob Kj b → R4.heap.size ≤ b := fun b hb => Nat.le_trans qa.size (Hr b hb)
 replace qa := qa.grow Hq
 replace h := h.pR (N := bg) 891 (⟨x25.b, 0, Di, x25.a⟩ : LX.Frame) rfl rfl
 refine az (aR qa (bA 7 (by kernel_rfl) rfl aj ?_))
 replace h := h.ed 3 14 rfl rfl (by decide) (aB e37).2 e39 rfl
 have yO := h.fD 3 rfl
 have Br := h.fD 891 rfl
 have Ur := qa.size
 refine mF (R := bg.raw) (m := List.zip [(⟨x25.b, 0, Di, x25.a⟩ : LX.Frame)] [dN]) h 2 rfl (h.eG 1024 rfl) jT rfl rfl rfl (by rw [bS yO, bS Br]; exact F3.1) (by rw [bS yO, bS Br]; exact F3.2) fun w vL h Ht Hu => ?_
 have Us : ∀ b, ob vL b → b < R4.heap.size → ob gT b := fun b hb hl => Hu b hb (Nat.lt_of_lt_of_le hl (qa).size)
 replace qa := aP.step qa Ht (fun _ hx _ => .inl (hx))
 replace h := (h.pO 3 891 rfl rfl (by decide)).fA 1024
 rw [pQ yO, ← List.map_append] at h
 obtain ⟨Bt, Fq⟩ : ∃ z, z = iH ++ [dN] := ⟨_, rfl⟩
 rw [← Fq] at h
 refine az (aR qa (dG 8 qa rfl (by kernel_rfl) (fun w hk => aW rfl) (dG 9 qa rfl (by kernel_rfl) (fun w hk => ag dQ rfl) (bA 10 (by kernel_rfl) rfl aj (nP h 1 [vL, vs1, (I6 sx.status), (I6 sx.aL)] rfl gD rfl rfl rfl rfl (h.dm 2 rfl).one fun w h Hw => ?_)))))
 replace qa := aP.step qa Hw (fun _ hx _ => .inr (hx))
 refine az (aR qa (fK (by kernel_rfl) (ax (ak (nG (aa (ae (v := (.slice none 0 0)) rfl) (aa (ae (v := (.bool (false))) rfl) (aa (ae (v := (.bool (true))) rfl) (nR (yB (v1 := (.slice none 0 0)) (v2 := (.bool (false))) (v3 := (.bool (true))) Tryz.results70 rfl rfl rfl ?_))))))))))
 replace h := h.pair 1 2 (by decide)
 replace h := h.pair 1 3 (by decide)
 replace h := h.pair 1 4 (by decide)
 replace h := h.pair 1 5 (by decide)
 obtain rfl := fP hs
 subst vZ
 obtain ⟨o1, o2, o3⟩ := h.kJ 1 (C := (cT sb vL vs1 (sx.status) (sx.aL) (fH ++ [(⟨x25.b, 0, Di, x25.a⟩ : LX.Frame)]) Bt sx.cells ig)) rfl ⟨⟨⟨⟨trivial, trivial⟩, trivial⟩, trivial⟩, trivial⟩
 exact ⟨o2, .slice none 0 0, vL, vs1, Bt, ig, rfl, o1, o3, gy.nil⟩
 have Ho : (Value.oneCell' dN) = true := (h.dm 891 rfl).one
 refine xu (R := bg.raw) (vs := [(.agg #[(I6 x25.b), (I6 0), dN, (I6 x25.a)])]) (xs := List.zip [(⟨x25.b, 0, Di, x25.a⟩ : LX.Frame)] [dN]) h 1024 jT rfl rfl rfl ⟨⟨rfl, Ho⟩, trivial⟩ rfl fun w Kj h Hq Hr => ?_
 have Uq : ∀ b, ob Kj b → R4.heap.size ≤ b := fun b hb => Nat.le_trans qa.size (Hr b hb)
 replace qa := qa.grow Hq
 replace h := h.pR (N := bg) 891 (⟨x25.b, 0, Di, x25.a⟩ : LX.Frame) rfl rfl
 refine az (aR qa (bA 4 (by kernel_rfl) rfl aj (aa (aA h 1 rfl gD rfl rfl) (az (aR qa (bA 7 (by kernel_rfl) rfl aj ?_))))))
 replace h := h.ed 3 14 rfl rfl (by decide) (aB e37).2 e39 rfl
 have yO := h.fD 3 rfl
 have Br := h.fD 891 rfl
 have Ur := qa.size
 refine mF (R := bg.raw) (m := List.zip [(⟨x25.b, 0, Di, x25.a⟩ : LX.Frame)] [dN]) h 2 rfl (h.eG 1024 rfl) jT rfl rfl rfl (by rw [bS yO, bS Br]; exact F3.1) (by rw [bS yO, bS Br]; exact F3.2) fun w vL h Ht Hu => ?_
 have Us : ∀ b, ob vL b → b < R4.heap.size → ob gT b := fun b hb hl => Hu b hb (Nat.lt_of_lt_of_le hl (qa).size)
 replace qa := aP.step qa Ht (fun _ hx _ => .inl (hx))
 replace h := (h.pO 3 891 rfl rfl (by decide)).fA 1024
 rw [pQ yO, ← List.map_append] at h
 obtain ⟨Bt, Fq⟩ : ∃ z, z = iH ++ [dN] := ⟨_, rfl⟩
 rw [← Fq] at h
 refine az (aR qa (dG 8 qa rfl (by kernel_rfl) (fun w hk => aW rfl) (dG 9 qa rfl (by kernel_rfl) (fun w hk => ag dQ rfl) (bA 10 (by kernel_rfl) rfl aj (nP h 1 [vL, vs1, (I6 sx.status), (I6 sx.aL)] rfl gD rfl rfl rfl rfl (h.dm 2 rfl).one fun w h Hw => ?_)))))
 replace qa := aP.step qa Hw (fun _ hx _ => .inr (hx))
 refine az (aR qa (fK (by kernel_rfl) (ax (ak (nG (aa (ae (v := (.slice none 0 0)) rfl) (aa (ae (v := (.bool (false))) rfl) (aa (ae (v := (.bool (true))) rfl) (nR (yB (v1 := (.slice none 0 0)) (v2 := (.bool (false))) (v3 := (.bool (true))) Tryz.results70 rfl rfl rfl ?_))))))))))
 replace h := h.pair 1 2 (by decide)
 replace h := h.pair 1 3 (by decide)
 replace h := h.pair 1 4 (by decide)
 replace h := h.pair 1 5 (by decide)
 obtain rfl := fP hs
 subst vZ
 obtain ⟨o1, o2, o3⟩ := h.kJ 1 (C := (cT sb vL vs1 (sx.status) (sx.aL) (fH ++ [(⟨x25.b, 0, Di, x25.a⟩ : LX.Frame)]) Bt sx.cells ig)) rfl ⟨⟨⟨⟨trivial, trivial⟩, trivial⟩, trivial⟩, trivial⟩
 exact ⟨o2, .slice none 0 0, vL, vs1, Bt, ig, rfl, o1, o3, gy.nil⟩
 refine wL h 915 il fun w Bq h Fh Fj => ?_
 have Fp : RY.heap.size ≤ Bq := Nat.le_trans uy.size Fj
 replace uy := uy.trans Fh
 refine az (kz uy (su 10 (by kernel_rfl) rfl aj (tX (R := bC) (zs := [(I6 0), (I6 0)]) (a := (⟨0, 0⟩ : Val)) h 891 kL aY rfl (by decide) rfl rfl M4 rfl (fun _ _ => rfl) fun w dN h Ff Fg => ?_)))
 have RZ : ∀ b, ob dN b → RY.heap.size ≤ b := fun b hb => Nat.le_trans uy.size (Fg b hb)
 replace uy := uy.trans Ff
 refine az (kz uy (uK 11 uy rfl (by kernel_rfl) (fun w hk => ek (pv := [(0, (I6 x25.b)), (3, (I6 x25.a)), (2, dN)]) (out := [(I6 x25.b), (I6 0), dN, (I6 x25.a)]) CB rfl ⟨0, 1, [(I6 x25.b)], rfl, rfl, rfl, bF rfl, ⟨3, 1, [(I6 x25.a)], rfl, rfl, rfl, bF rfl, ⟨2, 1, [dN], rfl, (fM (h.dm 891 rfl).one), rfl, bF rfl, rfl⟩⟩⟩) (su 13 (by kernel_rfl) rfl aj (vO (vs := [(I6 x25.b), (I6 0), dN, (I6 x25.a)]) h 915 [(I6 x25.b), (I6 0), dN, (I6 x25.a)] rfl il rfl rfl rfl rfl rfl (ai rfl (ai rfl (ai (h.dm 891 rfl).one (ai rfl aS)))) fun w h Hm => ?_))))
 replace uy := uy.fresh Hm (fun x hx => hx ▸ Fp)
 refine az (kz uy (yS (by kernel_rfl) (ak (aM (nG (aa (ag qZ rfl) (aa (aA h 13 rfl qD rfl rfl) (aa (bW bV rfl (h.ny 12 rfl)) (aa (ah (v := (I6 0)) rfl) (nN (aO (gu (σ := Nat × Int × List Val) (inl ([17, 18] ++ rg 236 14)) (fun ⟨R5, i273, Dj⟩ => [(236, (I6 i273))]) (fun ⟨R5, i273, Dj⟩ w => SH w0 M K0 w (hset [(1, .blk sb [gT, vs1, (I6 sx.status), (I6 sx.aL)]), (2, .own bg.raw 49 gT (List.zip fH iH)), (3, .ik (dS bC 51 (hat (((sx.frames.length : Int) - 1)).toNat) iH (List.map bg.sub fH))), (4, .own (dZ Val).raw 47 vs1 (List.zip sx.cells ig)), (5, .ik (dS bC 51 hn ig (List.map (dZ Val).sub sx.cells))), (7, .blk b1 [(.pointer (some ⟨sb, 0, none⟩))]), (12, .rd eP u32 x25.args), (14, .own bC 51 u38 iU.regs), (891, .own bC 51 dN Dj), (915, .blk Bq [(I6 x25.b), (I6 0), dN, (I6 x25.a)])]) ∧ i273 = (R5 : Int) ∧ dW (wZ iU) (w9 fH x25 a sx) i273 (x25.args.drop R5) Dj = some r) (fun ⟨R5, i273, Dj⟩ => x25.args.length - R5) ⟨0, 0, (List.replicate AO.regs.toNat (⟨0, 0⟩ : Val))⟩ ⟨rfl, trivial⟩ ?_ ?_))))))))))))
 exact ⟨h.cn _, rfl, hs⟩
 rintro ⟨R5, i273, Dj⟩ w dO ⟨h, hik, hs⟩
 refine nG ?_
 refine aa (eB rfl rfl) (nN ?_)
 refine aM (gK rfl (fun aaG => ?_) (fun aaG => ?_))
 refine aH (ak ?_)
 obtain ⟨x274, e278a, e278b⟩ := fU (hik ▸ aaG)
 rw [e278b, ja] at hs
 generalize hnx276 : dW (wZ iU) (w9 fH x25 a sx) (i273 + 1) (x25.args.drop (R5 + 1)) = nx276 at hs
 have e278r := gm ((h.ny 12 rfl)).bT hik aaG
 refine aM (aO (nG (aa (ah (v := (I6 i273)) rfl) ?_)))
 obtain ⟨b280, o281, cs282, h, r283, i279⟩ := h.Cm 12 1096 rfl bV rfl (iI hik) (fZ hik e278a)
 obtain rfl := r283
 refine aa (i279 _ _ _ _ _ _ _ _ _ rfl rfl) (aa (fq (k := 0) h 1096 rfl aU rfl rfl) (aa (ae (v := (I6 i273)) rfl) (aa (ae (v := (I6 x274)) rfl) (nN (lg 8 mixed (by kernel_rfl) h fun w h => aD (ag jZ rfl) (aD (aA h 915 rfl j3 rfl rfl) (aD (ah (v := (I6 i273)) rfl) (aD (ah (v := u38) rfl) (aD (ah (v := (I6 x274)) rfl) ?_)))))))))
 obtain ⟨RV, e285, hs⟩ := aK hs
 obtain ⟨b287, q288, i286⟩ := h.qY 14 rfl aZ rfl (aB e285).1 (aB e285).2
 refine aD (i286 _ _ _ _ _ _ _ _ _ rfl rfl) ?_
 obtain ⟨cs289, m290, r291⟩ := h.uF 14 rfl q288 (aB e285).2
 obtain rfl := r291
 refine aD (kg (k := 0) (vs := [(I6 RV.kind), (I6 RV.n)]) m290 aY rfl rfl rfl (bF rfl)) ?_
 obtain ⟨x292, e293, hs⟩ := aK hs
 obtain ⟨b295, q296, i294⟩ := h.qY 891 rfl aZ rfl (aB e293).1 (aB e293).2
 refine aD (i294 _ _ _ _ _ _ _ _ _ rfl rfl) (uH (ry (a' := RV) (vs := [(I6 RV.kind), (I6 RV.n)]) h 891 rfl q296 rfl (aB e293).2 aY rfl rfl rfl rfl rfl fun w h k297 => az (ax (ak (aC (aa (dP rfl rfl e278r) (aa (ah (v := (I6 ((i273 + 1)))) rfl) (az (au ?_)))))))))
 subst hnx276
 exact jB ⟨R5 + 1, i273 + 1, (Dj.set (i273).toNat RV)⟩ ⟨h.cn _, by omega, hs⟩ (by have := p8 aaG; dsimp only; omega)
 rw [fV (hik ▸ aaG), mh] at hs
 refine iL (bI (bI (eH (ak (kI (L := (fun b => ob gT b ∨ b = sb)) mixed h fun w h => bE 0 (aP.refl _ _) rfl aj (by kernel_rfl) (by kernel_rfl) (by kernel_rfl) (fun w hk => have h := h.wB 2 1 (by decide) rfl rfl hk; aA h 7 rfl lY rfl rfl) (bE 1 (aP.refl _ _) rfl aj (by kernel_rfl) (by kernel_rfl) (by kernel_rfl) (fun w hk => have h := h.wB 2 1 (by decide) rfl rfl hk; aA h 7 rfl lY rfl rfl) (bE 2 (aP.refl _ _) rfl aj (by kernel_rfl) (by kernel_rfl) (by kernel_rfl) (fun w hk => aW rfl) (bE 3 (aP.refl _ _) rfl aj (by kernel_rfl) (by kernel_rfl) (by kernel_rfl) (fun w hk => ag dQ rfl) (bE 5 (aP.refl _ _) rfl aj (by kernel_rfl) (by kernel_rfl) (by kernel_rfl) (fun w hk => have h := h.wB 2 1 (by decide) rfl rfl hk; dK (vs := [(I6 x25.b), (I6 0), dN, (I6 x25.a)]) h 915 rfl il rfl rfl rfl) ?_)))))))))
 obtain ⟨F4, hs⟩ := bB hs
 obtain ⟨R6, aaH⟩ : ∃ x, x = w := ⟨_, rfl⟩
 have qb : aP (fun b => ob gT b ∨ b = sb) R6 w := aaH ▸ aP.refl (fun b => ob gT b ∨ b = sb) w
 refine rf aaH.symm (nD 4 6 (by kernel_rfl) rfl aj rfl aj ?_ ?_)
 refine aa (aA h 1 rfl gD rfl rfl) (az (aR qb (bA 6 (by kernel_rfl) rfl aj ?_)))
 have Hy : (Value.oneCell' dN) = true := (h.dm 891 rfl).one
 refine xu (R := bg.raw) (vs := [(.agg #[(I6 x25.b), (I6 0), dN, (I6 x25.a)])]) (xs := List.zip [(⟨x25.b, 0, Dj, x25.a⟩ : LX.Frame)] [dN]) h 1169 jT rfl rfl rfl ⟨⟨rfl, Hy⟩, trivial⟩ rfl fun w Kk h Hz HV => ?_
 have Ut : ∀ b, ob Kk b → R6.heap.size ≤ b := fun b hb => Nat.le_trans qb.size (HV b hb)
 replace qb := qb.grow Hz
 replace h := h.pR (N := bg) 891 (⟨x25.b, 0, Dj, x25.a⟩ : LX.Frame) rfl rfl
 refine az (aR qb (bA 7 (by kernel_rfl) rfl aj ?_))
 replace h := h.ed 3 14 rfl rfl (by decide) (aB e37).2 e39 rfl
 have yP := h.fD 3 rfl
 have Bu := h.fD 891 rfl
 have Uu := qb.size
 refine mF (R := bg.raw) (m := List.zip [(⟨x25.b, 0, Dj, x25.a⟩ : LX.Frame)] [dN]) h 2 rfl (h.eG 1169 rfl) jT rfl rfl rfl (by rw [bS yP, bS Bu]; exact F4.1) (by rw [bS yP, bS Bu]; exact F4.2) fun w vM h HY HZ => ?_
 have Uv : ∀ b, ob vM b → b < R6.heap.size → ob gT b := fun b hb hl => HZ b hb (Nat.lt_of_lt_of_le hl (qb).size)
 replace qb := aP.step qb HY (fun _ hx _ => .inl (hx))
 replace h := (h.pO 3 891 rfl rfl (by decide)).fA 1169
 rw [pQ yP, ← List.map_append] at h
 obtain ⟨Bv, Fs⟩ : ∃ z, z = iH ++ [dN] := ⟨_, rfl⟩
 rw [← Fs] at h
 refine az (aR qb (dG 8 qb rfl (by kernel_rfl) (fun w hk => aW rfl) (dG 9 qb rfl (by kernel_rfl) (fun w hk => ag dQ rfl) (bA 10 (by kernel_rfl) rfl aj (nP h 1 [vM, vs1, (I6 sx.status), (I6 sx.aL)] rfl gD rfl rfl rfl rfl (h.dm 2 rfl).one fun w h H5 => ?_)))))
 replace qb := aP.step qb H5 (fun _ hx _ => .inr (hx))
 refine az (aR qb (fK (by kernel_rfl) (ax (ak (nG (aa (ae (v := (.slice none 0 0)) rfl) (aa (ae (v := (.bool (false))) rfl) (aa (ae (v := (.bool (true))) rfl) (nR (yB (v1 := (.slice none 0 0)) (v2 := (.bool (false))) (v3 := (.bool (true))) Tryz.results70 rfl rfl rfl ?_))))))))))
 replace h := h.pair 1 2 (by decide)
 replace h := h.pair 1 3 (by decide)
 replace h := h.pair 1 4 (by decide)
 replace h := h.pair 1 5 (by decide)
 obtain rfl := fP hs
 subst vZ
 obtain ⟨o1, o2, o3⟩ := h.kJ 1 (C := (cT sb vM vs1 (sx.status) (sx.aL) (fH ++ [(⟨x25.b, 0, Dj, x25.a⟩ : LX.Frame)]) Bv sx.cells ig)) rfl ⟨⟨⟨⟨trivial, trivial⟩, trivial⟩, trivial⟩, trivial⟩
 exact ⟨o2, .slice none 0 0, vM, vs1, Bv, ig, rfl, o1, o3, gy.nil⟩
 have Hy : (Value.oneCell' dN) = true := (h.dm 891 rfl).one
 refine xu (R := bg.raw) (vs := [(.agg #[(I6 x25.b), (I6 0), dN, (I6 x25.a)])]) (xs := List.zip [(⟨x25.b, 0, Dj, x25.a⟩ : LX.Frame)] [dN]) h 1169 jT rfl rfl rfl ⟨⟨rfl, Hy⟩, trivial⟩ rfl fun w Kk h Hz HV => ?_
 have Ut : ∀ b, ob Kk b → R6.heap.size ≤ b := fun b hb => Nat.le_trans qb.size (HV b hb)
 replace qb := qb.grow Hz
 replace h := h.pR (N := bg) 891 (⟨x25.b, 0, Dj, x25.a⟩ : LX.Frame) rfl rfl
 refine az (aR qb (bA 4 (by kernel_rfl) rfl aj (aa (aA h 1 rfl gD rfl rfl) (az (aR qb (bA 7 (by kernel_rfl) rfl aj ?_))))))
 replace h := h.ed 3 14 rfl rfl (by decide) (aB e37).2 e39 rfl
 have yP := h.fD 3 rfl
 have Bu := h.fD 891 rfl
 have Uu := qb.size
 refine mF (R := bg.raw) (m := List.zip [(⟨x25.b, 0, Dj, x25.a⟩ : LX.Frame)] [dN]) h 2 rfl (h.eG 1169 rfl) jT rfl rfl rfl (by rw [bS yP, bS Bu]; exact F4.1) (by rw [bS yP, bS Bu]; exact F4.2) fun w vM h HY HZ => ?_
 have Uv : ∀ b, ob vM b → b < R6.heap.size → ob gT b := fun b hb hl => HZ b hb (Nat.lt_of_lt_of_le hl (qb).size)
 replace qb := aP.step qb HY (fun _ hx _ => .inl (hx))
 replace h := (h.pO 3 891 rfl rfl (by decide)).fA 1169
 rw [pQ yP, ← List.map_append] at h
 obtain ⟨Bv, Fs⟩ : ∃ z, z = iH ++ [dN] := ⟨_, rfl⟩
 rw [← Fs] at h
 refine az (aR qb (dG 8 qb rfl (by kernel_rfl) (fun w hk => aW rfl) (dG 9 qb rfl (by kernel_rfl) (fun w hk => ag dQ rfl) (bA 10 (by kernel_rfl) rfl aj (nP h 1 [vM, vs1, (I6 sx.status), (I6 sx.aL)] rfl gD rfl rfl rfl rfl (h.dm 2 rfl).one fun w h H5 => ?_)))))
 replace qb := aP.step qb H5 (fun _ hx _ => .inr (hx))
 refine az (aR qb (fK (by kernel_rfl) (ax (ak (nG (aa (ae (v := (.slice none 0 0)) rfl) (aa (ae (v := (.bool (false))) rfl) (aa (ae (v := (.bool (true))) rfl) (nR (yB (v1 := (.slice none 0 0)) (v2 := (.bool (false))) (v3 := (.bool (true))) Tryz.results70 rfl rfl rfl ?_))))))))))
 replace h := h.pair 1 2 (by decide)
 replace h := h.pair 1 3 (by decide)
 replace h := h.pair 1 4 (by decide)
 replace h := h.pair 1 5 (by decide)
 obtain rfl := fP hs
 subst vZ
 obtain ⟨o1, o2, o3⟩ := h.kJ 1 (C := (cT sb vM vs1 (sx.status) (sx.aL) (fH ++ [(⟨x25.b, 0, Dj, x25.a⟩ : LX.Frame)]) Bv sx.cells ig)) rfl ⟨⟨⟨⟨trivial, trivial⟩, trivial⟩, trivial⟩, trivial⟩
 exact ⟨o2, .slice none 0 0, vM, vs1, Bv, ig, rfl, o1, o3, gy.nil⟩
 refine nG (aa (bz rfl rfl) (aa (ae (v := (.bool (decide ((x25.op : Int) = 8)))) rfl) (nN (aI hs rfl (fun c308 hs => ?_) (fun c308 hs => ?_)))))
 refine aM (Dx mixed h fun w h => fT 0 (aP.refl BE _) rfl aj (by kernel_rfl) (by kernel_rfl) (by kernel_rfl) (fun w hk => ah (v := u38) rfl) (fT 1 (aP.refl BE _) rfl aj (by kernel_rfl) (by kernel_rfl) (by kernel_rfl) (fun w hk => ag jb rfl) (fT 2 (aP.refl BE _) rfl aj (by kernel_rfl) (by kernel_rfl) (by kernel_rfl) (fun w hk => have h := h.grow hk; aA h 13 rfl aU rfl rfl) ?_)))
 obtain ⟨mr, Kl, hs⟩ := aK hs
 obtain ⟨bq309x3_4, XA, XB⟩ := h.qY 14 rfl aZ rfl (aB Kl).1 (aB Kl).2
 refine fT 3 (aP.refl BE _) rfl aj (by kernel_rfl) (by kernel_rfl) (by kernel_rfl) (fun w hk => XB _ _ _ _ _ _ _ _ _ rfl rfl) ?_
 obtain ⟨csq309x4_1, XC, XD⟩ := h.uF 14 rfl XA (aB Kl).2
 obtain rfl := XD
 refine fT 4 (aP.refl BE _) rfl aj (by kernel_rfl) (by kernel_rfl) (by kernel_rfl) (fun w hk => have h := h.grow hk; kg (k := 0) (vs := [(I6 mr.kind), (I6 mr.n)]) (XC.grow hk) aY rfl rfl rfl (bF rfl)) (fT 5 (aP.refl BE _) rfl aj (by kernel_rfl) (by kernel_rfl) (by kernel_rfl) (fun w hk => ah (v := (.pointer (some ⟨b6, (((sx.frames.length : Int) - 1)).toNat * 4, none⟩))) rfl) (fT 6 (aP.refl BE _) rfl aj (by kernel_rfl) (by kernel_rfl) (by kernel_rfl) (fun w hk => aW rfl) (fT 7 (aP.refl BE _) rfl aj (by kernel_rfl) (by kernel_rfl) (by kernel_rfl) (fun w hk => ag DF rfl) ?_)))
 obtain ⟨csq309x8_1, XE, XF⟩ := h.uF 2 rfl q7 (eu (aB e37).2 e39)
 obtain ⟨rfl, -⟩ := XF
 refine fT 8 (aP.refl BE _) rfl aj (by kernel_rfl) (by kernel_rfl) (by kernel_rfl) (fun w hk => have h := h.grow hk; kH (k := 3) (XE.grow hk) aU rfl rfl) ?_
 obtain ⟨ws310, aaI⟩ : ∃ x, x = w := ⟨_, rfl⟩
 have KO : Grow ws310 w := aaI ▸ aP.refl BE w
 refine LA aaI.symm (su 9 (by kernel_rfl) rfl aj (wL h 1349 aY fun w XG h Uw Ux => ?_))
 have Uy : ws310.heap.size ≤ XG := Nat.le_trans KO.size Ux
 replace KO := KO.trans Uw
 refine az (kz KO (su 10 (by kernel_rfl) rfl aj (vO (vs := [(I6 mr.kind), (I6 mr.n)]) h 1349 [(I6 mr.kind), (I6 mr.n)] rfl aY rfl rfl rfl rfl rfl (ai rfl (ai rfl aS)) fun w h Uz => ?_)))
 replace KO := KO.fresh Uz (fun x hx => hx ▸ Uy)
 refine az (kz KO (uK 11 KO rfl (by kernel_rfl) (fun w hk => ae (v := (I6 iU.lW)) rfl) (yS (by kernel_rfl) (ak (aM (lg 14 mixed (by kernel_rfl) h fun w h => aD (aA h 7 rfl lY rfl rfl) (aD (aA h 7 rfl lY rfl rfl) (aD (aW rfl) (aD (ag dQ rfl) (aD (aA h 1 rfl gD rfl rfl) (aD (aA h 7 rfl lY rfl rfl) (aD (aW rfl) (aD (ag dQ rfl) (aD (aA h 1 rfl gD rfl rfl) (aD (mM (N := bg) dx rfl (h.eG 2 rfl) (h.fD 3 rfl)) ?_)))))))))))))))
 obtain ⟨a312, hs⟩ := bB hs
 refine aD (mV rfl rfl a312) ?_
 obtain ⟨x313, e314, hs⟩ := aK hs
 obtain ⟨e317, e317a, e317b, e317c⟩ := UR e314
 replace h := h.ed 3 14 rfl rfl (by decide) (aB e37).2 e39 rfl
 have aaJ := h.fD 3 rfl
 obtain ⟨XH, h, i316⟩ := h.cutO 2 rfl dx rfl e317b (by rw [bS aaJ]; exact e317c)
 rw [Oh] at h
 rw [bS aaJ] at i316
 replace h := h.U5 3 (((fH.length : Int) - 1)).toNat rfl
 generalize List.take (((fH.length : Int) - 1)).toNat iH = Vu at h
 refine aD (i316 _ _ _ _ _ _ _ _ _ _ rfl (.inl ⟨rfl, rfl⟩) (.inr (congrArg some rfl))) (aD (aW rfl) (aD (ag dQ rfl) (uH (gq h 1 [XH, vs1, (I6 sx.status), (I6 sx.aL)] rfl gD rfl rfl rfl rfl (h.dm 2 rfl).one fun w h => nJ (aa (aA h 7 rfl lY rfl rfl) (aa (aW rfl) (aa (ag dQ rfl) (aa (aA h 1 rfl gD rfl rfl) (aa (mM (N := bg) dx rfl (h.eG 2 rfl) (h.fD 3 rfl)) (aa (ae (v := (I6 (((fH.take (((fH.length : Int) - 1)).toNat).length : Int)))) rfl) (nJ (aa (ah (v := (I6 (((fH.take (((fH.length : Int) - 1)).toNat).length : Int)))) rfl) (aa (bz rfl rfl) (nN (aI hs rfl (fun c319 hs => ?_) (fun c319 hs => ?_))))))))))))))))
 refine aC (aa (aA h 7 rfl lY rfl rfl) (aa (aW rfl) (aa (ag lq rfl) (gq h 1 [XH, vs1, (I6 1), (I6 sx.aL)] rfl aU rfl rfl rfl rfl rfl fun w h => az (ax (ak (nG (aa (ae (v := (.slice none 0 0)) rfl) (aa (ae (v := (.bool (false))) rfl) (aa (ae (v := (.bool (true))) rfl) (nR (yB (v1 := (.slice none 0 0)) (v2 := (.bool (false))) (v3 := (.bool (true))) Tryz.results70 rfl rfl rfl ?_))))))))))))
 replace h := h.pair 1 2 (by decide)
 replace h := h.pair 1 3 (by decide)
 replace h := h.pair 1 4 (by decide)
 replace h := h.pair 1 5 (by decide)
 obtain rfl := fP hs
 subst vZ
 obtain ⟨o1, o2, o3⟩ := h.kJ 1 (C := (cT sb XH vs1 (1) (sx.aL) (fH.take (((fH.length : Int) - 1)).toNat) Vu sx.cells ig)) rfl ⟨⟨⟨⟨trivial, trivial⟩, trivial⟩, trivial⟩, trivial⟩
 exact ⟨o2, .slice none 0 0, XH, vs1, Vu, ig, rfl, o1, o3, gy.nil⟩
 refine lg 12 mixed (by kernel_rfl) h fun w h => aD (aA h 7 rfl lY rfl rfl) (aD (aW rfl) (aD (ag dQ rfl) (aD (aA h 1 rfl gD rfl rfl) (aD (ah (v := (I6 (((fH.take (((fH.length : Int) - 1)).toNat).length : Int)))) rfl) ?_))))
 obtain ⟨a320, hs⟩ := bB hs
 refine aD (mV rfl rfl a320) ?_
 obtain ⟨Qs, aaK, hs⟩ := aK hs
 obtain ⟨u326, e327, h⟩ := h.l6 3 1398 Qs.regs rfl rfl (by decide) (aB aaK).2 rfl
 obtain ⟨b324, q325, i323⟩ := h.qY 2 rfl dx rfl (aB aaK).1 (eu (aB aaK).2 e327)
 refine aD (i323 _ _ _ _ _ _ _ _ _ rfl rfl) (aD (ag jZ rfl) ?_)
 obtain ⟨cs328, m329, r330⟩ := h.uF 2 rfl q325 (eu (aB aaK).2 e327)
 obtain ⟨rfl, -⟩ := r330
 refine aD (kH (k := 2) m329 j3 rfl rfl) (aD (ah (v := (I6 iU.lW)) rfl) (aD (dK (vs := [(I6 mr.kind), (I6 mr.n)]) h 1349 rfl aY rfl rfl rfl) ?_))
 obtain ⟨x331, e332, hs⟩ := aK hs
 obtain ⟨b334, q335, i333⟩ := h.qY 1398 rfl aZ rfl (aB e332).1 (aB e332).2
 refine aD (i333 _ _ _ _ _ _ _ _ _ rfl rfl) (uH (ry (a' := mr) (vs := [(I6 mr.kind), (I6 mr.n)]) h 1398 rfl q335 rfl (aB e332).2 aY rfl rfl rfl rfl rfl fun w h k336 => az (ax (ak (nG (aa (ae (v := (.slice none 0 0)) rfl) (aa (ae (v := (.bool (false))) rfl) (aa (ae (v := (.bool (true))) rfl) (nR (yB (v1 := (.slice none 0 0)) (v2 := (.bool (false))) (v3 := (.bool (true))) Tryz.results70 rfl rfl rfl ?_))))))))))
 replace h := h.l5 2 3 1398 ({ Qs with regs := (Qs.regs.set (iU.lW).toNat mr) }) rfl rfl rfl (by decide) (by decide) (by decide) (aB aaK).2 e327 rfl
 replace h := h.pair 1 2 (by decide)
 replace h := h.pair 1 3 (by decide)
 replace h := h.pair 1 4 (by decide)
 replace h := h.pair 1 5 (by decide)
 obtain rfl := fP hs
 subst vZ
 obtain ⟨o1, o2, o3⟩ := h.kJ 1 (C := (cT sb XH vs1 (sx.status) (sx.aL) ((fH.take (((fH.length : Int) - 1)).toNat).set ((((fH.take (((fH.length : Int) - 1)).toNat).length : Int) - 1)).toNat ({ Qs with regs := (Qs.regs.set (iU.lW).toNat mr) })) Vu sx.cells ig)) rfl ⟨⟨⟨⟨trivial, trivial⟩, trivial⟩, trivial⟩, trivial⟩
 exact ⟨o2, .slice none 0 0, XH, vs1, Vu, ig, rfl, o1, o3, gy.nil⟩
 refine bX (σ := Bool) (inl [307, 308, 309]) (fun Xn => [(307, (.bool (Xn)))]) (fun Xn w => SH w0 M K0 w (hset [(1, .blk sb [gT, vs1, (I6 sx.status), (I6 sx.aL)]), (2, .own bg.raw 49 gT (List.zip fH iH)), (3, .ik (dS bC 51 (hat (((sx.frames.length : Int) - 1)).toNat) iH (List.map bg.sub fH))), (4, .own (dZ Val).raw 47 vs1 (List.zip sx.cells ig)), (5, .ik (dS bC 51 hn ig (List.map (dZ Val).sub sx.cells))), (7, .blk b1 [(.pointer (some ⟨sb, 0, none⟩))]), (12, .rd eP u32 x25.args), (13, .blk Gx [(I6 x25.op), (I6 x25.a), (I6 x25.b), (I6 x25.c), u32]), (14, .own bC 51 u38 iU.regs)]) ∧ gV iU x25 a fH sx Xn = some r) ?_ ?_
 rintro Xn w dO ⟨h, hs⟩
 refine aI hs rfl (fun c338 hs => ?_) (fun c338 hs => ?_)
 refine nG (aa (ah (v := u38) rfl) (aa (ag jb rfl) (aa (aA h 13 rfl aU rfl rfl) ?_)))
 obtain ⟨IV, e340, hs⟩ := aK hs
 obtain ⟨b342, q343, i341⟩ := h.qY 14 rfl aZ rfl (aB e340).1 (aB e340).2
 refine aa (i341 _ _ _ _ _ _ _ _ _ rfl rfl) ?_
 obtain ⟨cs344, m345, r346⟩ := h.uF 14 rfl q343 (aB e340).2
 obtain rfl := r346
 refine aa (kg (k := 0) (vs := [(I6 IV.kind), (I6 IV.n)]) m345 aY rfl rfl rfl (bF rfl)) (bP h 1399 aY fun w b347 h => dH (vs := [(I6 IV.kind), (I6 IV.n)]) h 1399 [(I6 IV.kind), (I6 IV.n)] rfl aY rfl rfl rfl rfl rfl (ai rfl (ai rfl aS)) fun w h => nK (aa (ag mW rfl) (aa (aA h 1399 rfl aU rfl rfl) (aa (iA rfl rfl) (nN (aI hs rfl (fun c348 hs => ?_) (fun c348 hs => ?_)))))))
 refine nG (aa (ae (v := (.slice none 0 0)) rfl) (aa (ae (v := (.bool (false))) rfl) (aa (ae (v := (.bool (false))) rfl) (nR (ay (aF (ay (yB (v1 := (.slice none 0 0)) (v2 := (.bool (false))) (v3 := (.bool (false))) Tryz.results70 rfl rfl rfl ?_))))))))
 replace h := h.ed 3 14 rfl rfl (by decide) (aB e37).2 e39 rfl
 replace h := h.pair 1 2 (by decide)
 replace h := h.pair 1 3 (by decide)
 replace h := h.pair 1 4 (by decide)
 replace h := h.pair 1 5 (by decide)
 obtain rfl := fP hs
 subst vZ
 obtain ⟨o1, o2, o3⟩ := h.kJ 1 (C := (cT sb gT vs1 (sx.status) (sx.aL) fH iH sx.cells ig)) rfl ⟨⟨⟨⟨trivial, trivial⟩, trivial⟩, trivial⟩, trivial⟩
 exact ⟨o2, .slice none 0 0, gT, vs1, iH, ig, rfl, o1, o3, gy.nil⟩
 refine aH (ak (aM (nG (aa (ag mG rfl) (aa (aA h 13 rfl aU rfl rfl) (aa (bz rfl rfl) (nN (aI hs rfl (fun c349 hs => ?_) (fun c349 hs => ?_)))))))))
 refine nG (aa (ag fu rfl) (aa (aA h 1399 rfl aU rfl rfl) (tL (R := eP) (vs := [(I6 IV.n)]) (xs := [IV.n]) h 1400 jC rfl rfl rfl ⟨rfl, trivial⟩ rfl fun w u350 h => aa (ae (v := u350) rfl) (aa (ae (v := (.bool (false))) rfl) (aa (ae (v := (.bool (true))) rfl) (nR (ay (aF (ay (yB (v1 := u350) (v2 := (.bool (false))) (v3 := (.bool (true))) Tryz.results70 rfl rfl rfl ?_))))))))))
 replace h := h.ed 3 14 rfl rfl (by decide) (aB e37).2 e39 rfl
 replace h := h.freeze 1400 rfl
 replace h := h.pair 1 2 (by decide)
 replace h := h.pair 1 3 (by decide)
 replace h := h.pair 1 4 (by decide)
 replace h := h.pair 1 5 (by decide)
 obtain rfl := fP hs
 subst vZ
 obtain ⟨o1, o2, o3⟩ := h.kJ 1 (C := (cT sb gT vs1 (sx.status) (sx.aL) fH iH sx.cells ig)) rfl ⟨⟨⟨⟨trivial, trivial⟩, trivial⟩, trivial⟩, trivial⟩
 exact ⟨o2, u350, gT, vs1, iH, ig, rfl, o1, o3, h.PG 1 1400 rfl rfl⟩
 refine aH (ak (aM (kI (L := (fun x => x = sb)) mixed h fun w h => bE 0 (aP.refl _ _) rfl aj (by kernel_rfl) (by kernel_rfl) (by kernel_rfl) (fun w hk => have h := h.qB 1 rfl hk; aA h 7 rfl lY rfl rfl) (bE 1 (aP.refl _ _) rfl aj (by kernel_rfl) (by kernel_rfl) (by kernel_rfl) (fun w hk => have h := h.qB 1 rfl hk; aA h 7 rfl lY rfl rfl) (bE 2 (aP.refl _ _) rfl aj (by kernel_rfl) (by kernel_rfl) (by kernel_rfl) (fun w hk => ag fu rfl) (bE 3 (aP.refl _ _) rfl aj (by kernel_rfl) (by kernel_rfl) (by kernel_rfl) (fun w hk => have h := h.qB 1 rfl hk; aA h 1399 rfl aU rfl rfl) (bE 4 (aP.refl _ _) rfl aj (by kernel_rfl) (by kernel_rfl) (by kernel_rfl) (fun w hk => aW rfl) (bE 5 (aP.refl _ _) rfl aj (by kernel_rfl) (by kernel_rfl) (by kernel_rfl) (fun w hk => ag lq rfl) ?_))))))))
 obtain ⟨ws355, aaL⟩ : ∃ x, x = w := ⟨_, rfl⟩
 have KP : aP (fun x => x = sb) ws355 w := aaL ▸ aP.refl (fun x => x = sb) w
 refine rf aaL.symm (bA 6 (by kernel_rfl) rfl aj (nP h 1 [gT, vs1, (I6 3), (I6 sx.aL)] rfl aU rfl rfl rfl rfl rfl fun w h XI => ?_))
 replace KP := KP.same XI
 refine az (aR KP (dG 7 KP rfl (by kernel_rfl) (fun w hk => aW rfl) (dG 8 KP rfl (by kernel_rfl) (fun w hk => ag Aj rfl) (bA 9 (by kernel_rfl) rfl aj (nP h 1 [gT, vs1, (I6 3), (I6 IV.n)] rfl aU rfl rfl rfl rfl rfl fun w h XJ => ?_)))))
 replace KP := KP.same XJ
 refine az (aR KP (fK (by kernel_rfl) (ak (nG (aa (ae (v := (.slice none 0 0)) rfl) (aa (ae (v := (.bool (true))) rfl) (aa (ae (v := (.bool (true))) rfl) (nR (aF (ay (yB (v1 := (.slice none 0 0)) (v2 := (.bool (true))) (v3 := (.bool (true))) Tryz.results70 rfl rfl rfl ?_)))))))))))
 replace h := h.ed 3 14 rfl rfl (by decide) (aB e37).2 e39 rfl
 replace h := h.pair 1 2 (by decide)
 replace h := h.pair 1 3 (by decide)
 replace h := h.pair 1 4 (by decide)
 replace h := h.pair 1 5 (by decide)
 obtain rfl := fP hs
 subst vZ
 obtain ⟨o1, o2, o3⟩ := h.kJ 1 (C := (cT sb gT vs1 (3) (IV.n) fH iH sx.cells ig)) rfl ⟨⟨⟨⟨trivial, trivial⟩, trivial⟩, trivial⟩, trivial⟩
 exact ⟨o2, .slice none 0 0, gT, vs1, iH, ig, rfl, o1, o3, gy.nil⟩
 refine nG (aa (bz rfl rfl) (aa (ae (v := (.bool (decide ((x25.op : Int) = 10)))) rfl) (nN (aI hs rfl (fun c357 hs => ?_) (fun c357 hs => ?_)))))
 refine nG (aa (ae (v := (.slice none 0 0)) rfl) (aa (ae (v := (.bool (true))) rfl) (aa (ae (v := (.bool (true))) rfl) (nR (aF (ay (yB (v1 := (.slice none 0 0)) (v2 := (.bool (true))) (v3 := (.bool (true))) Tryz.results70 rfl rfl rfl ?_)))))))
 replace h := h.ed 3 14 rfl rfl (by decide) (aB e37).2 e39 rfl
 replace h := h.pair 1 2 (by decide)
 replace h := h.pair 1 3 (by decide)
 replace h := h.pair 1 4 (by decide)
 replace h := h.pair 1 5 (by decide)
 obtain rfl := fP hs
 subst vZ
 obtain ⟨o1, o2, o3⟩ := h.kJ 1 (C := (cT sb gT vs1 (sx.status) (sx.aL) fH iH sx.cells ig)) rfl ⟨⟨⟨⟨trivial, trivial⟩, trivial⟩, trivial⟩, trivial⟩
 exact ⟨o2, .slice none 0 0, gT, vs1, iH, ig, rfl, o1, o3, gy.nil⟩
 refine nG (aa (bz rfl rfl) (aa (ae (v := (.bool (decide ((x25.op : Int) = 12)))) rfl) (nN (aI hs rfl (fun c358 hs => ?_) (fun c358 hs => ?_)))))
 refine aC (aa (ah (v := (.pointer (some ⟨b6, (((sx.frames.length : Int) - 1)).toNat * 4, none⟩))) rfl) (aa (ag gp rfl) (aa (aA h 13 rfl aU rfl rfl) (aa (aW rfl) (aa (ag qC rfl) (Ii (a' := (({ iU with at_ := x25.b }), u38)) h 2 rfl q7 rfl (eu (aB e37).2 e39) aU rfl rfl rfl rfl (by rintro _ ⟨rfl, hq⟩; exact ⟨rfl, hq⟩) fun w h => ?_))))))
 rw [Cr e39] at h
 replace h := h.VQ 3 ({ iU with at_ := x25.b }) rfl
 refine az (ax (ak (nG (aa (ae (v := (.slice none 0 0)) rfl) (aa (ae (v := (.bool (false))) rfl) (aa (ae (v := (.bool (true))) rfl) (nR (yB (v1 := (.slice none 0 0)) (v2 := (.bool (false))) (v3 := (.bool (true))) Tryz.results70 rfl rfl rfl ?_))))))))
 replace h := h.ed 3 14 rfl rfl (by decide) (lX (aB e37).2) e39 rfl
 replace h := h.pair 1 2 (by decide)
 replace h := h.pair 1 3 (by decide)
 replace h := h.pair 1 4 (by decide)
 replace h := h.pair 1 5 (by decide)
 obtain rfl := fP hs
 subst vZ
 obtain ⟨o1, o2, o3⟩ := h.kJ 1 (C := (cT sb gT vs1 (sx.status) (sx.aL) (fH.set (((sx.frames.length : Int) - 1)).toNat ({ iU with at_ := x25.b })) iH sx.cells ig)) rfl ⟨⟨⟨⟨trivial, trivial⟩, trivial⟩, trivial⟩, trivial⟩
 exact ⟨o2, .slice none 0 0, gT, vs1, iH, ig, rfl, o1, o3, gy.nil⟩
 refine nG (aa (bz rfl rfl) (aa (ae (v := (.bool (decide ((x25.op : Int) = 13)))) rfl) (nN (aI hs rfl (fun c359 hs => ?_) (fun c359 hs => ?_)))))
 refine nG (aa (ah (v := u38) rfl) (aa (ag jb rfl) (aa (aA h 13 rfl aU rfl rfl) ?_)))
 obtain ⟨NR, e361, hs⟩ := aK hs
 obtain ⟨b363, q364, i362⟩ := h.qY 14 rfl aZ rfl (aB e361).1 (aB e361).2
 refine aa (i362 _ _ _ _ _ _ _ _ _ rfl rfl) ?_
 obtain ⟨cs365, m366, r367⟩ := h.uF 14 rfl q364 (aB e361).2
 obtain rfl := r367
 refine aa (kg (k := 0) (vs := [(I6 NR.kind), (I6 NR.n)]) m366 aY rfl rfl rfl (bF rfl)) (bP h 1533 aY fun w b368 h => dH (vs := [(I6 NR.kind), (I6 NR.n)]) h 1533 [(I6 NR.kind), (I6 NR.n)] rfl aY rfl rfl rfl rfl rfl (ai rfl (ai rfl aS)) fun w h => nJ (aa (ag mW rfl) (aa (aA h 1533 rfl aU rfl rfl) (aa (iA rfl rfl) (aa (ah (v := (.bool (decide ((NR.kind : Int) ≠ 2)))) rfl) (aG rfl rfl (fun q => ag fu rfl) (aG rfl rfl (fun q => aA h 1533 rfl aU (eD q) rfl) (aG rfl rfl (fun q => bz (eD q) rfl) (aa (gZ rfl rfl nC) (nN (aI hs rfl (fun c369 hs => ?_) (fun c369 hs => ?_))))))))))))
 refine aC (aa (ah (v := (.pointer (some ⟨b6, (((sx.frames.length : Int) - 1)).toNat * 4, none⟩))) rfl) (aa (ag gp rfl) (aa (aA h 13 rfl aU rfl rfl) (aa (aW rfl) (aa (ag qC rfl) (Ii (a' := (({ iU with at_ := x25.b }), u38)) h 2 rfl q7 rfl (eu (aB e37).2 e39) aU rfl rfl rfl rfl (by rintro _ ⟨rfl, hq⟩; exact ⟨rfl, hq⟩) fun w h => ?_))))))
 rw [Cr e39] at h
 replace h := h.VQ 3 ({ iU with at_ := x25.b }) rfl
 refine az (ax (ak (nG (aa (ae (v := (.slice none 0 0)) rfl) (aa (ae (v := (.bool (false))) rfl) (aa (ae (v := (.bool (true))) rfl) (nR (yB (v1 := (.slice none 0 0)) (v2 := (.bool (false))) (v3 := (.bool (true))) Tryz.results70 rfl rfl rfl ?_))))))))
 replace h := h.ed 3 14 rfl rfl (by decide) (lX (aB e37).2) e39 rfl
 replace h := h.pair 1 2 (by decide)
 replace h := h.pair 1 3 (by decide)
 replace h := h.pair 1 4 (by decide)
 replace h := h.pair 1 5 (by decide)
 obtain rfl := fP hs
 subst vZ
 obtain ⟨o1, o2, o3⟩ := h.kJ 1 (C := (cT sb gT vs1 (sx.status) (sx.aL) (fH.set (((sx.frames.length : Int) - 1)).toNat ({ iU with at_ := x25.b })) iH sx.cells ig)) rfl ⟨⟨⟨⟨trivial, trivial⟩, trivial⟩, trivial⟩, trivial⟩
 exact ⟨o2, .slice none 0 0, gT, vs1, iH, ig, rfl, o1, o3, gy.nil⟩
 refine aH (ax (ak (nG (aa (ae (v := (.slice none 0 0)) rfl) (aa (ae (v := (.bool (false))) rfl) (aa (ae (v := (.bool (true))) rfl) (nR (yB (v1 := (.slice none 0 0)) (v2 := (.bool (false))) (v3 := (.bool (true))) Tryz.results70 rfl rfl rfl ?_))))))))
 replace h := h.ed 3 14 rfl rfl (by decide) (aB e37).2 e39 rfl
 replace h := h.pair 1 2 (by decide)
 replace h := h.pair 1 3 (by decide)
 replace h := h.pair 1 4 (by decide)
 replace h := h.pair 1 5 (by decide)
 obtain rfl := fP hs
 subst vZ
 obtain ⟨o1, o2, o3⟩ := h.kJ 1 (C := (cT sb gT vs1 (sx.status) (sx.aL) fH iH sx.cells ig)) rfl ⟨⟨⟨⟨trivial, trivial⟩, trivial⟩, trivial⟩, trivial⟩
 exact ⟨o2, .slice none 0 0, gT, vs1, iH, ig, rfl, o1, o3, gy.nil⟩
 refine aH (ax (ak (nG (aa (ae (v := (.slice none 0 0)) rfl) (aa (ae (v := (.bool (false))) rfl) (aa (ae (v := (.bool (true))) rfl) (nR (yB (v1 := (.slice none 0 0)) (v2 := (.bool (false))) (v3 := (.bool (true))) Tryz.results70 rfl rfl rfl ?_))))))))
 replace h := h.ed 3 14 rfl rfl (by decide) (aB e37).2 e39 rfl
 replace h := h.pair 1 2 (by decide)
 replace h := h.pair 1 3 (by decide)
 replace h := h.pair 1 4 (by decide)
 replace h := h.pair 1 5 (by decide)
 obtain rfl := fP hs
 subst vZ
 obtain ⟨o1, o2, o3⟩ := h.kJ 1 (C := (cT sb gT vs1 (sx.status) (sx.aL) fH iH sx.cells ig)) rfl ⟨⟨⟨⟨trivial, trivial⟩, trivial⟩, trivial⟩, trivial⟩
 exact ⟨o2, .slice none 0 0, gT, vs1, iH, ig, rfl, o1, o3, gy.nil⟩
 refine nG (aa (bz rfl rfl) (aa (ae (v := (.bool (decide ((x25.op : Int) = 9)))) rfl) (nN (aI hs rfl (fun c370 hs => ?_) (fun c370 hs => ?_)))))
 refine aH (au ?_)
 exact bQ (decide ((x25.op : Int) = 9)) ⟨h.cn _, hs⟩
 refine aC (aa (bz rfl rfl) (aa (ae (v := (.bool (decide ((x25.op : Int) = 11)))) rfl) (az (au ?_))))
 exact bQ (decide ((x25.op : Int) = 11)) ⟨h.cn _, hs⟩
 refine nG (aa (ah (v := (.pointer (some ⟨b6, (((sx.frames.length : Int) - 1)).toNat * 4, none⟩))) rfl) (aa (aW rfl) (aa (ag qC rfl) ?_)))
 obtain ⟨cs371, m372, r373⟩ := h.uF 2 rfl q7 (eu (aB e4).2 e9)
 obtain ⟨rfl, -⟩ := r373
 refine aa (kH (k := 1) m372 aU rfl rfl) (aa (ah (v := u20) rfl) (aa (bW iy rfl (h.ny 10 rfl)) ?_))
 obtain ⟨a374, hs⟩ := bB hs
 refine aa (mV rfl rfl a374) (aa (eB rfl rfl) (nN (aI hs rfl (fun c375 hs => ?_) (fun c375 hs => ?_))))
 refine aC (aa (ah (v := (.pointer (some ⟨b6, (((sx.frames.length : Int) - 1)).toNat * 4, none⟩))) rfl) (aa (aW rfl) (aa (ag qC rfl) ?_)))
 obtain ⟨cs376, m377, r378⟩ := h.uF 2 rfl q7 (eu (aB e4).2 e9)
 obtain ⟨rfl, -⟩ := r378
 refine aa (kH (k := 1) m377 aU rfl rfl) ?_
 obtain ⟨a379, hs⟩ := bB hs
 refine aa (dP rfl rfl a379) (aa (aW rfl) (aa (ag qC rfl) (Ii (a' := (({ x3 with at_ := (x3.at_ + 1) }), u8)) h 2 rfl q7 rfl (eu (aB e4).2 e9) aU rfl rfl rfl rfl (by rintro _ ⟨rfl, hq⟩; exact ⟨rfl, hq⟩) fun w h => ?_)))
 rw [Cr e9] at h
 replace h := h.VQ 3 ({ x3 with at_ := (x3.at_ + 1) }) rfl
 refine az ?_
 replace h := h.ed 3 8 rfl rfl (by decide) (lX (aB e4).2) e9 rfl
 refine au ?_
 exact bQ (sx.frames.set (((sx.frames.length : Int) - 1)).toNat ({ x3 with at_ := (x3.at_ + 1) })) ⟨h.cn _, hs⟩
 refine aH ?_
 replace h := h.ed 3 8 rfl rfl (by decide) (aB e4).2 e9 rfl
 refine au ?_
 exact bQ sx.frames ⟨h.cn _, hs⟩
def mf (N : Nat) (sI : List LX.Frame) (xc : List (List Val)) (yo : Int) (Cj : Int) (NS : List Int) (yx : Int) (a : List bL) (Km : (List Int × Int × List LX.Frame × List (List Val) × Int × Int) → Option (LX.State × List Int × Int)) (x76 : Bool) : Option (LX.State × List Int × Int) :=
  bif x76 then some ((⟨sI, xc, yo, Cj⟩ : LX.State), NS, yx) else (kP (⟨sI, xc, yo, Cj⟩ : LX.State)).bind fun UA => (eO N (⟨sI, xc, yo, Cj⟩ : LX.State) a).bind fun vQ => bif (!vQ.2.2.1) then ib (jV (yx + 1)) (some ((⟨UA.frames, UA.cells, 2, UA.aL⟩ : LX.State), NS, (yx + 1))) else ib (Room 8 NS vQ.1) (bif (vQ.2.1 || decide ((vQ.2.2.2.status : Int) ≠ 0)) then ib (jV (yx + 1)) (some (vQ.2.2.2, (NS ++ vQ.1), (yx + 1))) else ib (jV (yx + 1)) (Km ((NS ++ vQ.1), (yx + 1), vQ.2.2.2.frames, vQ.2.2.2.cells, vQ.2.2.2.status, vQ.2.2.2.aL)))
def ji (N : Nat) (c : Int) (a : List bL) (s : List Int × Int × List LX.Frame × List (List Val) × Int × Int) (Km : List Int × Int × List LX.Frame × List (List Val) × Int × Int → Option (LX.State × List Int × Int)) : Option (LX.State × List Int × Int) :=
  match s with | (NS, yx, sI, xc, yo, Cj) => bif decide ((yx : Int) < c) then ib (jV ((sI.length : Int) - 1)) ((idx sI ((sI.length : Int) - 1)).bind fun XK => bif decide (((NS.length : Int) : Int) = 40) then (idx a XK.proc).bind fun x108 => (idx x108.code XK.at_).bind fun NK => mf N sI xc yo Cj NS yx a Km (decide ((NK.op : Int) = 9)) else mf N sI xc yo Cj NS yx a Km false) else some ((⟨sI, xc, yo, Cj⟩ : LX.State), NS, c)
def uz (N : Nat) (a : List bL) (b : LX.State) (c : Int) : Option (LX.State × List Int × Int) :=
  (kP b).bind fun y3 => again (ji N c a) N ([], 0, y3.frames, y3.cells, y3.status, y3.aL)
theorem Gd (N : Nat) (w0 : World) (M : BS) (hM : ∀ b, M b → b < w0.heap.size) (va : Value) (a : List bL) (ha : gX jk w0 M va a) (b : LX.State) (vb0 vb1 : Value) (hb0 : gy fC w0 BE M vb0 b.frames) (hb1 : gy (rU bC) w0 BE M vb1 b.cells) (c : Int) (r : LX.State × List Int × Int) (hs : uz N a b c = some r) :
    Calls Tryz.prog 32 #[va, (.agg #[vb0, vb1, (I6 b.status), (I6 b.aL)]), (I6 c)] w0 (fun e w' => Grow w0 w' ∧ ∃ uC, ∃ wF, ∃ u1, e = .returned (.tuple #[.agg #[uC, wF, .int .i64 r.1.status, .int .i64 r.1.aL], u1, .int .i64 r.2.2]) ∧ gX fC w' (fun b => M b ∨ ob u1 b) uC r.1.frames ∧ gX (rU bC) w' (fun b => M b ∨ ob u1 b) wF r.1.cells ∧ fI eP 3 w' M u1 r.2.1 ∧ (∀ b, ob u1 b → w0.heap.size ≤ b)) := by
 refine aQ (args := [va, (.agg #[vb0, vb1, (I6 b.status), (I6 b.aL)]), (I6 c)]) Tryz.func32 rfl Tryz.ntmps32 (bF rfl) ?_
 have h := SH.init hM
 replace h := h.QH 1 ha bH
 replace h := h.gz 2 hb0 (BI bH)
 replace h := h.gz 3 hb1 (dL (BI bH))
 have vC := ha.bT
 refine nG (mD (cs := [vb0, vb1, (I6 b.status), (I6 b.aL)]) h 4 rfl rfl fun w b1 h => bP h 5 bM fun w b2 h => aa (ae (v := (.slice none 0 0)) rfl) (aa (ae (v := (I6 0)) rfl) (nJ (aa (dK (vs := [vb0, vb1, (I6 b.status), (I6 b.aL)]) h 4 rfl bM rfl rfl rfl) ?_))))
 obtain ⟨y3, e4, hs⟩ := aK hs
 refine aX Tk rfl rfl (tC _ _ h.lt b vb0 vb1 (h.iV 2 rfl) (h.iV 3 rfl) _ e4) ?_
 rintro _ w ⟨k11, u5, u7, NI, us8, rfl, h9, h10⟩
 refine ⟨_, rfl, ?_⟩
 replace h := h.PI 6 (C := (cU u5 u7 y3.frames NI y3.cells us8)) k11 ⟨⟨⟨trivial, trivial⟩, trivial⟩, trivial⟩ h9 h10
 replace h := h.bY 6 9 (by decide) rfl rfl
 replace h := h.bY 6 8 (by decide) rfl rfl
 replace h := h.bY 6 7 (by decide) rfl rfl
 refine dH (vs := [u5, u7, (I6 y3.status), (I6 y3.aL)]) h 4 [u5, u7, (I6 y3.status), (I6 y3.aL)] rfl bM rfl rfl rfl rfl rfl (ai (h.dm 6 rfl).one (ai (h.dm 8 rfl).one (ai rfl (ai rfl aS)))) fun w h => nJ (aa (ae (v := (.slice none 0 0)) rfl) (nK (aa (ae (v := (I6 0)) rfl) (nN (aO ?_)))))
 replace h := h.yj (R := eP) (E := 3) 13
 refine gu (σ := Nat × Value × List Int × Int × Value × List Value × List LX.Frame × Value × List Value × List (List Val) × Int × Int) (inl (rg 7 9 ++ rg 18 61)) (fun ⟨m59, v45, NS, yx, v48, NT, sI, v51, NU, xc, yo, Cj⟩ => [(9, v45), (10, (I6 yx))]) (fun ⟨m59, v45, NS, yx, v48, NT, sI, v51, NU, xc, yo, Cj⟩ w => SH w0 M BE w (hset [(1, .rd jk va a), (4, .blk b1 [v48, v51, (I6 yo), (I6 Cj)]), (5, .blk b2 [(.slice none 0 0), (.slice none 0 0), (I6 0), (I6 0)]), (6, .own bg.raw 49 v48 (List.zip sI NT)), (7, .ik (dS bC 51 hn NT (List.map bg.sub sI))), (8, .own (dZ Val).raw 47 v51 (List.zip xc NU)), (9, .ik (dS bC 51 hn NU (List.map (dZ Val).sub xc))), (13, .own eP 3 v45 NS)]) ∧ again (ji N c a) m59 (NS, yx, sI, xc, yo, Cj) = some r) (fun ⟨m59, v45, NS, yx, v48, NT, sI, v51, NU, xc, yo, Cj⟩ => m59) ⟨N, (.slice none 0 0), [], 0, u5, NI, y3.frames, u7, us8, y3.cells, y3.status, y3.aL⟩ ⟨rfl, rfl, trivial⟩ ?_ ?_
 exact ⟨h.cn _, hs⟩
 rintro ⟨m59, v45, NS, yx, v48, NT, sI, v51, NU, xc, yo, Cj⟩ w dO ⟨h, hs⟩
 obtain ⟨m591, m59e, m59h⟩ := qA hs
 subst m59e
 replace hs := m59h
 generalize hnx60 : again (ji N c a) m591 = Km at hs
 refine aM (nG (aa (ah (v := (I6 yx)) rfl) (aa (ah (v := (I6 c)) rfl) (aa (eB rfl rfl) (nN (aI hs rfl (fun c63 hs => ?_) (fun c63 hs => ?_)))))))
 refine aH (ak (aM (aO (nG (aa (ag dQ rfl) (aa (aA h 4 rfl gD rfl rfl) (aa (ag dQ rfl) (aa (aA h 4 rfl gD rfl rfl) (aa (mM (N := bg) dx rfl (h.eG 6 rfl) (h.fD 7 rfl)) ?_)))))))))
 obtain ⟨a64, hs⟩ := bB hs
 refine aa (mV rfl rfl a64) ?_
 obtain ⟨XK, X9, hs⟩ := aK hs
 obtain ⟨u70, Vn, h⟩ := h.l6 7 14 XK.regs rfl rfl (by decide) (aB X9).2 rfl
 obtain ⟨b68, q69, i67⟩ := h.qY 6 rfl dx rfl (aB X9).1 (eu (aB X9).2 Vn)
 refine aa (i67 _ _ _ _ _ _ _ _ _ rfl rfl) ?_
 obtain ⟨cs72, m73, r74⟩ := h.uF 6 rfl q69 (eu (aB X9).2 Vn)
 obtain ⟨rfl, -⟩ := r74
 refine aa (kg (k := 0) (vs := [(I6 XK.proc), (I6 XK.at_), u70, (I6 XK.lW)]) m73 il rfl rfl rfl (bF rfl)) (bP h 15 il fun w b75 h => dH (vs := [(I6 XK.proc), (I6 XK.at_), u70, (I6 XK.lW)]) h 15 [(I6 XK.proc), (I6 XK.at_), u70, (I6 XK.lW)] rfl il rfl rfl rfl rfl rfl (ai rfl (ai rfl (ai (h.dm 14 rfl).one (ai rfl aS)))) fun w h => nN (aM (bX (σ := Bool) (inl (rg 31 17)) (fun x76 => [(47, (.bool (x76)))]) (fun x76 w => SH w0 M BE w (hset [(1, .rd jk va a), (4, .blk b1 [v48, v51, (I6 yo), (I6 Cj)]), (5, .blk b2 [(.slice none 0 0), (.slice none 0 0), (I6 0), (I6 0)]), (6, .own bg.raw 49 v48 (List.zip sI NT)), (7, .ik (dS bC 51 hn NT (List.map bg.sub sI))), (8, .own (dZ Val).raw 47 v51 (List.zip xc NU)), (9, .ik (dS bC 51 hn NU (List.map (dZ Val).sub xc))), (13, .own eP 3 v45 NS)]) ∧ mf N sI xc yo Cj NS yx a Km x76 = some r) ?_ ?_)))
 rintro x76 w dO ⟨h, hs⟩
 refine aI hs rfl (fun c77 hs => ?_) (fun c77 hs => ?_)
 refine nG (aa (dK (vs := [v48, v51, (I6 yo), (I6 Cj)]) h 4 rfl bM rfl rfl rfl) (aa (ah (v := v45) rfl) (aa (ah (v := (I6 yx)) rfl) (dH (vs := [v48, v51, (I6 yo), (I6 Cj)]) h 5 [v48, v51, (I6 yo), (I6 Cj)] rfl bM rfl rfl rfl rfl rfl (ai (h.dm 6 rfl).one (ai (h.dm 8 rfl).one (ai rfl (ai rfl aS)))) fun w h => aa (ae (v := v45) rfl) (aa (ae (v := (I6 yx)) rfl) (nR (ay (aF (ay (ay (aF (ay (Lb (vs := [v48, v51, (I6 yo), (I6 Cj)]) (v2 := v45) (v3 := (I6 yx)) Tryz.results32 rfl rfl rfl h 5 rfl bM rfl ?_)))))))))))))
 replace h := h.ru (N := bg) (R' := fC) 6 7 rfl rfl (by decide) rfl tV
 replace h := h.ru (N := (dZ Val)) (R' := (rU bC)) 8 9 rfl rfl (by decide) rfl yT
 obtain rfl := fP hs
 exact ⟨h.grown, _, _, _, rfl, h.xq 6 13 rfl rfl, h.xq 8 13 rfl rfl, (h.jQ 13 rfl).1, (h.jQ 13 rfl).2⟩
 refine nS (aa (dK (vs := [v48, v51, (I6 yo), (I6 Cj)]) h 4 rfl bM rfl rfl rfl) ?_)
 obtain ⟨UA, e79, hs⟩ := aK hs
 refine aX Tk rfl rfl (tC _ BE (fun _ h => h.elim) (⟨sI, xc, yo, Cj⟩ : LX.State) v48 v51 (h.EJ (N := bg) (R' := fC) 6 7 rfl rfl (by decide) rfl tV) (h.EJ (N := (dZ Val)) (R' := (rU bC)) 8 9 rfl rfl (by decide) rfl yT) _ e79) ?_
 rintro _ w ⟨k86, u80, u82, us81, us83, rfl, h84, h85⟩
 refine ⟨_, rfl, ?_⟩
 replace h := h.U8 16 (C := (cU u80 u82 UA.frames us81 UA.cells us83)) k86 ⟨⟨⟨trivial, trivial⟩, trivial⟩, trivial⟩ ⟨⟨⟨(fun _ _ _ _ _ h => h), (wN (fun _ _ _ _ _ h => h))⟩, (fun _ _ _ _ _ h => h)⟩, (wN (fun _ _ _ _ _ h => h))⟩ h84 h85
 replace h := h.bY 16 19 (by decide) rfl rfl
 replace h := h.bY 16 18 (by decide) rfl rfl
 replace h := h.bY 16 17 (by decide) rfl rfl
 refine bP h 20 bM fun w TL h => dH (vs := [u80, u82, (I6 UA.status), (I6 UA.aL)]) h 20 [u80, u82, (I6 UA.status), (I6 UA.aL)] rfl bM rfl rfl rfl rfl rfl (ai (h.dm 16 rfl).one (ai (h.dm 18 rfl).one (ai rfl (ai rfl aS)))) fun w h => nJ (aa (ah (v := va) rfl) ?_)
 replace h := h.pair 4 6 (by decide)
 replace h := h.pair 4 7 (by decide)
 replace h := h.pair 4 8 (by decide)
 replace h := h.pair 4 9 (by decide)
 obtain ⟨l88a, l88b, l88c⟩ := h.z8 4 (C := (cT b1 v48 v51 (yo) (Cj) sI NT xc NU)) rfl ⟨⟨⟨⟨trivial, trivial⟩, trivial⟩, trivial⟩, trivial⟩
 obtain ⟨vQ, e90, hs⟩ := aK hs
 refine aX fnOk70 rfl rfl (Er N _ _ l88c b1 (⟨sI, xc, yo, Cj⟩ : LX.State) v48 v51 NT NU l88a l88b va a (h.Ta 4 1 rfl rfl) _ e90) ?_
 rintro _ w ⟨k97, ZA, u93, u95, us94, us96, rfl, h98, h99, g92⟩
 refine ⟨_, rfl, ?_⟩
 replace h := h.back 4 (C := (cT b1 v48 v51 (yo) (Cj) sI NT xc NU)) (C' := (cT b1 u93 u95 (vQ.2.2.2.status) (vQ.2.2.2.aL) vQ.2.2.2.frames us94 vQ.2.2.2.cells us96)) rfl ⟨⟨⟨⟨trivial, trivial⟩, trivial⟩, trivial⟩, trivial⟩ h98 k97 h99
 replace h := h.dA 21 (Ji g92)
 replace h := h.bY 4 9 (by decide) rfl rfl
 replace h := h.bY 4 8 (by decide) rfl rfl
 replace h := h.bY 4 7 (by decide) rfl rfl
 replace h := h.bY 4 6 (by decide) rfl rfl
 refine aa (ah (v := (.tuple #[ZA, (.bool (vQ.2.1)), (.bool (vQ.2.2.1))])) rfl) (aa (bu rfl rfl) (aa (bu rfl rfl) (aa (bu rfl rfl) (aa (ae (v := ZA) rfl) (aa (ae (v := (.bool (vQ.2.1))) rfl) (aa (ae (v := (.bool (vQ.2.2.1))) rfl) (nK (aa (ah (v := (.bool (vQ.2.2.1))) rfl) (aa (gL rfl) (nN (aI hs rfl (fun c100 hs => ?_) (fun c100 hs => ?_))))))))))))
 refine nG (aa (ag lq rfl) (gq h 20 [u80, u82, (I6 2), (I6 UA.aL)] rfl aU rfl rfl rfl rfl rfl fun w h => nJ (aa (dK (vs := [u80, u82, (I6 2), (I6 UA.aL)]) h 20 rfl bM rfl rfl rfl) (aa (ah (v := v45) rfl) (aa (ah (v := (I6 yx)) rfl) ?_)))))
 obtain ⟨V6, hs⟩ := bB hs
 refine aa (dP rfl rfl V6) (dH (vs := [u80, u82, (I6 2), (I6 UA.aL)]) h 5 [u80, u82, (I6 2), (I6 UA.aL)] rfl bM rfl rfl rfl rfl rfl (ai (h.dm 16 rfl).one (ai (h.dm 18 rfl).one (ai rfl (ai rfl aS)))) fun w h => aa (ae (v := v45) rfl) (aa (ae (v := (I6 ((yx + 1)))) rfl) (nR (ay (aF (ay (ay (aF (ay (Lb (vs := [u80, u82, (I6 2), (I6 UA.aL)]) (v2 := v45) (v3 := (I6 ((yx + 1)))) Tryz.results32 rfl rfl rfl h 5 rfl bM rfl ?_))))))))))
 replace h := h.ru (N := bg) (R' := fC) 16 17 rfl rfl (by decide) rfl tV
 replace h := h.ru (N := (dZ Val)) (R' := (rU bC)) 18 19 rfl rfl (by decide) rfl yT
 obtain rfl := fP hs
 exact ⟨h.grown, _, _, _, rfl, h.xq 16 13 rfl rfl, h.xq 18 13 rfl rfl, (h.jQ 13 rfl).1, (h.jQ 13 rfl).2⟩
 refine nS (aa (ah (v := v45) rfl) (aa (ah (v := ZA) rfl) ?_))
 obtain ⟨Wh, hs⟩ := bB hs
 refine lV (R := eP) (m := vQ.1) h 13 rfl (h.ny 21 rfl) jC rfl rfl rfl Wh.1 Wh.2 fun w u103 h => aa (ae (v := u103) rfl) (nJ (aa (ah (v := (.bool (vQ.2.1))) rfl) (aa (ah (v := (.bool (vQ.2.1))) rfl) (aG rfl rfl (fun q => ag lq rfl) (aG rfl rfl (fun q => aA h 4 rfl aU (eD q) rfl) (aG rfl rfl (fun q => iA (eD q) rfl) (aa (iJ rfl rfl nC) (nN (aI hs rfl (fun c104 hs => ?_) (fun c104 hs => ?_))))))))))
 refine nG (aa (dK (vs := [u93, u95, (I6 vQ.2.2.2.status), (I6 vQ.2.2.2.aL)]) h 4 rfl bM rfl rfl rfl) (aa (ah (v := u103) rfl) (aa (ah (v := (I6 yx)) rfl) ?_)))
 obtain ⟨a105, hs⟩ := bB hs
 refine aa (dP rfl rfl a105) (dH (vs := [u93, u95, (I6 vQ.2.2.2.status), (I6 vQ.2.2.2.aL)]) h 5 [u93, u95, (I6 vQ.2.2.2.status), (I6 vQ.2.2.2.aL)] rfl bM rfl rfl rfl rfl rfl (ai (h.dm 6 rfl).one (ai (h.dm 8 rfl).one (ai rfl (ai rfl aS)))) fun w h => aa (ae (v := u103) rfl) (aa (ae (v := (I6 ((yx + 1)))) rfl) (nR (aF (ay (ay (aF (ay (Lb (vs := [u93, u95, (I6 vQ.2.2.2.status), (I6 vQ.2.2.2.aL)]) (v2 := u103) (v3 := (I6 ((yx + 1)))) Tryz.results32 rfl rfl rfl h 5 rfl bM rfl ?_)))))))))
 replace h := h.ru (N := bg) (R' := fC) 6 7 rfl rfl (by decide) rfl tV
 replace h := h.ru (N := (dZ Val)) (R' := (rU bC)) 8 9 rfl rfl (by decide) rfl yT
 obtain rfl := fP hs
 exact ⟨h.grown, _, _, _, rfl, h.xq 6 13 rfl rfl, h.xq 8 13 rfl rfl, (h.jQ 13 rfl).1, (h.jQ 13 rfl).2⟩
 refine aH (ax (ak (aC (aa (ah (v := (I6 yx)) rfl) ?_))))
 obtain ⟨a106, hs⟩ := bB hs
 refine aa (dP rfl rfl a106) (aa (ae (v := (I6 ((yx + 1)))) rfl) (az (au ?_)))
 subst hnx60
 exact jB ⟨m591, u103, (NS ++ vQ.1), (yx + 1), u93, us94, vQ.2.2.2.frames, u95, us96, vQ.2.2.2.cells, vQ.2.2.2.status, vQ.2.2.2.aL⟩ ⟨h.cn _, hs⟩
 refine uI mixed (by kernel_rfl) h fun w h => aD (ah (v := v45) rfl) (aD (bW bV rfl (h.eG 13 rfl)) (aD (bz rfl rfl) (aD (ah (v := (.bool (decide (((NS.length : Int) : Int) = 40)))) rfl) (kT (b := decide (((NS.length : Int) : Int) = 40)) hs (fun c107 hs => ?_) (fun c107 hs => ?_)))))
 refine fw rfl (cB c107) (aD (ah (v := va) rfl) (fw rfl (cB c107) (aD (ag yU rfl) (fw rfl (cB c107) (aD (aA h 15 rfl aU rfl rfl) (fw rfl (cB c107) ?_))))))
 obtain ⟨x108, e109, hs⟩ := aK hs
 obtain ⟨b111, o112, cs113, h, r114, i110⟩ := h.Cm 1 22 rfl gU rfl (aB e109).1 (aB e109).2
 obtain ⟨u115, rfl, g116⟩ := jW r114
 replace h := h.dA 23 g116.up
 refine aD (i110 _ _ _ _ _ _ _ _ _ rfl rfl) (fw rfl (cB c107) (aD (ag nQ rfl) (fw rfl (cB c107) (aD (fq (k := 2) h 22 rfl xy rfl rfl) (fw rfl (cB c107) (aD (ag qC rfl) (fw rfl (cB c107) (aD (aA h 15 rfl aU rfl rfl) (fw rfl (cB c107) ?_)))))))))
 obtain ⟨NK, e118, hs⟩ := aK hs
 obtain ⟨b120, o121, cs122, h, r123, i119⟩ := h.Cm 23 24 rfl iy rfl (aB e118).1 (aB e118).2
 obtain ⟨u124, rfl, g125⟩ := wM r123
 replace h := h.dA 25 g125.up
 refine aD (i119 _ _ _ _ _ _ _ _ _ rfl rfl) (fw rfl (cB c107) (aD (ag mG rfl) (fw rfl (cB c107) (aD (fq (k := 0) h 24 rfl aU rfl rfl) (fw rfl (cB c107) (aD (bz rfl rfl) (aD (fB (b := true) (v := (.bool (decide ((NK.op : Int) = 9)))) (cB c107) rfl) (uf ?_))))))))
 replace h := h.ed 7 14 rfl rfl (by decide) (aB X9).2 Vn rfl
 refine au ?_
 exact bQ (decide ((NK.op : Int) = 9)) ⟨h.cn _, hs⟩
 refine dR (b' := false) rfl (cB c107) rfl (dR (b' := false) rfl (cB c107) rfl (dR (b' := false) rfl (cB c107) rfl (dR (b' := false) rfl (cB c107) rfl (dR (b' := false) rfl (cB c107) rfl (dR (b' := false) rfl (cB c107) rfl (dR (b' := false) rfl (cB c107) rfl (dR (b' := false) rfl (cB c107) rfl (dR (b' := false) rfl (cB c107) rfl (dR (b' := false) rfl (cB c107) rfl (dR (b' := false) rfl (cB c107) rfl (dR (b' := false) rfl (cB c107) rfl (aD (fB (b := false) (v := (.bool (false))) (cB c107) rfl) (uf ?_)))))))))))))
 replace h := h.ed 7 14 rfl rfl (by decide) (aB X9).2 Vn rfl
 refine au ?_
 exact bQ false ⟨h.cn _, hs⟩
 refine nE (aa (dK (vs := [v48, v51, (I6 yo), (I6 Cj)]) h 4 rfl bM rfl rfl rfl) (aa (ah (v := v45) rfl) (aa (ah (v := (I6 c)) rfl) (dH (vs := [v48, v51, (I6 yo), (I6 Cj)]) h 5 [v48, v51, (I6 yo), (I6 Cj)] rfl bM rfl rfl rfl rfl rfl (ai (h.dm 6 rfl).one (ai (h.dm 8 rfl).one (ai rfl (ai rfl aS)))) fun w h => aa (ae (v := v45) rfl) (aa (ae (v := (I6 c)) rfl) (nR (Lb (vs := [v48, v51, (I6 yo), (I6 Cj)]) (v2 := v45) (v3 := (I6 c)) Tryz.results32 rfl rfl rfl h 5 rfl bM rfl ?_)))))))
 replace h := h.ru (N := bg) (R' := fC) 6 7 rfl rfl (by decide) rfl tV
 replace h := h.ru (N := (dZ Val)) (R' := (rU bC)) 8 9 rfl rfl (by decide) rfl yT
 obtain rfl := fP hs
 exact ⟨h.grown, _, _, _, rfl, h.xq 6 13 rfl rfl, h.xq 8 13 rfl rfl, (h.jQ 13 rfl).1, (h.jQ 13 rfl).2⟩
end
end Go.Proofs.YtfclkapelkhlpaaGreatDoor
namespace Go.Proofs.YtfclkapelkhlpaaGreatDoor
open Go Go.Proofs Go.LX
noncomputable section
abbrev UB : List (Int × Str) := [(2, [118]), (4, [46]), (5, [110, 101, 119]), (6, [102]), (1, [])]
theorem bnd {α β : Type} (a : α) (f : α → Option β) : (some a).bind f = f a := rfl
theorem XL {α σ : Type} {g : α → Option σ} {l : List α} (hu : ∀ p ∈ l, ∀ q ∈ l, g p ≠ none → g q ≠ none → p = q) {p : α} (hp : p ∈ l) {t : σ} (h : g p = some t) : l.findSome? g = some t := by
  cases e : l.findSome? g with
  | none =>
    rw [List.findSome?_eq_none_iff] at e
    rw [e p hp] at h; cases h
  | some u =>
    obtain ⟨q, hq, hqu⟩ := List.exists_of_findSome?_eq_some e
    have := hu p hp q hq (by rw [h]; simp) (by rw [hqu]; simp)
    subst this
    rw [h] at hqu; exact hqu.symm
theorem OX {α σ : Type} {step : α → σ → Option σ} {g : α → Option σ} : ∀ {l : List α}, (∀ p ∈ l, ∀ s, step p s = some ((g p).getD s)) → (∀ p ∈ l, g p = none) → ∀ s, LV step l s = some s
  | [], _, _, s => rfl
  | p :: l, h, hn, s => by
    unfold LV
    rw [h p (by simp), hn p (by simp), Option.getD_none, bnd]
    exact OX (fun q hq => h q (List.mem_cons_of_mem _ hq)) (fun q hq => hn q (List.mem_cons_of_mem _ hq)) s
theorem OY {α σ : Type} {step : α → σ → Option σ} {g : α → Option σ} : ∀ {l : List α}, (∀ p ∈ l, ∀ s, step p s = some ((g p).getD s)) → (∀ p ∈ l, ∀ q ∈ l, g p ≠ none → g q ≠ none → p = q) → l.Nodup → ∀ s, LV step l s = some ((l.findSome? g).getD s)
  | [], _, _, _, s => rfl
  | p :: l, h, hu, hn, s => by
    unfold LV
    rw [h p (by simp), bnd]
    have hn' := List.nodup_cons.1 hn
    cases e : g p with
    | none =>
      rw [Option.getD_none, OY (fun q hq => h q (List.mem_cons_of_mem _ hq)) (fun a ha b hb => hu a (List.mem_cons_of_mem _ ha) b (List.mem_cons_of_mem _ hb)) hn'.2 s, List.findSome?_cons, e]
    | some t =>
      rw [Option.getD_some, OX (fun q hq => h q (List.mem_cons_of_mem _ hq)) (fun q hq => ?_) t, List.findSome?_cons, e]
      · rfl
      · cases e2 : g q with
        | none => rfl
        | some u =>
          have := hu p (by simp) q (List.mem_cons_of_mem _ hq) (by rw [e]; simp) (by rw [e2]; simp)
          subst this
          exact absurd hq hn'.1
theorem XM {α σ : Type} {step : α → σ → Option σ} {g : α → Option σ} {L : List α} (h : ∀ p ∈ L, ∀ s, step p s = some ((g p).getD s)) (hu : ∀ p ∈ L, ∀ q ∈ L, g p ≠ none → g q ≠ none → p = q) (hn : L.Nodup) (s : σ) : wu step L s ((L.findSome? g).getD s) := by
  intro l hl
  rw [OY (fun p hp => h p (hl.mem_iff.1 hp)) (fun p hp q hq => hu p (hl.mem_iff.1 hp) q (hl.mem_iff.1 hq)) (hl.nodup_iff.2 hn) s]
  congr 2
  cases e : L.findSome? g with
  | none =>
    rw [List.findSome?_eq_none_iff] at e ⊢
    exact fun x hx => e x (hl.mem_iff.1 hx)
  | some t =>
    obtain ⟨p, hp, ht⟩ := List.exists_of_findSome?_eq_some e
    exact XL (fun p hp q hq => hu p (hl.mem_iff.1 hp) q (hl.mem_iff.1 hq)) (hl.mem_iff.2 hp) ht
def joO (pe : Int × Str) (y : Int × Bool) (x : Bool) : Option (Int × Int) := bif x then some (pe.1, y.1) else none
def R7 (s : Str) (pe : Int × Str) : Option (Option (Int × Int)) :=
  (strings_TrimPrefix s pe.2).bind fun BZ => (EF BZ).bind fun vQ => bif (!vQ.2) then (lQ (⟨pe.1, vQ.1⟩ : Tok)).bind fun vU => some (joO pe vQ (decide ((vU : Str) = s))) else some (joO pe vQ false)
theorem j227_eq (pe : Int × Str) (y : Int × Bool) (a b : Int) (x : Bool) : xE pe y a b x = some ((joO pe y x).getD (a, b)) := by
  unfold xE joO; cases x <;> rfl
theorem b228_eq (s : Str) (pe : Int × Str) (st : Int × Int) : sP s pe st = (R7 s pe).bind fun o => some (o.getD st) := by
  obtain ⟨a, b⟩ := st
  unfold sP R7
  simp only [j227_eq]
  cases strings_TrimPrefix s pe.2 with
  | none => rfl
  | some y =>
    simp only [bnd]
    cases EF y with
    | none => rfl
    | some z =>
      simp only [bnd]
      cases z.2 with
      | true => rfl
      | false =>
        simp only [Bool.not_false, cond_true]
        cases lQ (⟨pe.1, z.1⟩ : Tok) <;> rfl
def gO (s : Str) (p : Int × Str) : Option (Int × Int) := (R7 s p).join
def okW (s : Str) : Bool := UB.all (fun p => (R7 s p).isSome) && UB.all (fun p => UB.all fun q => (gO s p).isNone || (gO s q).isNone || decide (p = q))
def preC (s : Str) : Int × Int := (UB.findSome? (gO s)).getD (0, 0)
theorem fold_ok {s : Str} (h : okW s = true) : BK (sP s) UB (0, 0) = some (preC s) := by
  unfold okW at h
  rw [Bool.and_eq_true, List.all_eq_true, List.all_eq_true] at h
  refine Tc (XM (g := gO s) (fun p hp st => ?_) (fun p hp q hq h1 h2 => ?_) (by decide) (0, 0))
  · have h1 := h.1 p hp
    rw [b228_eq]
    unfold gO
    cases e : R7 s p with
    | none => rw [e] at h1; cases h1
    | some o => cases o <;> rfl
  · have := List.all_eq_true.1 (h.2 p hp) q hq
    rw [Bool.or_eq_true, Bool.or_eq_true] at this
    rcases this with (e | e) | e
    · exact absurd (Option.isNone_iff_eq_none.1 e) h1
    · exact absurd (Option.isNone_iff_eq_none.1 e) h2
    · exact p8 e
def foldC (s : Str) : Option (Int × Int) := bif okW s then some (preC s) else BK (sP s) UB (0, 0)
theorem foldC_eq (s : Str) : foldC s = BK (sP s) UB (0, 0) := by
  unfold foldC
  cases e : okW s with
  | false => rfl
  | true => exact (fold_ok e).symm
def yV (N : Nat) (qW : List Tok) (F : List iw) (Av : Int) (CF : (List Tok × Int × Bool × Int) → Option (List Tok × fJ)) (x29 : Str) (Lg : Bool) (y31 : Int) : Option (List Tok × fJ) :=
  (foldC x29).bind fun Ri => (Iz N x29 qW F y31 Av CF Lg) Ri
theorem M5 : @yV = @xG := by
  funext a b c d e f g h
  unfold yV xG
  rw [foldC_eq]
def Cc (N : Nat) (W : List Str) (F : List iw) (s : List Tok × Int × Bool × Int) (CF : List Tok × Int × Bool × Int → Option (List Tok × fJ)) : Option (List Tok × fJ) :=
  match s with | (qW, Av, KH, y20) => bif (decide ((0 : Int) < Av) && KH) then bif decide (((W.length : Int) : Int) ≤ y20) then yV N qW F Av CF [] false y20 else ib (jV (y20 + 1)) (ib (jV ((y20 + 1) - 1)) ((idx W ((y20 + 1) - 1)).bind fun x103 => yV N qW F Av CF x103 KH (y20 + 1))) else some (qW, (⟨y20, KH⟩ : fJ))
theorem M6 : @Cc = @xH := by
  unfold Cc xH
  rw [M5]
def IZ (N : Nat) (sx : fJ) (W : List Str) (F : List iw) : Option (List Tok × fJ) :=
  again (Cc N W F) N ([], 1, sx.ok, sx.at_)
theorem OZ : @IZ = @IA := by
  unfold IZ IA
  rw [M6]
def yX (N : Nat) (F0 : fJ → List Str → List iw → Int → Option (List bR × fJ)) (pV : Int) (W : List Str) (F : List iw) (a : Int) (oD : List bR) (Aw : Int) (pg : (List bR × Int × Bool) → Option (List bR × fJ)) (TH : Int) (KZ : Bool) (rY : List Tok) : Option (List bR × fJ) :=
  bif decide (((pV + 1) : Int) = 2) then (IZ N (⟨TH, KZ⟩ : fJ) W F).bind fun BZ => xI F0 pV a W F oD Aw rY pg BZ.2.at_ BZ.2.ok BZ.1 else xI F0 pV a W F oD Aw rY pg TH KZ []
theorem M7 : @yX = @xJ := by
  unfold yX xJ
  rw [OZ]
def wm (N : Nat) (F0 : fJ → List Str → List iw → Int → Option (List bR × fJ)) (pV : Int) (W : List Str) (F : List iw) (a : Int) (oD : List bR) (pg : (List bR × Int × Bool) → Option (List bR × fJ)) (AU : Int) (DN : Bool) (Aw : Int) : Option (List bR × fJ) :=
  bif decide (((pV + 1) : Int) ≠ 4) then (IZ N (⟨AU, DN⟩ : fJ) W F).bind fun y95 => yX N F0 pV W F a oD Aw pg y95.2.at_ y95.2.ok y95.1 else yX N F0 pV W F a oD Aw pg AU DN []
theorem M8 : @wm = @vE := by
  unfold wm vE
  rw [OZ, M7]
def yY (N : Nat) (F0 : fJ → List Str → List iw → Int → Option (List bR × fJ)) (oD : List bR) (W : List Str) (F : List iw) (a : Int) (pg : (List bR × Int × Bool) → Option (List bR × fJ)) (x27 : Str) (y28 : Int) (y29 : Bool) : Option (List bR × fJ) :=
  bif decide ((x27 : Str) = [125]) then some (oD, (⟨y28, y29⟩ : fJ)) else (Im [115, 101, 116, 32, 112, 117, 116, 32, 115, 97, 121, 32, 112, 97, 117, 115, 101, 32, 103, 111, 32, 105, 102, 32, 119, 104, 105, 108, 101, 32, 114, 101, 116, 117, 114, 110]).bind fun y31 => (slices_Index_string y31 x27).bind fun pV => ib (jV (pV + 1)) (bif (!(y29 && decide ((0 : Int) < (pV + 1)))) then some ([], (⟨y28, (y29 && decide ((0 : Int) < (pV + 1)))⟩ : fJ)) else bif decide (((pV + 1) : Int) ≤ 2) then bif decide (((W.length : Int) : Int) ≤ y28) then (EF []).bind fun y104 => wm N F0 pV W F a oD pg y28 false y104.1 else ib (jV (y28 + 1)) (ib (jV ((y28 + 1) - 1)) ((idx W ((y28 + 1) - 1)).bind fun K3 => (EF K3).bind fun TI => wm N F0 pV W F a oD pg (y28 + 1) (y29 && decide ((0 : Int) < (pV + 1))) TI.1)) else wm N F0 pV W F a oD pg y28 (y29 && decide ((0 : Int) < (pV + 1))) 0)
theorem M9 : @yY = @xK := by
  unfold yY xK
  rw [M8]
def Ce (N : Nat) (F0 : fJ → List Str → List iw → Int → Option (List bR × fJ)) (W : List Str) (F : List iw) (a : Int) (s : List bR × Int × Bool) (pg : List bR × Int × Bool → Option (List bR × fJ)) : Option (List bR × fJ) :=
  match s with | (oD, Ex, F8) => bif F8 then bif decide (((W.length : Int) : Int) ≤ Ex) then yY N F0 oD W F a pg [] Ex false else ib (jV (Ex + 1)) (ib (jV ((Ex + 1) - 1)) ((idx W ((Ex + 1) - 1)).bind fun Mm => yY N F0 oD W F a pg Mm (Ex + 1) F8)) else some ([], (⟨Ex, F8⟩ : fJ))
theorem Na : @Ce = @xL := by
  unfold Ce xL
  rw [M9]
def Au (N : Nat) (F0 : fJ → List Str → List iw → Int → Option (List bR × fJ)) (W : List Str) (F : List iw) (a : Int) (y1 : Int) (y2 : Bool) : Option (List bR × fJ) :=
  again (Ce N F0 W F a) N ([], y1, y2)
theorem NV : @Au = @zn := by
  unfold Au zn
  rw [Na]
def yZ (N : Nat) (F0 : fJ → List Str → List iw → Int → Option (List bR × fJ)) (W : List Str) (F : List iw) (a : Int) (Gy : Bool) (K4 : Int) (P7 : Bool) : Option (List bR × fJ) :=
  bif Gy then Au N F0 W F a K4 false else Au N F0 W F a K4 P7
theorem Nb : @yZ = @xM := by
  unfold yZ xM
  rw [NV]
def BO (N : Nat) (F0 : fJ → List Str → List iw → Int → Option (List bR × fJ)) (sx : fJ) (W : List Str) (F : List iw) (a : Int) : Option (List bR × fJ) :=
  bif decide (((W.length : Int) : Int) ≤ sx.at_) then yZ N F0 W F a true sx.at_ false else ib (jV (sx.at_ + 1)) (ib (jV ((sx.at_ + 1) - 1)) ((idx W ((sx.at_ + 1) - 1)).bind fun Rj => yZ N F0 W F a (decide ((Rj : Str) ≠ [123]) || decide ((6 : Int) < a)) (sx.at_ + 1) sx.ok))
theorem Qt : @BO = @AV := by
  unfold BO AV
  rw [Nb]
def Dp : Nat → fJ → List Str → List iw → Int → Option (List bR × fJ)
  | 0 => fun _ _ _ _ => none
  | N + 1 => BO N (Dp N)
theorem Nc : ∀ N, Dp N = zo N
  | 0 => rfl
  | N + 1 => by show BO N (Dp N) = AV N (zo N); rw [Qt, Nc N]
def kU (N : Nat) (y1 : List Str) (vU : List iw) (i101 : Int) (ou : (List iw × Int × Bool) → Option (List iw × Int)) (K5 : Int) (y112 : Bool) : Option (List iw × Int) :=
  (Dp N (⟨K5, y112⟩ : fJ) y1 vU 1).bind fun mY => (idx vU i101).bind fun Ay => ou ((vU.set (i101).toNat { Ay with body := mY.1 }), mY.2.at_, mY.2.ok)
theorem zS : @kU = @jD := by
  unfold kU jD
  rw [show @Dp = @zo from funext Nc]
def kV (N : Nat) (y1 : List Str) (vU : List iw) (i101 : Int) (ou : (List iw × Int × Bool) → Option (List iw × Int)) (Ca : Int) (P8 : Bool) : Option (List iw × Int) :=
  bif decide (((y1.length : Int) : Int) ≤ Ca) then kU N y1 vU i101 ou Ca false else ib (jV (Ca + 1)) (ib (jV ((Ca + 1) - 1)) ((idx y1 ((Ca + 1) - 1)).bind fun x128 => kU N y1 vU i101 ou (Ca + 1) P8))
theorem zT : @kV = @jE := by
  unfold kV jE
  rw [zS]
def kW (N : Nat) (y1 : List Str) (vU : List iw) (i101 : Int) (ou : (List iw × Int × Bool) → Option (List iw × Int)) (tQ : Int) (P9 : Bool) : Option (List iw × Int) :=
  bif decide (((y1.length : Int) : Int) ≤ tQ) then kV N y1 vU i101 ou tQ false else ib (jV (tQ + 1)) (ib (jV ((tQ + 1) - 1)) ((idx y1 ((tQ + 1) - 1)).bind fun rE => kV N y1 vU i101 ou (tQ + 1) P9))
theorem zU : @kW = @jF := by
  unfold kW jF
  rw [zT]
def kX (N : Nat) (y1 : List Str) (vU : List iw) (i101 : Int) (ou : (List iw × Int × Bool) → Option (List iw × Int)) (Rl : Bool) (K6 : Int) (Qa : Bool) : Option (List iw × Int) :=
  bif Rl then kW N y1 vU i101 ou K6 false else kW N y1 vU i101 ou K6 Qa
theorem zV : @kX = @jG := by
  unfold kX jG
  rw [zU]
def og (N : Nat) (y1 : List Str) (i101 : Int) (s : List iw × Int × Bool) (ou : List iw × Int × Bool → Option (List iw × Int)) : Option (List iw × Int) :=
  match s with | (vU, y98, y99) => bif decide (((y1.length : Int) : Int) ≤ y98) then kX N y1 vU i101 ou true y98 false else ib (jV (y98 + 1)) (ib (jV ((y98 + 1) - 1)) ((idx y1 ((y98 + 1) - 1)).bind fun x152 => kX N y1 vU i101 ou (decide ((x152 : Str) ≠ [102, 117, 110])) (y98 + 1) y99))
theorem zW : @og = @jH := by
  unfold og jH
  rw [zV]
def oh (N : Nat) (y1 : List Str) (a : Str) (yt : List iw) (s : Unit) : Option (List iw × Int) :=
  upto (og N y1) (lC N y1 a) 0 ((yt.length : Int)).toNat (yt, 0, true)
theorem zX : @oh = @jI := by
  unfold oh jI
  rw [zW]
def om (N : Nat) (y1 : List Str) (a : Str) (yt : List iw) : Option (List iw × Int) :=
  bif (decide (((yt.length : Int) : Int) = 0) || decide ((4 : Int) < (yt.length : Int))) then some ([], 1) else upto (lD yt) (oh N y1 a yt) 0 ((yt.length : Int)).toNat ()
theorem zY : @om = @jJ := by
  unfold om jJ
  rw [zX]
def rR (N : Nat) (a : Str) : Option (List iw × Int) :=
  (Px a [32]).bind fun y1 => dW (lF y1) (om N y1 a) 0 y1 []
theorem Cf : @rR = @nU := by
  unfold rR nU
  rw [zY]
def vo (N : Nat) : Option (List iw) :=
  (rR N [102, 117, 110, 32, 48, 32, 49, 32, 123, 32, 115, 101, 116, 32, 48, 32, 51, 32, 119, 104, 105, 108, 101, 32, 118, 48, 32, 123, 32, 115, 97, 121, 32, 102, 49, 32, 118, 48, 32, 118, 48, 32, 103, 111, 32, 118, 48, 32, 112, 97, 117, 115, 101, 32, 115, 101, 116, 32, 48, 32, 45, 32, 118, 48, 32, 49, 32, 125, 32, 125, 32, 102, 117, 110, 32, 50, 32, 50, 32, 123, 32, 114, 101, 116, 117, 114, 110, 32, 42, 32, 118, 48, 32, 118, 49, 32, 125]).bind fun y1 => some y1.1
theorem Et : @vo = @nH := by
  unfold vo nH
  rw [Cf]
abbrev NN : Nat := 70000
theorem XN : nH NN = vo NN := by rw [Et]
end
end Go.Proofs.YtfclkapelkhlpaaGreatDoor
namespace Go.Proofs.YtfclkapelkhlpaaGreatDoor
open Go Go.Proofs Go.LX
theorem eqInt (a b : List Int) : slices_Equal_int a b = some (decide (a = b)) := by
  unfold slices_Equal_int
  by_cases h : a.length = b.length
  · rw [dF (by omega)]
    simp only [cond_false, Int.toNat_natCast]
    rw [Jg (fun x y => decide (x = y)) a b h rfl (fun i x y nx h1 h2 => by
      unfold q8
      rw [pM, pM, h1, h2]
      by_cases e : x = y <;> simp [e]), FE (fun _ _ => rfl)]
  · rw [dT (by omega)]
    have : a ≠ b := fun e => h (by rw [e])
    rw [dF this]; rfl
theorem xV (a b : Int) : (decide (0 ≤ a) && decide (a < b)) = aJ a b := rfl
theorem Vv (a b c : Int) : (decide (b ≤ a) && decide (a ≤ c)) = aN a b c := rfl
theorem BP (a : Int) : dU a = aN a (-1000000000) 1000000000 := rfl
theorem mg (a b : Int) : (decide (a < 0) || decide (b ≤ a)) = !aJ a b := by
  unfold aJ; rw [Bool.eq_iff_iff]; simp; try omega
theorem xW (a : Int) : aJ a 4 = aN a 0 3 := by
  unfold aJ aN; rw [Bool.eq_iff_iff]; simp; omega
theorem Ec {α : Type} (x : α) (l : List α) : idx (x :: l) 0 = some x := by simp [idx]
theorem BQ {α : Type} (x y : α) (l : List α) : idx (x :: y :: l) 1 = some y := by simp [idx]
theorem I1 {α : Type} (x y z : α) (l : List α) : idx (x :: y :: z :: l) 2 = some z := by simp [idx]
theorem O0 (op a b c : Int) (x : bL) (n : Int) (hn : n = x.regs) (full : List Int) (h : op = 7) : ∀ l : List Int, each (kZ n) ow l () = each (iE ⟨op, a, b, c, full⟩ x) bO l ()
  | [] => rfl
  | y :: l => by
    subst hn h
    have e1 : each (kZ x.regs) ow (y :: l) () = bif (!aJ y x.regs) then some 3 else each (kZ x.regs) ow l () := rfl
    have e2 : each (iE ⟨7, a, b, c, full⟩ x) bO (y :: l) () = bif (!aJ y x.regs) then some 3 else each (iE ⟨7, a, b, c, full⟩ x) bO l () := rfl
    rw [e1, e2, O0 7 a b c x x.regs rfl full rfl l]
theorem Qu {l : List Int} : l.length = 1 ↔ ∃ x, l = [x] := by
  match l with
  | [] => simp
  | [x] => simp
  | x :: y :: r => simp
set_option maxHeartbeats 2000000 in
theorem ins_eq (c : Ins) (i : Int) (x : bL) (ps : List bL) : eF c i ps x.regs (x.code.length : Int) = dI c x ps := by
  obtain ⟨op, a, b, c, args⟩ := c
  by_cases h1 : op = 1
  · subst h1
    simp [eF, bJ, dz, dJ, dM, dE, bN, dB, cu, bZ, bU, dI, df, dh, bD, cz, cK, cZ, cO, lk, dW, Ec, BQ, I1, xV, Vv, mg, BP, xW]
    cases ha : aJ a x.regs <;> cases hf : aN b (-1000000000) 1000000000 <;> by_cases zc : c = 0 <;> by_cases Gr : args = [] <;> simp_all [each, bO]
  by_cases h2 : op = 2
  · subst h2
    simp [eF, bJ, dz, dJ, dM, dE, bN, dB, cu, bZ, bU, dI, df, dh, bD, cz, cK, cZ, cO, lk, dW, Ec, BQ, I1, xV, Vv, mg, BP, xW]
    cases ha : aJ a x.regs <;> cases hb : aJ b x.regs <;> by_cases zc : c = 0 <;> by_cases Gr : args = [] <;> simp_all [each, bO]
  by_cases h3 : op = 3
  · subst h3
    simp [eF, bJ, dz, dJ, dM, dE, bN, dB, cu, bZ, bU, dI, df, dh, bD, cz, cK, cZ, cO, lk, dW, Ec, BQ, I1, xV, Vv, mg, BP, xW]
    cases ha : aJ a x.regs <;> cases hb : aJ b x.regs <;> cases hc : aJ c x.regs <;> simp_all [each, bO]
    by_cases e : args.length = 1
    · obtain ⟨y, rfl⟩ := Qu.1 e
      cases hy : aN y 1 5 <;> simp_all [eF, bJ, dz, dJ, dM, dE, bN, dB, cu, bZ, bU, dI, df, dh, bD, cz, cK, cZ, cO, lk, dW, Ec, BQ, I1, xV, Vv, mg, BP, xW, each, iE, bO]
    · rw [dF (show ¬ ((args.length : Int) = 1) by omega)]; rfl
  by_cases h4 : op = 4
  · subst h4
    simp [eF, bJ, dz, dJ, dM, dE, bN, dB, cu, bZ, bU, dI, df, dh, bD, cz, cK, cZ, cO, lk, dW, Ec, BQ, I1, xV, Vv, mg, BP, xW]
    cases ha : aJ a x.regs <;> cases hb : aJ b x.regs <;> cases hf : aN c 0 3 <;> by_cases Gr : args = [] <;> simp_all [each, bO]
  by_cases h5 : op = 5
  · subst h5
    simp [eF, bJ, dz, dJ, dM, dE, bN, dB, cu, bZ, bU, dI, df, dh, bD, cz, cK, cZ, cO, lk, dW, Ec, BQ, I1, xV, Vv, mg, BP, xW]
    cases ha : aJ a x.regs <;> cases hf : aN b 1 4 <;> by_cases zc : c = 0 <;> by_cases Gr : args = [] <;> simp_all [each, bO]
  by_cases h6 : op = 6
  · subst h6
    simp [eF, bJ, dz, dJ, dM, dE, bN, dB, cu, bZ, bU, dI, df, dh, bD, cz, cK, cZ, cO, lk, dW, Ec, BQ, I1, xV, Vv, mg, BP, xW]
    cases ha : aJ a x.regs <;> cases hb : aJ b x.regs <;> by_cases zc : c = 0 <;> by_cases Gr : args = [] <;> simp_all [each, bO]
  by_cases h7 : op = 7
  · subst h7
    simp [eF, bJ, dz, dJ, dM, dE, bN, dB, cu, bZ, bU, dI, df, dh, bD, cz, cK, cZ, cO, lk, dW, Ec, BQ, I1, xV, Vv, mg, BP, xW]
    cases ha : aJ a x.regs <;> cases hf : aJ b (ps.length : Int) <;> simp_all [each, bO]
    cases hp : idx ps b with
    | none => rfl
    | some y =>
      by_cases zc : c = 0 <;> by_cases za : (args.length : Int) = y.params <;> simp_all
      exact O0 7 a b 0 x x.regs rfl args rfl args
  by_cases h8 : op = 8
  · subst h8
    simp [eF, bJ, dz, dJ, dM, dE, bN, dB, cu, bZ, bU, dI, df, dh, bD, cz, cK, cZ, cO, lk, dW, Ec, BQ, I1, xV, Vv, mg, BP, xW]
    cases ha : aJ a x.regs <;> by_cases zb : b = 0 <;> by_cases zc : c = 0 <;> by_cases Gr : args = [] <;> simp_all [each, bO]
  by_cases h9 : op = 9
  · subst h9
    simp [eF, bJ, dz, dJ, dM, dE, bN, dB, cu, bZ, bU, dI, df, dh, bD, cz, cK, cZ, cO, lk, dW, Ec, BQ, I1, xV, Vv, mg, BP, xW]
    cases ha : aJ a x.regs <;> by_cases zb : b = 0 <;> by_cases zc : c = 0 <;> by_cases Gr : args = [] <;> simp_all [each, bO]
  by_cases h10 : op = 10
  · subst h10
    simp [eF, bJ, dz, dJ, dM, dE, bN, dB, cu, bZ, bU, dI, df, dh, bD, cz, cK, cZ, cO, lk, dW, Ec, BQ, I1, xV, Vv, mg, BP, xW]
    by_cases za : a = 0 <;> by_cases zb : b = 0 <;> by_cases zc : c = 0 <;> by_cases Gr : args = [] <;> simp_all [each, bO]
  by_cases h11 : op = 11
  · subst h11
    simp [eF, bJ, dz, dJ, dM, dE, bN, dB, cu, bZ, bU, dI, df, dh, bD, cz, cK, cZ, cO, lk, dW, Ec, BQ, I1, xV, Vv, mg, BP, xW]
    cases ha : aJ a x.regs <;> by_cases zb : b = 0 <;> by_cases zc : c = 0 <;> by_cases Gr : args = [] <;> simp_all [each, bO]
  by_cases h12 : op = 12
  · subst h12
    simp [eF, bJ, dz, dJ, dM, dE, bN, dB, cu, bZ, bU, dI, df, dh, bD, cz, cK, cZ, cO, lk, dW, Ec, BQ, I1, xV, Vv, mg, BP, xW]
    by_cases za : a = 0 <;> cases hf : aJ b (x.code.length : Int) <;> by_cases zc : c = 0 <;> by_cases Gr : args = [] <;> simp_all [each, bO]
  by_cases h13 : op = 13
  · subst h13
    simp [eF, bJ, dz, dJ, dM, dE, bN, dB, cu, bZ, bU, dI, df, dh, bD, cz, cK, cZ, cO, lk, dW, Ec, BQ, I1, xV, Vv, mg, BP, xW]
    cases ha : aJ a x.regs <;> cases hf : aJ b (x.code.length : Int) <;> by_cases zc : c = 0 <;> by_cases Gr : args = [] <;> simp_all [each, bO]
  · simp [eF, bJ, dz, dJ, dM, dI, lk, *]
def xX (i : Nat) (x : bL) : Int :=
  if (0 ≤ x.params ∧ x.params ≤ 3) ∧ (1 ≤ x.regs ∧ x.params ≤ x.regs ∧ x.regs ≤ 40) ∧ ¬ (i = 0 ∧ x.params ≠ 0) then (if 1 ≤ x.code.length ∧ x.code.length ≤ 2000 then 0 else 2) else 3
theorem b39_eq (i : Nat) (x : bL) (nx : Unit → Option Int) : jK (i : Int) x () nx = if xX i x ≠ 0 then some (xX i x) else nx () := by
  unfold jK xX
  by_cases h1 : (0 ≤ x.params ∧ x.params ≤ 3) ∧ (1 ≤ x.regs ∧ x.params ≤ x.regs ∧ x.regs ≤ 40) ∧ ¬ (i = 0 ∧ x.params ≠ 0)
  · have e : (((((decide ((x.params : Int) < 0) || decide ((3 : Int) < x.params)) || decide ((x.regs : Int) < 1)) || decide ((x.regs : Int) < x.params)) || decide ((40 : Int) < x.regs)) || (decide ((i : Int) = 0) && decide ((0 : Int) < x.params))) = false := by
      simp only [Bool.or_eq_false_iff, Bool.and_eq_false_iff, decide_eq_false_iff_not]; omega
    rw [e, if_pos h1]
    simp only [cond_false]
    by_cases h2 : 1 ≤ x.code.length ∧ x.code.length ≤ 2000
    · rw [if_pos h2, show (decide (((x.code.length : Int) : Int) = 0) || decide ((2000 : Int) < (x.code.length : Int))) = false by simp only [Bool.or_eq_false_iff, decide_eq_false_iff_not]; omega]
      rfl
    · rw [if_neg h2, show (decide (((x.code.length : Int) : Int) = 0) || decide ((2000 : Int) < (x.code.length : Int))) = true by simp only [Bool.or_eq_true, decide_eq_true_eq]; omega]
      rfl
  · have e : (((((decide ((x.params : Int) < 0) || decide ((3 : Int) < x.params)) || decide ((x.regs : Int) < 1)) || decide ((x.regs : Int) < x.params)) || decide ((40 : Int) < x.regs)) || (decide ((i : Int) = 0) && decide ((0 : Int) < x.params))) = true := by
      simp only [Bool.or_eq_true, Bool.and_eq_true, decide_eq_true_eq]; omega
    rw [e, if_neg h1]
    rfl
theorem r39_eq (i : Nat) (x : bL) (nx : Unit → Option Int) : fF (i : Int) x () nx = if xX i x ≠ 0 then some (xX i x) else nx () := by
  unfold fF xX aN
  by_cases h1 : (0 ≤ x.params ∧ x.params ≤ 3) ∧ (1 ≤ x.regs ∧ x.params ≤ x.regs ∧ x.regs ≤ 40) ∧ ¬ (i = 0 ∧ x.params ≠ 0)
  · have e : (((!(decide ((0 : Int) ≤ x.params) && decide (x.params ≤ (3 : Int)))) || (!(decide (max 1 x.params ≤ x.regs) && decide (x.regs ≤ (40 : Int))))) || (decide ((i : Int) = 0) && decide ((x.params : Int) ≠ 0))) = false := by
      simp only [Bool.or_eq_false_iff, Bool.and_eq_false_iff, Bool.not_eq_false', Bool.and_eq_true, decide_eq_true_eq, decide_eq_false_iff_not]; omega
    rw [e, if_pos h1]
    simp only [cond_false]
    by_cases h2 : 1 ≤ x.code.length ∧ x.code.length ≤ 2000
    · rw [if_pos h2, show (!(decide ((1 : Int) ≤ (x.code.length : Int)) && decide ((x.code.length : Int) ≤ (2000 : Int)))) = false by simp only [Bool.not_eq_false', Bool.and_eq_true, decide_eq_true_eq]; omega]
      rfl
    · rw [if_neg h2, show (!(decide ((1 : Int) ≤ (x.code.length : Int)) && decide ((x.code.length : Int) ≤ (2000 : Int)))) = true by simp only [Bool.not_eq_true', Bool.and_eq_false_iff, decide_eq_false_iff_not]; omega]
      rfl
  · have e : (((!(decide ((0 : Int) ≤ x.params) && decide (x.params ≤ (3 : Int)))) || (!(decide (max 1 x.params ≤ x.regs) && decide (x.regs ≤ (40 : Int))))) || (decide ((i : Int) = 0) && decide ((x.params : Int) ≠ 0))) = true := by
      simp only [Bool.or_eq_true, Bool.and_eq_true, Bool.not_eq_true', Bool.and_eq_false_iff, decide_eq_true_eq, decide_eq_false_iff_not]; omega
    rw [e, if_neg h1]
    rfl
def heads : Nat → List bL → Int
  | _, [] => 0
  | i, x :: p => if xX i x ≠ 0 then xX i x else heads (i + 1) p
theorem I4 (k : Unit → Option Int) : ∀ (p : List bL) (i : Nat), dW jK k (i : Int) p () = if heads i p ≠ 0 then some (heads i p) else k ()
  | [], i => by simp [heads, dW]
  | x :: p, i => by
    show jK (i : Int) x () (dW jK k ((i : Int) + 1) p) = _
    rw [b39_eq, show ((i : Int) + 1) = ((i + 1 : Nat) : Int) by omega, I4 k p (i + 1), heads]
    by_cases h : xX i x = 0 <;> simp [h]
theorem O1 (k : Unit → Option Int) : ∀ (p : List bL) (i : Nat), dW fF k (i : Int) p () = if heads i p ≠ 0 then some (heads i p) else k ()
  | [], i => by simp [heads, dW]
  | x :: p, i => by
    show fF (i : Int) x () (dW fF k ((i : Int) + 1) p) = _
    rw [r39_eq, show ((i : Int) + 1) = ((i + 1 : Nat) : Int) by omega, O1 k p (i + 1), heads]
    by_cases h : xX i x = 0 <;> simp [h]
theorem b35_eq (a : List bL) (x : bL) (i : Int) (c : Ins) (nx : Unit → Option Int) : fo a x i c () nx = eX x a c () nx := by
  unfold fo eX
  rw [ins_eq]
theorem Nf (a : List bL) (x : bL) (k : Unit → Option Int) : ∀ (l : List Ins) (i : Int), dW (fo a x) k i l () = each (eX x a) k l ()
  | [], i => rfl
  | c :: l, i => by
    have ih : dW (fo a x) k (i + 1) l = each (eX x a) k l := by funext u; exact Nf a x k l (i + 1)
    have e1 : dW (fo a x) k i (c :: l) () = fo a x i c () (dW (fo a x) k (i + 1) l) := rfl
    have e2 : each (eX x a) k (c :: l) () = eX x a c () (each (eX x a) k l) := rfl
    rw [e1, e2, b35_eq, ih]
theorem b37_eq (a : List bL) (x : bL) (nx : Unit → Option Int) : gP a x () nx = eY a x () nx := by
  unfold gP eY
  rw [Nf]
  rfl
theorem check_eq (a : List bL) : qR a = l9 a := by
  unfold qR l9
  have e : (decide (((a.length : Int) : Int) = 0) || decide ((4 : Int) < (a.length : Int))) = !(aN (a.length : Int) 1 4) := by
    unfold aN; rw [Bool.eq_iff_iff]; simp only [Bool.or_eq_true, Bool.not_eq_true', Bool.and_eq_false_iff, decide_eq_true_eq, decide_eq_false_iff_not]; omega
  rw [e]
  have k1 : ∀ l : List bL, each (gP a) ku l () = each (eY a) iq l () := by
    intro l
    induction l with
    | nil => rfl
    | cons x l ih =>
      have e1 : each (gP a) ku (x :: l) () = gP a x () (each (gP a) ku l) := rfl
      have e2 : each (eY a) iq (x :: l) () = eY a x () (each (eY a) iq l) := rfl
      have : (each (gP a) ku l) = (each (eY a) iq l) := by funext u; exact ih
      rw [e1, e2, b37_eq, this]
  have h1 := I4 (kv a) a 0
  have h2 := O1 (iZ a) a 0
  have h1' : dW jK (kv a) 0 a () = _ := h1
  have h2' : dW fF (iZ a) 0 a () = _ := h2
  have k2 : kv a () = iZ a () := k1 a
  rw [h1', h2', k2]
end Go.Proofs.YtfclkapelkhlpaaGreatDoor
namespace Go.Proofs.YtfclkapelkhlpaaGreatDoor
open Go Go.Proofs Go.LX
def tH (x : bL) : Prop := 1 ≤ x.code.length ∧ x.code.length ≤ 2000
theorem dV {α σ ρ : Type} {body : α → σ → (σ → ρ) → ρ} {k : σ → ρ} (x : α) (l : List α) (s : σ) : each body k (x :: l) s = body x s (each body k l) := rfl
theorem fQ {α σ ρ : Type} {body : α → σ → (σ → ρ) → ρ} {k : σ → ρ} (s : σ) : each body k [] s = k s := rfl
theorem b8_tot (d : Int) : ∀ l : List Int, ∃ y, each (kZ d) ow l () = some y
  | [] => ⟨0, rfl⟩
  | x :: l => by
    obtain ⟨y, hy⟩ := b8_tot d l
    rw [dV]
    unfold kZ
    cases (!(decide ((0 : Int) ≤ x) && decide ((x : Int) < d))) with
    | true => exact ⟨3, rfl⟩
    | false => exact ⟨y, hy⟩
theorem j5_tot (x9 : Bool) (a : Ins) (b Lj : Int) (c : List bL) (y13 Ac d X7 : Int) : ∃ y, dB x9 a b Lj c y13 Ac d X7 = some y ∧ (y = 0 → (a.args.length : Int) = Ac) := by
  unfold dB
  cases x9 with
  | false => exact ⟨3, rfl, fun h => absurd h (by decide)⟩
  | true =>
    simp only [Bool.not_true, cond_false]
    generalize hc : (((decide ((a.a : Int) ≠ X7) || decide ((a.b : Int) ≠ Lj)) || decide ((a.c : Int) ≠ y13)) || decide (((a.args.length : Int) : Int) ≠ Ac)) = C
    cases C with
    | true => exact ⟨4, rfl, fun h => absurd h (by decide)⟩
    | false =>
      simp only [Bool.or_eq_false_iff, decide_eq_false_iff_not, Decidable.not_not] at hc
      simp only [cond_false]
      cases decide ((a.op : Int) = 7) with
      | true => obtain ⟨y, hy⟩ := b8_tot d a.args; exact ⟨y, hy, fun _ => hc.2⟩
      | false => exact ⟨0, rfl, fun _ => hc.2⟩
theorem j4_tot (a : Ins) (b : Int) (c : List bL) (d : Int) (x9 : Bool) (Ac Wy Lj y13 : Int) : ∃ y, bN a b c d x9 Ac Wy Lj y13 = some y ∧ (y = 0 → (a.args.length : Int) = Ac) := by
  unfold bN
  cases decide ((a.op : Int) = 12) with
  | true => exact j5_tot x9 a b Lj c y13 Ac d 0
  | false => exact j5_tot x9 a b Lj c y13 Ac d Wy
def Qv (a : Ins) (r : Option Int) : Prop := ∃ y, r = some y ∧ (y = 0 → a.args.length ≤ 3)
theorem NW (a : Ins) (b : Int) (c : List bL) (d : Int) (x9 : Bool) {Ac : Int} (Wy Lj y13 : Int) (h : Ac ≤ 3) : Qv a (bN a b c d x9 Ac Wy Lj y13) := by
  obtain ⟨y, h1, h2⟩ := j4_tot a b c d x9 Ac Wy Lj y13
  exact ⟨y, h1, fun h0 => by have := h2 h0; omega⟩
theorem tT {a : Ins} {c : Bool} {x y : Option Int} (h1 : Qv a x) (h2 : Qv a y) : Qv a (bif c then x else y) := by
  cases c
  · exact h2
  · exact h1
theorem Ng {a : Ins} {e : Int} (h : e ≠ 0) : Qv a (some e) := ⟨e, rfl, fun h0 => absurd h0 h⟩
theorem XO (a : Ins) (b : Int) (c : List bL) (d e : Int) (hp : ∀ x ∈ c, x.params ≤ 3) : Qv a (eF a b c d e) := by
  unfold eF
  refine tT (Ng (by decide)) (tT (Ng (by decide)) (tT (NW _ _ _ _ _ _ _ _ (by decide)) (tT (NW _ _ _ _ _ _ _ _ (by decide)) ?_)))
  have k12 : ∀ x, Qv a (bU a b c d x) := fun x => by
    unfold bU
    exact tT (NW _ _ _ _ _ _ _ _ (by decide)) (tT (NW _ _ _ _ _ _ _ _ (by decide)) (NW _ _ _ _ _ _ _ _ (by decide)))
  have k11 : ∀ x, Qv a (bZ a b c d e x) := fun x => by
    unfold bZ
    refine tT (NW _ _ _ _ _ _ _ _ (by decide)) ?_
    cases decide ((a.op : Int) = 7) with
    | false =>
      rw [cond_false]
      exact tT (k12 _) (tT (k12 _) (k12 _))
    | true =>
      simp only [cond_true]
      rw [mg]
      cases hb : aJ a.b (c.length : Int) with
      | false => exact Ng (by decide)
      | true =>
        simp only [Bool.not_true, cond_false]
        unfold aJ at hb
        simp only [Bool.and_eq_true, decide_eq_true_eq] at hb
        obtain ⟨n, hn⟩ := Int.eq_ofNat_of_zero_le hb.1
        rw [hn, xw (by omega), Option.bind_some]
        exact NW _ _ _ _ _ _ _ _ (hp _ (List.getElem_mem _))
  have k10 : ∀ x, Qv a (cu a b c d e x) := fun x => by
    unfold cu
    refine tT (NW _ _ _ _ _ _ _ _ (by decide)) ?_
    cases decide ((a.op : Int) = 3) with
    | false =>
      rw [cond_false]
      exact tT (k11 _) (k11 _)
    | true =>
      simp only [cond_true]
      by_cases h1 : a.args.length = 1
      · rw [dT (show ((a.args.length : Int) : Int) = 1 by omega)]
        obtain ⟨y, hy⟩ := Qu.1 h1
        simp only [cond_true]
        rw [show idx a.args 0 = some y by rw [hy, Ec], Option.bind_some]
        exact NW _ _ _ _ _ _ _ _ (by decide)
      · rw [dF (show ¬ ((a.args.length : Int) : Int) = 1 by omega)]
        exact NW _ _ _ _ _ _ _ _ (by decide)
  exact tT (k10 _) (k10 _)
def Good (a : List bL) : Prop := a.length ≤ 4 ∧ ∀ x ∈ a, tH x ∧ ∀ c ∈ x.code, c.args.length ≤ 3
theorem R8 {i : Nat} {x : bL} (h : xX i x = 0) : x.params ≤ 3 ∧ tH x := by
  unfold xX at h
  split at h
  · split at h
    · exact ⟨by omega, by unfold tH; omega⟩
    · cases h
  · cases h
theorem Nh : ∀ (p : List bL) (i : Nat), heads i p = 0 → ∀ x ∈ p, x.params ≤ 3 ∧ tH x
  | [], _, _, x, hx => by cases hx
  | y :: p, i, h, x, hx => by
    unfold heads at h
    split at h
    · rename_i h1; exact absurd h h1
    · rename_i h1
      rcases List.mem_cons.1 hx with rfl | hx
      · exact R8 (Decidable.not_not.1 h1)
      · exact Nh p (i + 1) h x hx
theorem Vw (a : List bL) (x : bL) (k : Unit → Option Int) (hp : ∀ x ∈ a, x.params ≤ 3) (Q : Prop) (hk : ∃ y, k () = some y ∧ (y = 0 → Q)) : ∀ (l : List Ins) (i : Int), ∃ y, dW (fo a x) k i l () = some y ∧ (y = 0 → Q ∧ ∀ c ∈ l, c.args.length ≤ 3)
  | [], i => by
    obtain ⟨y, h1, h2⟩ := hk
    exact ⟨y, h1, fun h => ⟨h2 h, by intro c hc; cases hc⟩⟩
  | c :: l, i => by
    obtain ⟨y, h1, h2⟩ := Vw a x k hp Q hk l (i + 1)
    have e1 : dW (fo a x) k i (c :: l) () = fo a x i c () (dW (fo a x) k (i + 1) l) := rfl
    rw [e1]
    unfold fo
    obtain ⟨z, g1, g2⟩ := XO c i a x.regs (x.code.length : Int) hp
    rw [g1, Option.bind_some]
    by_cases hz : z = 0
    · rw [dF (by omega), cond_false]
      refine ⟨y, h1, fun h => ⟨(h2 h).1, fun d hd => ?_⟩⟩
      rcases List.mem_cons.1 hd with rfl | hd
      · exact g2 hz
      · exact (h2 h).2 d hd
    · rw [dT hz, cond_true]
      exact ⟨z, rfl, fun h => absurd h hz⟩
theorem Vx (a : List bL) (hp : ∀ x ∈ a, x.params ≤ 3 ∧ tH x) : ∀ l : List bL, (∀ x ∈ l, x.params ≤ 3 ∧ tH x) → ∃ y, each (gP a) ku l () = some y ∧ (y = 0 → ∀ x ∈ l, ∀ c ∈ x.code, c.args.length ≤ 3)
  | [], _ => ⟨0, rfl, fun _ x hx => by cases hx⟩
  | x :: l, hl => by
    obtain ⟨y, h1, h2⟩ := Vx a hp l (fun z hz => hl z (List.mem_cons_of_mem _ hz))
    rw [dV]
    unfold gP
    have hx := hl x (by simp)
    obtain ⟨z, g1, g2⟩ := Vw a x (rF x (each (gP a) ku l)) (fun x hx => (hp x hx).1) (∀ x ∈ l, ∀ c ∈ x.code, c.args.length ≤ 3) (by
      unfold rF
      have h3 := hx.2
      unfold tH at h3
      rw [gI, show ((x.code.length : Int) - 1) = ((x.code.length - 1 : Nat) : Int) by omega, xw (by omega), Option.bind_some]
      cases (decide ((x.code[x.code.length - 1].op : Int) ≠ 8) && decide ((x.code[x.code.length - 1].op : Int) ≠ 12)) with
      | true => exact ⟨4, rfl, fun h => absurd h (by decide)⟩
      | false => exact ⟨y, h1, h2⟩) x.code 0
    refine ⟨z, g1, fun h => ?_⟩
    intro w hw
    rcases List.mem_cons.1 hw with rfl | hw
    · exact (g2 h).2
    · exact (g2 h).1 w hw
theorem XP (a : List bL) : ∃ y, qR a = some y ∧ (y = 0 → Good a) := by
  unfold qR
  generalize hc : (decide (((a.length : Int) : Int) = 0) || decide ((4 : Int) < (a.length : Int))) = C
  cases C with
  | true => exact ⟨2, rfl, fun h => absurd h (by decide)⟩
  | false =>
    simp only [Bool.or_eq_false_iff, decide_eq_false_iff_not] at hc
    have h1 : dW jK (kv a) 0 a () = _ := I4 (kv a) a 0
    rw [cond_false, h1]
    by_cases hz : heads 0 a = 0
    · rw [if_neg (by omega)]
      have hp := Nh a 0 hz
      obtain ⟨y, g1, g2⟩ := Vx a hp a hp
      exact ⟨y, g1, fun h => ⟨by omega, fun x hx => ⟨(hp x hx).2, g2 h x hx⟩⟩⟩
    · rw [if_pos hz]
      exact ⟨_, rfl, fun h => absurd h hz⟩
def Ni (a : List bL) : Int := (qR a).getD 0
theorem Qw (a : List bL) : qR a = some (Ni a) := by
  obtain ⟨y, h, _⟩ := XP a
  unfold Ni
  rw [h]; rfl
theorem chk_eq2 (a : List bL) : l9 a = some (Ni a) := by rw [← check_eq, Qw]
def vV (R x : Int) : Prop := 0 ≤ x ∧ x < R
def Eu (a : List bL) (R L : Int) (c : Ins) : Prop :=
  (c.op = 1 ∧ vV R c.a ∧ (-1000000000 ≤ c.b ∧ c.b ≤ 1000000000)) ∨
  (c.op = 2 ∧ vV R c.a ∧ vV R c.b) ∨
  (c.op = 3 ∧ vV R c.a ∧ vV R c.b ∧ vV R c.c ∧ ∃ n, c.args = [n] ∧ 1 ≤ n ∧ n ≤ 5) ∨
  ((c.op = 4 ∨ c.op = 6) ∧ vV R c.a ∧ vV R c.b ∧ (0 ≤ c.c ∧ c.c < 4)) ∨
  (c.op = 5 ∧ vV R c.a ∧ (1 ≤ c.b ∧ c.b ≤ 4)) ∨
  (c.op = 7 ∧ vV R c.a ∧ (∃ p, idx a c.b = some p ∧ (c.args.length : Int) = p.params) ∧ ∀ x ∈ c.args, vV R x) ∨
  ((c.op = 8 ∨ c.op = 9 ∨ c.op = 11) ∧ vV R c.a) ∨
  c.op = 10 ∨
  (c.op = 12 ∧ (0 ≤ c.b ∧ c.b < L)) ∨
  (c.op = 13 ∧ vV R c.a ∧ (0 ≤ c.b ∧ c.b < L))
theorem Vy (R : Int) : ∀ l : List Int, each (kZ R) ow l () = some 0 → ∀ x ∈ l, vV R x
  | [], _, x, hx => by cases hx
  | y :: l, h, x, hx => by
    rw [dV] at h
    unfold kZ at h
    cases e : (!(decide ((0 : Int) ≤ y) && decide ((y : Int) < R))) with
    | true => rw [e, cond_true] at h; cases h
    | false =>
      rw [e, cond_false] at h
      rcases List.mem_cons.1 hx with rfl | hx
      · simp at e; exact e
      · exact Vy R l h x hx
theorem insG_of {c : Ins} {i : Int} {a : List bL} {R L : Int} (h : eF c i a R L = some 0) : Eu a R L c := by
  obtain ⟨op, ca, cb, cc, args⟩ := c
  by_cases h1 : op = 1
  · subst h1
    simp [eF, bJ, dz, dJ, dM, dE, bN, dB, cu, bZ, bU, Bool.cond_eq_ite] at h
    simp [Eu, vV]
    (repeat (split at h; · simp at h))
    omega
  by_cases h2 : op = 2
  · subst h2
    simp [eF, bJ, dz, dJ, dM, dE, bN, dB, cu, bZ, bU, Bool.cond_eq_ite] at h
    simp [Eu, vV]
    (repeat (split at h; · simp at h))
    omega
  by_cases h3 : op = 3
  · subst h3
    simp [eF, bJ, dz, dJ, dM, dE, bN, dB, cu, bZ, bU, Bool.cond_eq_ite] at h
    simp [Eu, vV]
    by_cases hl : args.length = 1
    · obtain ⟨y, rfl⟩ := Qu.1 hl
      simp [Ec] at h
      split at h
      · simp at h
      split at h
      · simp at h
      refine ⟨by omega, by omega, by omega, y, rfl, by omega, by omega⟩
    · exfalso
      rw [if_neg (show ¬ ((args.length : Int) = 1) by omega)] at h
      split at h <;> simp at h
  by_cases h4 : op = 4
  · subst h4
    simp [eF, bJ, dz, dJ, dM, dE, bN, dB, cu, bZ, bU, Bool.cond_eq_ite] at h
    simp [Eu, vV]
    (repeat (split at h; · simp at h))
    omega
  by_cases h5 : op = 5
  · subst h5
    simp [eF, bJ, dz, dJ, dM, dE, bN, dB, cu, bZ, bU, Bool.cond_eq_ite] at h
    simp [Eu, vV]
    (repeat (split at h; · simp at h))
    omega
  by_cases h6 : op = 6
  · subst h6
    simp [eF, bJ, dz, dJ, dM, dE, bN, dB, cu, bZ, bU, Bool.cond_eq_ite] at h
    simp [Eu, vV]
    (repeat (split at h; · simp at h))
    omega
  by_cases h7 : op = 7
  · subst h7
    simp [eF, bJ, dz, dJ, dM, dE, bN, dB, cu, bZ, bU, Bool.cond_eq_ite] at h
    simp [Eu, vV]
    split at h
    · simp at h
    split at h
    · simp at h
    obtain ⟨p, hp, h⟩ := aK h
    (repeat (split at h; · simp at h))
    refine ⟨by omega, ⟨p, hp, by omega⟩, fun x hx => Vy R args h x hx⟩
  by_cases h8 : op = 8
  · subst h8
    simp [eF, bJ, dz, dJ, dM, dE, bN, dB, cu, bZ, bU, Bool.cond_eq_ite] at h
    simp [Eu, vV]
    (repeat (split at h; · simp at h))
    omega
  by_cases h9 : op = 9
  · subst h9
    simp [eF, bJ, dz, dJ, dM, dE, bN, dB, cu, bZ, bU, Bool.cond_eq_ite] at h
    simp [Eu, vV]
    (repeat (split at h; · simp at h))
    omega
  by_cases h10 : op = 10
  · subst h10
    simp [Eu, vV]
  by_cases h11 : op = 11
  · subst h11
    simp [eF, bJ, dz, dJ, dM, dE, bN, dB, cu, bZ, bU, Bool.cond_eq_ite] at h
    simp [Eu, vV]
    (repeat (split at h; · simp at h))
    omega
  by_cases h12 : op = 12
  · subst h12
    simp [eF, bJ, dz, dJ, dM, dE, bN, dB, cu, bZ, bU, Bool.cond_eq_ite] at h
    simp [Eu, vV]
    (repeat (split at h; · simp at h))
    omega
  by_cases h13 : op = 13
  · subst h13
    simp [eF, bJ, dz, dJ, dM, dE, bN, dB, cu, bZ, bU, Bool.cond_eq_ite] at h
    simp [Eu, vV]
    (repeat (split at h; · simp at h))
    omega
  · exfalso
    simp [eF, bJ, dz, dJ, dM, dE, bN, dB, cu, bZ, bU, Bool.cond_eq_ite, *] at h
structure lZ (a : List bL) : Prop where
  many : 1 ≤ a.length ∧ a.length ≤ 4
  head : ∀ (i : Nat) x, a[i]? = some x → (0 ≤ x.params ∧ x.params ≤ 3) ∧ (1 ≤ x.regs ∧ x.params ≤ x.regs ∧ x.regs ≤ 40) ∧ ¬ (i = 0 ∧ x.params ≠ 0) ∧ tH x
  last : ∀ x ∈ a, ∃ c, idx x.code ((x.code.length : Int) - 1) = some c ∧ (c.op = 8 ∨ c.op = 12)
  ins : ∀ x ∈ a, ∀ c ∈ x.code, Eu a x.regs x.code.length c
theorem O3 : ∀ (p : List bL) (j : Nat), heads j p = 0 → ∀ (i : Nat) x, p[i]? = some x → xX (j + i) x = 0
  | [], j, _, i, x, hx => by simp at hx
  | y :: p, j, h, i, x, hx => by
    unfold heads at h
    split at h
    · rename_i h1; exact absurd h h1
    · rename_i h1
      cases i with
      | zero => simp at hx; subst hx; exact Decidable.not_not.1 h1
      | succ i => rw [show j + (i + 1) = (j + 1) + i by omega]; exact O3 p (j + 1) h i x (by simpa using hx)
theorem Vz (a : List bL) (x : bL) (k : Unit → Option Int) : ∀ (l : List Ins) (i : Int), dW (fo a x) k i l () = some 0 → k () = some 0 ∧ ∀ c ∈ l, Eu a x.regs x.code.length c
  | [], i, h => ⟨h, fun c hc => by cases hc⟩
  | y :: l, i, h => by
    have e1 : dW (fo a x) k i (y :: l) () = fo a x i y () (dW (fo a x) k (i + 1) l) := rfl
    rw [e1] at h
    unfold fo at h
    obtain ⟨z, hz, h⟩ := aK h
    by_cases z0 : z = 0
    · subst z0
      rw [dF (by simp), cond_false] at h
      obtain ⟨h1, h2⟩ := Vz a x k l (i + 1) h
      refine ⟨h1, fun c hc => ?_⟩
      rcases List.mem_cons.1 hc with rfl | hc
      · exact insG_of hz
      · exact h2 c hc
    · rw [dT z0, cond_true] at h
      exact absurd (fP h) z0
theorem VA (a : List bL) : ∀ l : List bL, each (gP a) ku l () = some 0 → ∀ x ∈ l, (∃ c, idx x.code ((x.code.length : Int) - 1) = some c ∧ (c.op = 8 ∨ c.op = 12)) ∧ ∀ c ∈ x.code, Eu a x.regs x.code.length c
  | [], _, x, hx => by cases hx
  | y :: l, h, x, hx => by
    rw [dV] at h
    unfold gP at h
    obtain ⟨h1, h2⟩ := Vz a y _ y.code 0 h
    unfold rF at h1
    obtain ⟨_, h1⟩ := bB h1
    obtain ⟨c, hc, h1⟩ := aK h1
    cases e : (decide ((c.op : Int) ≠ 8) && decide ((c.op : Int) ≠ 12)) with
    | true => rw [e, cond_true] at h1; cases h1
    | false =>
      rw [e, cond_false] at h1
      rcases List.mem_cons.1 hx with rfl | hx
      · exact ⟨⟨c, hc, by simp only [Bool.and_eq_false_iff, decide_eq_false_iff_not, Decidable.not_not] at e; exact e⟩, h2⟩
      · exact VA a l h1 x hx
theorem zN {a : List bL} (h : Ni a = 0) : lZ a := by
  have h0 := Qw a
  rw [h] at h0
  unfold qR at h0
  generalize hc : (decide (((a.length : Int) : Int) = 0) || decide ((4 : Int) < (a.length : Int))) = C at h0
  cases C with
  | true => cases h0
  | false =>
    simp only [Bool.or_eq_false_iff, decide_eq_false_iff_not] at hc
    have h1 : dW jK (kv a) 0 a () = _ := I4 (kv a) a 0
    rw [cond_false, h1] at h0
    by_cases hz : heads 0 a = 0
    · rw [if_neg (by omega)] at h0
      have hb := VA a a h0
      refine ⟨by omega, fun i x hx => ?_, fun x hx => (hb x hx).1, fun x hx => (hb x hx).2⟩
      have := O3 a 0 hz i x hx
      rw [Nat.zero_add] at this
      unfold xX at this
      split at this
      · rename_i g
        split at this
        · rename_i g2; exact ⟨g.1, g.2.1, g.2.2, g2⟩
        · cases this
      · cases this
    · rw [if_pos hz] at h0
      exact absurd (fP h0) hz
end Go.Proofs.YtfclkapelkhlpaaGreatDoor
namespace Go.Proofs.YtfclkapelkhlpaaGreatDoor
open Go Go.Proofs Go.LX
theorem ja {α σ ρ : Type} {body : Int → α → σ → (σ → ρ) → ρ} {k : σ → ρ} (i : Int) (x : α) (l : List α) (s : σ) : dW body k i (x :: l) s = body i x s (dW body k (i + 1) l) := rfl
theorem F5 {σ ρ : Type} {body : Int → σ → (σ → ρ) → ρ} {k : σ → ρ} (i : Int) (m : Nat) (s : σ) : upto body k i (m + 1) s = body i s (upto body k (i + 1) m) := rfl
theorem xY {σ β : Type} {body : σ → (σ → Option β) → Option β} {m : Nat} {s : σ} : again body (m + 1) s = body s (again body m) := rfl
def jf (n : Nat) (v : Val) : Prop := (v.kind = 0 ∧ v.n = 0) ∨ (v.kind = 1 ∧ -1000000000 ≤ v.n ∧ v.n ≤ 1000000000) ∨ (v.kind = 2 ∧ 0 ≤ v.n ∧ v.n < n)
instance (n : Nat) (v : Val) : Decidable (jf n v) := inferInstanceAs (Decidable (_ ∨ _))
theorem Fu (n : Nat) (v : Val) : dY v (n : Int) = 0 ↔ jf n v := by
  obtain ⟨k, m⟩ := v
  simp only [dY, jf, Bool.cond_eq_ite, Bool.or_eq_true, decide_eq_true_eq]
  constructor
  · intro h
    (repeat' split at h) <;> first | omega | (exfalso; omega)
  · intro h
    rcases h with ⟨h1, h2⟩ | ⟨h1, h2⟩ | ⟨h1, h2⟩
    · rw [if_pos h1, if_neg (by omega)]
    · rw [if_neg (by omega), if_pos h1, if_neg (by omega)]
    · rw [if_neg (by omega), if_neg (by omega), if_pos h1, if_neg (by omega)]
theorem R9 (v : Val) (n : Int) : fO v n = dY v n := by
  obtain ⟨k, m⟩ := v
  simp only [dY, fO, qy, aN, dU, aJ, Bool.cond_eq_ite, Bool.or_eq_true, Bool.and_eq_true, Bool.not_eq_true', decide_eq_true_eq, decide_eq_false_iff_not, Bool.and_eq_false_iff]
  (repeat' split) <;> first | rfl | (exfalso; omega)
def oo (l : List (List Val)) : Prop := l.length ≤ 24 ∧ ∀ c ∈ l, (1 ≤ c.length ∧ c.length ≤ 4) ∧ ∀ v ∈ c, jf l.length v
theorem Sa (a : List (List Val)) : nV a = fE a := by
  unfold nV fE
  have k1 : ∀ (l : List Val) (f : Unit → Int), each (lG a) (lH f) l () = each (jl a) (iT f) l () := by
    intro l f
    induction l with
    | nil => rfl
    | cons x l ih =>
      show (bif decide ((fO x (a.length : Int) : Int) ≠ 0) then fO x (a.length : Int) else each (lG a) (lH f) l ()) = (bif decide ((dY x (a.length : Int) : Int) ≠ 0) then dY x (a.length : Int) else each (jl a) (iT f) l ())
      rw [R9, ih]
  have k2 : ∀ l : List (List Val), each (lI a) lJ l () = each (j4 a) jm l () := by
    intro l
    induction l with
    | nil => rfl
    | cons x l ih =>
      show (bif (!(aN (x.length : Int) 1 4)) then 2 else each (lG a) (lH (each (lI a) lJ l)) x ()) = (bif (decide (((x.length : Int) : Int) = 0) || decide ((4 : Int) < (x.length : Int))) then 2 else each (jl a) (iT (each (j4 a) jm l)) x ())
      have e : (!(aN (x.length : Int) 1 4)) = (decide (((x.length : Int) : Int) = 0) || decide ((4 : Int) < (x.length : Int))) := by
        unfold aN; rw [Bool.eq_iff_iff]; simp only [Bool.or_eq_true, Bool.not_eq_true', Bool.and_eq_false_iff, decide_eq_true_eq, decide_eq_false_iff_not]; omega
      rw [e, k1]
      have : each (lI a) lJ l = each (j4 a) jm l := by funext u; exact ih
      rw [this]
  rw [k2]
theorem UC (a : List (List Val)) : fE a = 0 ↔ oo a := by
  have k1 : ∀ (l : List Val) (f : Unit → Int), each (jl a) (iT f) l () = 0 ↔ (∀ v ∈ l, jf a.length v) ∧ f () = 0 := by
    intro l f
    induction l with
    | nil => simp [fQ, iT]
    | cons x l ih =>
      show (bif decide ((dY x (a.length : Int) : Int) ≠ 0) then dY x (a.length : Int) else each (jl a) (iT f) l ()) = 0 ↔ _
      by_cases h : dY x (a.length : Int) = 0
      · rw [dF (by omega), cond_false, ih]
        have := (Fu _ _).1 h
        simp [this]
      · rw [dT h, cond_true]
        have h2 : ¬ jf a.length x := fun e => h ((Fu _ _).2 e)
        simp [h, h2]
  have k2 : ∀ l : List (List Val), each (j4 a) jm l () = 0 ↔ ∀ c ∈ l, (1 ≤ c.length ∧ c.length ≤ 4) ∧ ∀ v ∈ c, jf a.length v := by
    intro l
    induction l with
    | nil => simp [fQ, jm]
    | cons x l ih =>
      show (bif (decide (((x.length : Int) : Int) = 0) || decide ((4 : Int) < (x.length : Int))) then 2 else each (jl a) (iT (each (j4 a) jm l)) x ()) = 0 ↔ _
      by_cases h : 1 ≤ x.length ∧ x.length ≤ 4
      · rw [show (decide (((x.length : Int) : Int) = 0) || decide ((4 : Int) < (x.length : Int))) = false by simp only [Bool.or_eq_false_iff, decide_eq_false_iff_not]; omega, cond_false, k1, ih]
        simp [h]
      · rw [show (decide (((x.length : Int) : Int) = 0) || decide ((4 : Int) < (x.length : Int))) = true by simp only [Bool.or_eq_true, decide_eq_true_eq]; omega, cond_true]
        simp [h]
  unfold fE oo
  by_cases h : a.length ≤ 24
  · rw [dF (by omega), cond_false, k2]; simp [h]
  · rw [dT (by omega), cond_true]; simp [h]
structure Cg (a : List bL) (n : Nat) (f : LX.Frame) (x : bL) : Prop where
  proc : idx a f.proc = some x
  at_ : 0 ≤ f.at_ ∧ f.at_ < x.code.length
  regs : (f.regs.length : Int) = x.regs
  vals : ∀ v ∈ f.regs, jf n v
def lM (a : List bL) (n : Nat) : Int → List LX.Frame → Prop
  | _, [] => True
  | ahead, f :: l => (∃ x, Cg a n f x) ∧ (0 ≤ f.lW ∧ f.lW < ahead) ∧ lM a n f.regs.length l
structure vN (a : List bL) (s : LX.State) : Prop where
  status : 0 ≤ s.status ∧ s.status ≤ 3
  aL : -1000000000 ≤ s.aL ∧ s.aL ≤ 1000000000
  stay : s.status ≠ 3 → s.aL = 0
  ended : s.status = 1 ↔ s.frames = []
  many : s.frames.length ≤ 10
  cells : oo s.cells
  frames : lM a s.cells.length 1 s.frames
end Go.Proofs.YtfclkapelkhlpaaGreatDoor
namespace Go.Proofs.YtfclkapelkhlpaaGreatDoor
open Go Go.Proofs Go.LX
def ahead (pre : List LX.Frame) : Int := match pre.getLast? with | none => 1 | some f => f.regs.length
theorem O4 : ahead [] = 1 := rfl
theorem Ed (pre : List LX.Frame) (f : LX.Frame) : ahead (pre ++ [f]) = f.regs.length := by simp [ahead]
theorem Kn (b : LX.State) (f : LX.Frame) (n1 : Unit → Option Int) (n2 : Int → Option Int) (hn : n1 () = n2 f.regs.length) : ∀ l : List Val, each (qH b) (qI n1) l () = each (pI b) (pJ n2 f) l ()
  | [] => hn
  | x :: l => by
    show (bif decide ((dY x (b.cells.length : Int) : Int) ≠ 0) then some (dY x (b.cells.length : Int)) else each (qH b) (qI n1) l ()) = (bif decide ((fO x (b.cells.length : Int) : Int) ≠ 0) then some (fO x (b.cells.length : Int)) else each (pI b) (pJ n2 f) l ())
    rw [R9, Kn b f n1 n2 hn l]
theorem Sb (b : LX.State) (n1 : Unit → Option Int) (Q : Prop) (hn : ∃ y, n1 () = some y ∧ (y = 0 ↔ Q)) : ∀ l : List Val, ∃ y, each (qH b) (qI n1) l () = some y ∧ (y = 0 ↔ (∀ v ∈ l, jf b.cells.length v) ∧ Q)
  | [] => by obtain ⟨y, h1, h2⟩ := hn; exact ⟨y, h1, by simp [h2]⟩
  | x :: l => by
    obtain ⟨y, h1, h2⟩ := Sb b n1 Q hn l
    have e : each (qH b) (qI n1) (x :: l) () = (bif decide ((dY x (b.cells.length : Int) : Int) ≠ 0) then some (dY x (b.cells.length : Int)) else each (qH b) (qI n1) l ()) := rfl
    rw [e]
    by_cases h : dY x (b.cells.length : Int) = 0
    · rw [dF (by omega), cond_false]
      have := (Fu _ _).1 h
      exact ⟨y, h1, by rw [h2]; simp [this]⟩
    · rw [dT h, cond_true]
      refine ⟨_, rfl, ?_⟩
      have h3 : ¬ jf b.cells.length x := fun e => h ((Fu _ _).2 e)
      simp [h, h3]
theorem KQ (a : List bL) (b : LX.State) (hm : b.frames.length ≤ 10) : ∀ (l pre : List LX.Frame), b.frames = pre ++ l →
    dW (vH a b) xN (pre.length : Int) l () = each (gQ a b) jO l (ahead pre)
  | [], pre, h => rfl
  | f :: l, pre, h => by
    have ih := KQ a b hm l (pre ++ [f]) (by simpa using h)
    rw [Ed] at ih
    have hi : (((pre ++ [f]).length : Nat) : Int) = (pre.length : Int) + 1 := by simp
    rw [hi] at ih
    rw [ja, dV]
    generalize dW (vH a b) xN ((pre.length : Int) + 1) l = K1 at ih ⊢
    generalize each (gQ a b) jO l = K2 at ih ⊢
    unfold vH gQ
    have hl : pre.length ≤ 10 := by have := congrArg List.length h; simp at this; omega
    have e1 : (decide ((f.proc : Int) < 0) || decide (((a.length : Int) : Int) ≤ f.proc)) = !aJ f.proc (a.length : Int) := mg _ _
    rw [e1]
    cases hp : aJ f.proc (a.length : Int) with
    | false => rfl
    | true =>
      simp only [Bool.not_true, cond_false]
      cases hx : idx a f.proc with
      | none => rfl
      | some x =>
        simp only [bnd]
        cases ha : aJ f.at_ (x.code.length : Int) with
        | false =>
          rw [show (((decide ((f.at_ : Int) < 0) || decide (((x.code.length : Int) : Int) ≤ f.at_)) || decide ((f.lW : Int) < 0)) || (decide ((pre.length : Int) = 0) && decide ((f.lW : Int) ≠ 0))) = true by
            have := mg f.at_ (x.code.length : Int)
            rw [ha] at this
            rw [this]; rfl]
          rfl
        | true =>
          have h3 := mg f.at_ (x.code.length : Int)
          rw [ha] at h3
          rw [h3]
          simp only [Bool.not_true, Bool.false_or, cond_false]
          have key : ∀ t, vG f x b K1 t = iQ a f b K2 t := by
            intro t
            unfold vG iQ
            rw [hx, bnd, Kn b f _ _ ih]
          simp only [key]
          rcases List.eq_nil_or_concat pre with rfl | ⟨q, g, rfl⟩
          · rw [O4]
            by_cases ht : f.lW = 0
            · rw [show (decide ((f.lW : Int) < 0) || (decide ((([] : List LX.Frame).length : Int) = 0) && decide ((f.lW : Int) ≠ 0))) = false by simp [ht], cond_false, dF (by simp), cond_false, show (!aJ f.lW 1) = false by simp [ht, aJ]]
            · rw [show (decide ((f.lW : Int) < 0) || (decide ((([] : List LX.Frame).length : Int) = 0) && decide ((f.lW : Int) ≠ 0))) = true by simp [ht], cond_true, show (!aJ f.lW 1) = true by simp [aJ]; omega]
          · rw [List.concat_eq_append] at *
            rw [Ed]
            have hlen : ((q ++ [g]).length : Int) = (q.length : Int) + 1 := by simp
            rw [hlen, show (decide ((q.length : Int) + 1 = 0)) = false from dF (by omega), Bool.false_and, Bool.or_false]
            by_cases ht : f.lW < 0
            · rw [dT ht, cond_true, show (!aJ f.lW (g.regs.length : Int)) = true by simp [aJ]; omega]
            · rw [dF ht, cond_false, dT (by omega), cond_true, gI (by omega) (by simp at hl; omega), show (q.length : Int) + 1 - 1 = ((q.length : Nat) : Int) by omega, pM, h]
              simp only [List.append_assoc, List.getElem?_append_right (Nat.le_refl _), Nat.sub_self, List.cons_append, List.nil_append, List.getElem?_cons_zero, bnd]
              congr 1
              rw [Bool.eq_iff_iff]; simp [aJ]; omega
theorem Nj (a : List bL) (b : LX.State) : AY a b = tu a b := by
  unfold AY tu
  have e1 : (((decide ((b.status : Int) < 0) || decide ((3 : Int) < b.status)) || decide ((b.aL : Int) < -1000000000)) || decide ((1000000000 : Int) < b.aL)) = ((!(aN b.status 0 3)) || (!(dU b.aL))) := by
    unfold dU aN; rw [Bool.eq_iff_iff]; simp only [Bool.or_eq_true, Bool.not_eq_true', Bool.and_eq_false_iff, decide_eq_true_eq, decide_eq_false_iff_not]; omega
  have e2 : ((decide ((b.status : Int) ≠ 3) && decide ((b.aL : Int) ≠ 0)) || (decide ((b.status : Int) = 1) != decide (((b.frames.length : Int) : Int) = 0))) = (((decide ((b.aL : Int) ≠ 0) && decide ((b.status : Int) ≠ 3)) || (decide ((b.status : Int) = 1) && decide ((0 : Int) < (b.frames.length : Int)))) || (decide ((b.status : Int) ≠ 1) && decide (((b.frames.length : Int) : Int) = 0))) := by
    by_cases h1 : b.status = 1 <;> by_cases h2 : b.frames.length = 0 <;> by_cases h3 : b.status = 3 <;> by_cases h4 : b.aL = 0 <;> simp [h1, h2, h3, h4] <;> omega
  rw [e1, e2, Sa]
  by_cases h : b.frames.length ≤ 10
  · have := KQ a b h b.frames [] rfl
    rw [O4] at this
    rw [← this]; rfl
  · rw [show (decide ((10 : Int) < (b.frames.length : Int))) = true from dT (by omega)]
    rfl
theorem Nk (a : List bL) (b : LX.State) : ∀ (l : List LX.Frame) (t : Int), ∃ y, each (gQ a b) jO l t = some y ∧ (y = 0 ↔ lM a b.cells.length t l)
  | [], t => ⟨0, rfl, by simp [lM]⟩
  | f :: l, t => by
    obtain ⟨y, h1, h2⟩ := Nk a b l f.regs.length
    rw [dV]
    generalize each (gQ a b) jO l = K2 at h1 ⊢
    unfold gQ
    cases hp : aJ f.proc (a.length : Int) with
    | false =>
      refine ⟨5, rfl, ?_⟩
      have : ¬ lM a b.cells.length t (f :: l) := by
        rintro ⟨⟨x, g⟩, -, -⟩
        have := aB g.proc
        have h3 := (List.getElem?_eq_some_iff.1 this.2).1
        unfold aJ at hp
        simp only [Bool.and_eq_false_iff, decide_eq_false_iff_not] at hp
        omega
      simp [this]
    | true =>
      unfold aJ at hp
      simp only [Bool.and_eq_true, decide_eq_true_eq] at hp
      simp only [Bool.not_true, cond_false]
      obtain ⟨n, hn⟩ := Int.eq_ofNat_of_zero_le hp.1
      have hx : idx a f.proc = some (a[n]'(by omega)) := by rw [hn, xw (by omega)]
      generalize a[n]'(by omega) = x at hx
      rw [hx, bnd]
      have kB : ∃ y, iQ a f b K2 true = some y ∧ y ≠ 0 := ⟨3, rfl, by decide⟩
      have uniq : ∀ z, Cg a b.cells.length f z → z = x := fun z g => by have := g.proc; rw [hx] at this; exact (fP this).symm
      cases ha : aJ f.at_ (x.code.length : Int) with
      | false =>
        obtain ⟨y, g1, g2⟩ := kB
        refine ⟨y, g1, ?_⟩
        have : ¬ lM a b.cells.length t (f :: l) := by
          rintro ⟨⟨z, g⟩, -, -⟩
          have := uniq z g; subst this
          have := g.at_
          unfold aJ at ha
          simp only [Bool.and_eq_false_iff, decide_eq_false_iff_not] at ha
          omega
        simp [this, g2]
      | true =>
        simp only [Bool.not_true, cond_false]
        cases ht : aJ f.lW t with
        | false =>
          obtain ⟨y, g1, g2⟩ := kB
          refine ⟨y, g1, ?_⟩
          have : ¬ lM a b.cells.length t (f :: l) := by
            rintro ⟨⟨z, g⟩, h3, -⟩
            unfold aJ at ht
            simp only [Bool.and_eq_false_iff, decide_eq_false_iff_not] at ht
            omega
          simp [this, g2]
        | true =>
          simp only [Bool.not_true]
          unfold iQ
          rw [hx, cond_false, bnd]
          unfold aJ at ha ht
          simp only [Bool.and_eq_true, decide_eq_true_eq] at ha ht
          by_cases hr : (f.regs.length : Int) = x.regs
          · rw [dF (by omega), cond_false, ← Kn b f (fun _ => K2 f.regs.length) _ rfl]
            obtain ⟨z, g1, g2⟩ := Sb b (fun _ => K2 f.regs.length) _ ⟨y, h1, h2⟩ f.regs
            refine ⟨z, g1, g2.trans ⟨fun h => ⟨⟨x, hx, ha, hr, h.1⟩, ht, h.2⟩, ?_⟩⟩
            rintro ⟨⟨z, g⟩, h3, h4⟩
            exact ⟨g.vals, h4⟩
          · rw [dT (by omega), cond_true]
            refine ⟨4, rfl, ?_⟩
            have : ¬ lM a b.cells.length t (f :: l) := by
              rintro ⟨⟨z, g⟩, -, -⟩
              have := uniq z g; subst this
              exact hr g.regs
            simp [this]
theorem Nl (a : List bL) (b : LX.State) : ∃ y, AY a b = some y ∧ (y = 0 ↔ vN a b) := by
  rw [Nj]
  unfold tu
  cases c1 : ((!(aN b.status 0 3)) || (!(dU b.aL))) with
  | true =>
    refine ⟨3, rfl, ⟨fun h => absurd h (by decide), fun h => ?_⟩⟩
    unfold dU aN at c1
    simp only [Bool.or_eq_true, Bool.not_eq_true', Bool.and_eq_false_iff, decide_eq_false_iff_not] at c1
    have := h.status; have := h.aL; omega
  | false =>
    unfold dU aN at c1
    simp only [Bool.or_eq_false_iff, Bool.not_eq_false', Bool.and_eq_true, decide_eq_true_eq] at c1
    rw [cond_false]
    cases c2 : (((decide ((b.aL : Int) ≠ 0) && decide ((b.status : Int) ≠ 3)) || (decide ((b.status : Int) = 1) && decide ((0 : Int) < (b.frames.length : Int)))) || (decide ((b.status : Int) ≠ 1) && decide (((b.frames.length : Int) : Int) = 0))) with
    | true =>
      refine ⟨4, rfl, ⟨fun h => absurd h (by decide), fun h => ?_⟩⟩
      simp only [Bool.or_eq_true, Bool.and_eq_true, decide_eq_true_eq] at c2
      rcases c2 with (c2 | c2) | c2
      · exact absurd (h.stay c2.2) c2.1
      · have := h.ended.1 c2.1; rw [this] at c2; simp at c2
      · exact absurd (h.ended.2 (List.eq_nil_of_length_eq_zero (by omega))) c2.1
    | false =>
      simp only [Bool.or_eq_false_iff, Bool.and_eq_false_iff, decide_eq_false_iff_not] at c2
      rw [cond_false]
      by_cases hm : b.frames.length ≤ 10
      · rw [dF (by omega), cond_false, Sa]
        by_cases hc : fE b.cells = 0
        · rw [dF (by omega), cond_false]
          obtain ⟨y, h1, h2⟩ := Nk a b b.frames 1
          refine ⟨y, h1, h2.trans ⟨fun h => ⟨by omega, by omega, fun h3 => by omega, ⟨fun h3 => ?_, fun h3 => ?_⟩, hm, (UC _).1 hc, h⟩, fun h => h.frames⟩⟩
          · exact List.eq_nil_of_length_eq_zero (by omega)
          · rw [h3] at c2; simp at c2; omega
        · rw [dT hc, cond_true]
          exact ⟨_, rfl, ⟨fun h => absurd h hc, fun h => absurd ((UC _).2 h.cells) hc⟩⟩
      · rw [dT (by omega), cond_true]
        exact ⟨2, rfl, ⟨fun h => absurd h (by decide), fun h => absurd h.many hm⟩⟩
def ckS (a : List bL) (s : LX.State) : Int := (AY a s).getD 0
theorem ckS_eq (a : List bL) (s : LX.State) : AY a s = some (ckS a s) := by obtain ⟨y, h, -⟩ := Nl a s; unfold ckS; rw [h]; rfl
theorem Qx {a : List bL} {s : LX.State} : ckS a s = 0 ↔ vN a s := by obtain ⟨y, h, h2⟩ := Nl a s; unfold ckS; rw [h]; exact h2
theorem KR (a : List bL) (s : LX.State) : ER a s = some (if Ni a ≠ 0 then Ni a else ckS a s) := by
  unfold ER
  rw [Qw, bnd]
  by_cases h : Ni a = 0
  · rw [dF (by omega), cond_false, ckS_eq, bnd, if_neg (by omega)]
  · rw [dT h, cond_true, if_pos h]
end Go.Proofs.YtfclkapelkhlpaaGreatDoor
namespace Go.Proofs.YtfclkapelkhlpaaGreatDoor
open Go Go.Proofs Go.LX
theorem UD (a b : List Val) : jN a b = some (decide (a = b)) := by
  unfold jN
  by_cases h : a.length = b.length
  · rw [dF (by omega)]
    simp only [cond_false, Int.toNat_natCast]
    rw [Jg (fun x y => decide (x = y)) a b h rfl (fun i x y nx h1 h2 => by
      unfold pW
      rw [pM, pM, h1, h2]
      obtain ⟨k, n⟩ := x; obtain ⟨k2, n2⟩ := y
      by_cases e : k = k2 <;> by_cases e2 : n = n2 <;> simp [e, e2]), FE (fun _ _ => rfl)]
  · rw [dT (by omega)]
    have : a ≠ b := fun e => h (by rw [e])
    rw [dF this]; rfl
theorem VB (a b : List (List Val)) : Ke a b = some (decide (a = b)) := by
  unfold Ke
  by_cases h : a.length = b.length
  · rw [dF (by omega), cond_false, LK (fun x y => decide (x = y)) a b h rfl (fun i x y nx h2 => by
      unfold IM
      rw [pM, h2, bnd, UD, bnd]
      by_cases e : x = y <;> simp [e]), FE (fun _ _ => rfl)]
  · rw [dT (by omega)]
    have : a ≠ b := fun e => h (by rw [e])
    rw [dF this]; rfl
theorem eqCells2 (a b : List (List Val)) : pX a b = some (decide (a = b)) := by
  unfold pX
  by_cases h : a.length = b.length
  · rw [dF (by omega)]
    simp only [cond_false, Int.toNat_natCast]
    rw [Jg (fun x y => decide (x = y)) a b h rfl (fun i x y nx h1 h2 => by
      unfold mI
      rw [pM, pM, h1, h2, bnd, bnd, UD, bnd]
      by_cases e : x = y <;> simp [e]), FE (fun _ _ => rfl)]
  · rw [dT (by omega)]
    have : a ≠ b := fun e => h (by rw [e])
    rw [dF this]; rfl
theorem fr_eq (x y : LX.Frame) (nx : Unit → Option Bool) : (bif ((decide ((x.proc : Int) = y.proc) && decide ((x.at_ : Int) = y.at_)) && decide ((x.lW : Int) = y.lW)) then (jN x.regs y.regs).bind fun y39 => zJ nx (!y39) else zJ nx true) = bif decide (x = y) then nx () else some false := by
  obtain ⟨p, t, r, o⟩ := x; obtain ⟨p2, t2, r2, o2⟩ := y
  simp only [UD, bnd, zJ]
  by_cases e1 : p = p2 <;> by_cases e2 : t = t2 <;> by_cases e3 : r = r2 <;> by_cases e4 : o = o2 <;> simp [e1, e2, e3, e4]
theorem st_eq (a b : LX.State) : decide (a = b) = ((decide (a.status = b.status) && decide (a.aL = b.aL)) && (decide (a.cells = b.cells) && decide (a.frames = b.frames))) := by
  obtain ⟨f, c, s, w⟩ := a; obtain ⟨f2, c2, s2, w2⟩ := b
  rw [Bool.eq_iff_iff]; simp; constructor <;> (intro h; simp [h])
theorem eqState (a b : LX.State) : Qr a b = some (decide (a = b)) := by
  rw [st_eq]
  unfold Qr
  cases (decide ((a.status : Int) = b.status) && decide ((a.aL : Int) = b.aL)) with
  | false => rfl
  | true =>
    rw [cond_true, VB, bnd]
    cases decide (a.cells = b.cells) with
    | false => rfl
    | true =>
      rw [cond_true]
      by_cases h : a.frames.length = b.frames.length
      · rw [dF (by omega), cond_false, LK (fun x y => decide (x = y)) a.frames b.frames h rfl (fun i x y nx h2 => by
          unfold KM
          rw [pM, h2, bnd]
          exact fr_eq x y nx), FE (fun _ _ => rfl)]; rfl
      · rw [dT (by omega)]
        have : a.frames ≠ b.frames := fun e => h (by rw [e])
        rw [dF this]; rfl
theorem eqState2 (a b : LX.State) : j5 a b = some (decide (a = b)) := by
  rw [← eqState]
  unfold j5 Qr
  rw [VB, eqCells2]
  rfl
structure Small (s : LX.State) : Prop where
  frames : s.frames.length ≤ 10
  regs : ∀ f ∈ s.frames, f.regs.length ≤ 40
  cells : s.cells.length ≤ 24
  fields : ∀ c ∈ s.cells, c.length ≤ 4
theorem xZ {a : List bL} {n : Nat} : ∀ {l : List LX.Frame} {t : Int}, lM a n t l → ∀ f ∈ l, ∃ x, Cg a n f x
  | [], _, _, f, hf => by cases hf
  | g :: l, t, h, f, hf => by
    rcases List.mem_cons.1 hf with rfl | hf
    · exact h.1
    · exact xZ h.2.2 f hf
theorem lZ.mem {a : List bL} (h : lZ a) {k : Int} {x : bL} (hx : idx a k = some x) : x ∈ a ∧ (0 ≤ x.params ∧ x.params ≤ 3) ∧ (1 ≤ x.regs ∧ x.params ≤ x.regs ∧ x.regs ≤ 40) ∧ tH x := by
  have h1 := (aB hx).2
  have := h.head _ x h1
  exact ⟨List.mem_of_getElem? h1, this.1, this.2.1, this.2.2.2⟩
theorem vN.small {a : List bL} {s : LX.State} (h : vN a s) (ha : lZ a) : Small s where
  frames := h.many
  regs f hf := by
    obtain ⟨x, g⟩ := xZ h.frames f hf
    have := (ha.mem g.proc).2.2.1
    have := g.regs
    omega
  cells := h.cells.1
  fields c hc := (h.cells.2 c hc).1.2
theorem I5 {α : Type} {bytes : Nat} {a : List α} (h : a.length ≤ 400) (hb : bytes ≤ 48) : clone bytes a = some a := by
  have : a.length * bytes ≤ 400 * 48 := Nat.mul_le_mul h hb
  unfold clone
  exact oq ⟨by simp; omega, by simp; omega⟩
theorem Ko {ρ : Type} {body : Int → Unit → (Unit → ρ) → ρ} {k : Unit → ρ} : ∀ (m : Nat) (i : Nat), (∀ j : Nat, i ≤ j → j < i + m → ∀ nx, body (j : Int) () nx = nx ()) → upto body k (i : Int) m () = k ()
  | 0, i, _ => rfl
  | m + 1, i, h => by
    rw [F5, h i (Nat.le_refl _) (by omega), show ((i : Int) + 1) = ((i + 1 : Nat) : Int) by omega]
    exact Ko m (i + 1) (fun j h1 h2 => h j (by omega) (by omega))
theorem Sc {l : List (List Val)} (h : l.length ≤ 24) (hf : ∀ c ∈ l, c.length ≤ 4) : FP l = some l := by
  unfold FP
  rw [I5 (by omega) (by decide), bnd, Int.toNat_natCast]
  exact Ko (k := Ao l) l.length 0 (fun j h1 h2 nx => by
    unfold Am
    rw [xw (by omega), bnd, I5 (by have := hf _ (List.getElem_mem (by omega : j < l.length)); omega) (by decide), bnd])
theorem copy_eq {s : LX.State} (h : Small s) : D6 s = some s := by
  unfold D6
  rw [I5 (by have := h.frames; omega) (by decide), bnd, Sc h.cells h.fields, bnd]
  unfold GL
  rw [Int.toNat_natCast]
  exact Ko (k := D5 s s.cells) s.frames.length 0 (fun j h1 h2 nx => by
    unfold DZ
    rw [xw (by omega), bnd, I5 (by have := h.regs _ (List.getElem_mem (by omega : j < s.frames.length)); omega) (by decide), bnd])
theorem room_le {α : Type} {bytes : Nat} {l m : List α} (h : l.length + m.length ≤ 100000) (hb : bytes ≤ 48) : Room bytes l m := by
  have : (l.length + m.length) * bytes ≤ 100000 * 48 := Nat.mul_le_mul h hb
  exact ⟨by omega, by omega⟩
theorem O5 (fr : List LX.Frame) (s : LX.State) : ∀ (l acc : List (List Val)), (∀ c ∈ l, c.length ≤ 4) → acc.length + l.length ≤ 24 → each jq (kN fr s) l acc = some ⟨fr, acc ++ l, s.status, s.aL⟩
  | [], acc, _, _ => by simp [fQ, kN]
  | x :: l, acc, h, hl => by
    rw [dV]
    unfold jq
    have := h x (by simp)
    simp only [List.length_cons] at hl
    rw [oq (room_le (by simp; omega) (by decide)), oq (room_le (by simp; omega) (by decide))]
    have ih := O5 fr s l (acc ++ [([] : List Val) ++ x]) (fun c hc => h c (List.mem_cons_of_mem _ hc)) (by simp; omega)
    have e : jq = fun Xh vP Md => ib (Room 16 ([] : List Val) Xh) (ib (Room 24 vP [(([] : List Val) ++ Xh)]) (Md (vP ++ [(([] : List Val) ++ Xh)]))) := rfl
    rw [← e, ih]
    simp
theorem Nn (s : LX.State) (hc : s.cells.length ≤ 24 ∧ ∀ c ∈ s.cells, c.length ≤ 4) : ∀ (l acc : List LX.Frame), (∀ f ∈ l, f.regs.length ≤ 40) → acc.length + l.length ≤ 10 → each jr (jv s) l acc = some ⟨acc ++ l, s.cells, s.status, s.aL⟩
  | [], acc, _, _ => by
    rw [fQ, jv, O5 _ _ _ _ hc.2 (by simp; omega)]; simp
  | x :: l, acc, h, hl => by
    rw [dV]
    have := h x (by simp)
    simp only [List.length_cons] at hl
    have ih := Nn s hc l (acc ++ [⟨x.proc, x.at_, ([] : List Val) ++ x.regs, x.lW⟩]) (fun c hc => h c (List.mem_cons_of_mem _ hc)) (by simp; omega)
    generalize each jr (jv s) l = K at ih ⊢
    unfold jr
    rw [oq (room_le (by simp; omega) (by decide)), oq (room_le (by simp; omega) (by decide)), ih]
    simp
theorem UE {s : LX.State} (h : Small s) : kP s = some s := by
  unfold kP
  rw [Nn s ⟨h.cells, h.fields⟩ s.frames [] h.regs (by simpa using h.frames)]; simp
end Go.Proofs.YtfclkapelkhlpaaGreatDoor
namespace Go.Proofs.YtfclkapelkhlpaaGreatDoor
open Go Go.Proofs Go.LX
def H6 (l : List Int) (v : Val) : List Int := if v.kind = 2 ∧ v.n ∉ l then l ++ [v.n] else l
def H7 (l : List Int) (vs : List Val) : List Int := vs.foldl H6 l
def cellAt (cells : List (List Val)) (k : Int) : List Val := (idx cells k).getD []
def Np (cells : List (List Val)) : Nat → Nat → List Int → List Int
  | 0, _, l => l
  | m + 1, k, l => if h : k < l.length then Np cells m (k + 1) (H7 l (cellAt cells l[k])) else l
def Ch (cells : List (List Val)) (vs : List Val) : List Int := Np cells 25 0 (H7 [] vs)
theorem Dq (l : List Int) (v : Val) (vs : List Val) : H7 l (v :: vs) = H7 (H6 l v) vs := rfl
theorem metV_pre (l : List Int) (v : Val) : l <+: H6 l v := by
  unfold H6; split
  · exact List.prefix_append _ _
  · exact List.prefix_refl _
theorem Dr : ∀ (vs : List Val) (l : List Int), l <+: H7 l vs
  | [], l => List.prefix_refl _
  | v :: vs, l => (metV_pre l v).trans (Dr vs _)
theorem VC (cells : List (List Val)) : ∀ (m k : Nat) (l : List Int), l <+: Np cells m k l
  | 0, _, l => List.prefix_refl _
  | m + 1, k, l => by
    unfold Np; split
    · exact (Dr _ _).trans (VC cells m _ _)
    · exact List.prefix_refl _
theorem O6 : ∀ (n : Nat) (l : List Int), l.Nodup → (∀ x ∈ l, 0 ≤ x ∧ x < n) → l.length ≤ n
  | 0, l, _, h => by
    cases l with
    | nil => simp
    | cons x l => have := h x (by simp); omega
  | n + 1, l, hn, h => by
    have h1 := O6 n (l.erase (n : Int)) (hn.erase _) (fun x hx => by
      have h2 := (hn.mem_erase_iff).1 hx
      have := h x h2.2
      have h3 := h2.1
      constructor
      · omega
      · push_cast at this; omega)
    have h4 : l.length ≤ (l.erase (n : Int)).length + 1 := by rw [List.length_erase]; split <;> omega
    omega
def rT (n : Nat) (l : List Int) : Prop := l.Nodup ∧ ∀ x ∈ l, 0 ≤ x ∧ x < n
theorem rT.len {n : Nat} {l : List Int} (h : rT n l) : l.length ≤ n := O6 n l h.1 h.2
theorem rT.nil {n : Nat} : rT n [] := ⟨List.nodup_nil, fun x hx => by cases hx⟩
theorem jf.ref {n : Nat} {v : Val} (h : jf n v) (hk : v.kind = 2) : 0 ≤ v.n ∧ v.n < n := by unfold jf at h; omega
theorem rT.v {n : Nat} {l : List Int} (h : rT n l) {v : Val} (hv : jf n v) : rT n (H6 l v) := by
  unfold H6; split
  · rename_i hc
    refine ⟨List.nodup_append.2 ⟨h.1, by simp, fun a ha b hb => ?_⟩, fun x hx => ?_⟩
    · simp at hb; subst hb; intro e; subst e; exact hc.2 ha
    · rcases List.mem_append.1 hx with hx | hx
      · exact h.2 x hx
      · simp at hx; subst hx; exact hv.ref hc.1
  · exact h
theorem rT.l {n : Nat} : ∀ {vs : List Val} {l : List Int}, rT n l → (∀ v ∈ vs, jf n v) → rT n (H7 l vs)
  | [], l, h, _ => h
  | v :: vs, l, h, hv => rT.l (vs := vs) (l := H6 l v) (h.v (hv v (by simp))) (fun w hw => hv w (List.mem_cons_of_mem _ hw))
theorem yQ {cells : List (List Val)} {k : Int} (h : 0 ≤ k ∧ k < cells.length) : idx cells k = some (cellAt cells k) ∧ cellAt cells k ∈ cells := by
  obtain ⟨n, rfl⟩ := Int.eq_ofNat_of_zero_le h.1
  unfold cellAt
  rw [xw (by omega)]
  exact ⟨rfl, List.getElem_mem _⟩
theorem oo.at {cells : List (List Val)} (h : oo cells) {k : Int} (hk : 0 ≤ k ∧ k < cells.length) : (1 ≤ (cellAt cells k).length ∧ (cellAt cells k).length ≤ 4) ∧ ∀ v ∈ cellAt cells k, jf cells.length v := h.2 _ (yQ hk).2
theorem rT.Np {cells : List (List Val)} (hc : oo cells) : ∀ {m k : Nat} {l : List Int}, rT cells.length l → rT cells.length (Np cells m k l)
  | 0, _, l, h => h
  | m + 1, k, l, h => by
    unfold Proofs.YtfclkapelkhlpaaGreatDoor.Np; split
    · rename_i hk
      exact rT.Np hc (h.l (hc.at (h.2 _ (List.getElem_mem hk))).2)
    · exact h
def kY (vs : List Val) (l : List Int) : Prop := ∀ v ∈ vs, v.kind = 2 → v.n ∈ l
theorem kY.pre {vs : List Val} {l m : List Int} (h : kY vs l) (hp : l <+: m) : kY vs m := fun v hv hk => hp.subset (h v hv hk)
theorem metV_in (l : List Int) (v : Val) (hk : v.kind = 2) : v.n ∈ H6 l v := by
  unfold H6; split
  · simp
  · rename_i hc
    exact Decidable.not_not.1 (fun h => hc ⟨hk, h⟩)
theorem Qy : ∀ (vs : List Val) (l : List Int), kY vs (H7 l vs)
  | [], l, v, hv, _ => by cases hv
  | w :: vs, l, v, hv, hk => by
    rw [Dq]
    rcases List.mem_cons.1 hv with rfl | hv
    · exact (Dr vs _).subset (metV_in l v hk)
    · exact Qy vs _ v hv hk
theorem bfs_in {cells : List (List Val)} (hc : oo cells) : ∀ {m k : Nat} {l : List Int}, rT cells.length l → cells.length < k + m → (∀ j (hj : j < l.length), j < k → kY (cellAt cells l[j]) l) → ∀ x ∈ Np cells m k l, kY (cellAt cells x) (Np cells m k l)
  | 0, k, l, h, hm, hj, x, hx => by
    have := h.len
    obtain ⟨j, h1, rfl⟩ := List.getElem_of_mem hx
    exact hj j h1 (by have h1' : j < l.length := h1; omega)
  | m + 1, k, l, h, hm, hj, x, hx => by
    unfold Proofs.YtfclkapelkhlpaaGreatDoor.Np at hx ⊢
    split at hx
    · rename_i hk
      rw [dif_pos hk]
      have hv := (hc.at (h.2 _ (List.getElem_mem hk))).2
      have hp := Dr (cellAt cells l[k]) l
      refine bfs_in hc (h.l hv) (by omega) (fun j h1 h2 => ?_) x hx
      by_cases e : j < l.length
      · have e1 : (H7 l (cellAt cells l[k]))[j] = l[j] := (hp.getElem e).symm
        rw [e1]
        by_cases e2 : j < k
        · exact (hj j e e2).pre hp
        · have : j = k := by omega
          subst this
          exact Qy _ _
      · omega
    · rename_i hk
      rw [dif_neg hk]
      obtain ⟨j, h1, rfl⟩ := List.getElem_of_mem hx
      exact hj j h1 (by omega)
theorem reach_ok {cells : List (List Val)} (hc : oo cells) {vs : List Val} (hv : ∀ v ∈ vs, jf cells.length v) : rT cells.length (Ch cells vs) ∧ kY vs (Ch cells vs) ∧ ∀ x ∈ Ch cells vs, kY (cellAt cells x) (Ch cells vs) := by
  have h0 : rT cells.length (H7 [] vs) := rT.nil.l hv
  refine ⟨rT.Np hc h0, (Qy vs []).pre (VC _ _ _ _), bfs_in hc h0 (by have := hc.1; omega) (fun j h1 h2 => absurd h2 (Nat.not_lt_zero _))⟩
theorem Qz {α : Type} (k k' : Int) (v : α) : ∀ l : List (Int × α), lk k (DD k' v l) = if k = k' then some v else lk k l
  | [] => by unfold DD lk; by_cases h : k = k' <;> simp [h, lk]
  | p :: l => by
    unfold DD
    by_cases h : k' = p.1
    · rw [if_pos h]
      show (if k = p.1 then some v else lk k l) = if k = k' then some v else (if k = p.1 then some p.2 else lk k l)
      by_cases e : k = p.1
      · rw [if_pos e, if_pos (by omega)]
      · rw [if_neg e, if_neg (by omega), if_neg e]
    · rw [if_neg h]
      show (if k = p.1 then some p.2 else lk k (DD k' v l)) = if k = k' then some v else (if k = p.1 then some p.2 else lk k l)
      by_cases e : k = p.1
      · rw [if_pos e, if_pos e, if_neg (by omega)]
      · rw [if_neg e, if_neg e, Qz k k' v l]
def Seen (l : List Int) (m : List (Int × Bool)) : Prop := ∀ k, (lk k m).getD false = decide (k ∈ l)
theorem Seen.nil : Seen [] [] := fun k => rfl
theorem Seen.put {l : List Int} {m : List (Int × Bool)} (h : Seen l m) (n : Int) : Seen (l ++ [n]) (DD n true m) := by
  intro k
  rw [Qz]
  by_cases e : k = n
  · simp [e]
  · rw [if_neg e, h k, Bool.eq_iff_iff]; simp [e]
theorem I7 {ρ : Type} {body : Val → List Int × List (Int × Bool) → (List Int × List (Int × Bool) → Option ρ) → Option ρ} {K : List Int × List (Int × Bool) → Option ρ}
    (hb : ∀ x l m nx, l.length ≤ 1000 → body x (l, m) nx = bif (decide (x.kind = 2) && (!((lk x.n m).getD false))) then nx (l ++ [x.n], DD x.n true m) else nx (l, m)) :
    ∀ (vs : List Val) (l : List Int) (m : List (Int × Bool)), Seen l m → l.length + vs.length ≤ 1000 → ∃ m', Seen (H7 l vs) m' ∧ each body K vs (l, m) = K (H7 l vs, m')
  | [], l, m, h, _ => ⟨m, h, rfl⟩
  | v :: vs, l, m, h, hl => by
    simp only [List.length_cons] at hl
    rw [dV, hb v l m _ (by omega), h v.n, Dq]
    unfold H6
    by_cases hc : v.kind = 2 ∧ v.n ∉ l
    · rw [if_pos hc, dT hc.1, dF hc.2, Bool.true_and, Bool.not_false, cond_true]
      exact I7 hb vs _ _ (h.put v.n) (by simp; omega)
    · rw [if_neg hc, show (decide (v.kind = 2) && !decide (v.n ∈ l)) = false by rw [Bool.and_eq_false_iff]; simp; simp only [not_and, Decidable.not_not] at hc; by_cases e : v.kind = 2 <;> simp [e, hc], cond_false]
      exact I7 hb vs _ _ h (by omega)
theorem Sd {cells : List (List Val)} (hc : oo cells) : ∀ (m N k : Nat) (l : List Int) (s : List (Int × Bool)), rT cells.length l → Seen l s → cells.length < k + m → m < N → k ≤ l.length → again (pG cells) N ((k : Int), l, s) = some (Np cells m k l, 0)
  | m, 0, k, l, s, h, hs, hm, hN, hk => by omega
  | 0, N + 1, k, l, s, h, hs, hm, hN, hk => by have := h.len; omega
  | m + 1, N + 1, k, l, s, h, hs, hm, hN, hk => by
    rw [xY]
    unfold pG Proofs.YtfclkapelkhlpaaGreatDoor.Np
    simp only
    have hl := h.len
    have hn := hc.1
    by_cases hlt : k < l.length
    · rw [dT (by omega), cond_true, xw hlt, bnd, dif_pos hlt]
      have hr := h.2 _ (List.getElem_mem hlt)
      have hv := hc.at hr
      rw [(yQ hr).1, bnd]
      have e0 : (fun (s : Int × List Int × List (Int × Bool)) (Rw : Int × List Int × List (Int × Bool) → Option (List Int × Int)) => match s with | (ME, BD, Dv) => bif decide ((ME : Int) < (BD.length : Int)) then (idx BD ME).bind fun x79 => (idx cells x79).bind fun x87 => each rH (rJ ME Rw) x87 (BD, Dv) else some (BD, 0)) = pG cells := rfl
      rw [e0]
      obtain ⟨s', h1, h2⟩ := I7 (body := rH) (K := rJ (k : Int) (again (pG cells) N)) (fun x l m nx hl => by
        unfold rH
        simp only [xQ]
        cases (decide (x.kind = 2) && (!((lk x.n m).getD false))) with
        | false => rfl
        | true => rw [cond_true, cond_true, oq (room_le (by simp; omega) (by decide))]) (cellAt cells l[k]) l s hs (by have := hv.1.2; omega)
      rw [h2]
      unfold rJ
      simp only
      rw [gI (by omega) (by omega)]
      have hp := (Dr (cellAt cells l[k]) l).length_le
      exact Sd hc m N (k + 1) _ s' (h.l hv.2) h1 (by omega) (by omega) (by omega)
    · rw [dF (by omega), cond_false, dif_neg hlt]
theorem reach_eq {N : Nat} (hN : 100 ≤ N) {cells : List (List Val)} (hc : oo cells) {vs : List Val} (hv : ∀ v ∈ vs, jf cells.length v) (hl : vs.length ≤ 400) : D7 N cells vs = some (Ch cells vs, 0) := by
  unfold D7
  rw [(UC cells).2 hc, dF (by simp), cond_false, dF (by omega), cond_false]
  have k1 : ∀ l : List Val, (∀ v ∈ l, jf cells.length v) → each (uW cells) (rM N cells vs) l () = rM N cells vs () := by
    intro l
    induction l with
    | nil => intro _; rfl
    | cons x l ih =>
      intro h
      rw [dV]
      unfold uW
      rw [(Fu _ _).2 (h x (by simp)), dF (by simp), cond_false]
      exact ih (fun v hv => h v (List.mem_cons_of_mem _ hv))
  rw [k1 vs hv]
  unfold rM
  obtain ⟨s', h1, h2⟩ := I7 (body := uV) (K := xR N cells) (fun x l m nx hl => by
    unfold uV
    simp only [xP]
    cases (decide (x.kind = 2) && (!((lk x.n m).getD false))) with
    | false => rfl
    | true => rw [cond_true, cond_true, oq (room_le (by simp; omega) (by decide))]) vs [] [] Seen.nil (by simp; omega)
  rw [h2]
  exact Sd hc 25 N 0 _ s' (rT.nil.l hv) h1 (by have := hc.1; omega) (by omega) (by omega)
theorem H8 (a : List Int) (b : Int) : ∀ (m i : Nat), i + m = a.length → upto (jY a b) nL (i : Int) m () = some (match (a.drop i).findIdx? (fun x => decide (b = x)) with | some j => ((i + j : Nat) : Int) | none => -1)
  | 0, i, h => by
    rw [show a.drop i = [] from List.drop_eq_nil_of_le (by omega)]; rfl
  | m + 1, i, h => by
    rw [F5]
    have ih := H8 a b m (i + 1) (by omega)
    unfold jY
    rw [xw (by omega), bnd, List.drop_eq_getElem_cons (by omega : i < a.length), List.findIdx?_cons]
    by_cases e : b = a[i]
    · rw [dT e, cond_true]; simp
    · rw [dF e, cond_false]
      have e0 : (fun (i2 : Int) (s : Unit) (KG : Unit → Option Int) => (idx a i2).bind fun x8 => bif decide ((b : Int) = x8) then some i2 else KG ()) = jY a b := rfl
      rw [e0, show ((i : Int) + 1) = ((i + 1 : Nat) : Int) by omega, ih]
      cases (a.drop (i + 1)).findIdx? (fun x => decide (b = x)) with
      | none => rfl
      | some j => simp only [dF e, Bool.false_eq_true, if_false, Option.map_some]; rw [show i + 1 + j = i + (j + 1) by omega]
theorem Kq {a : List Int} {b : Int} (h : b ∈ a) : slices_Index_int a b = some (a.idxOf b : Int) := by
  unfold slices_Index_int
  rw [Int.toNat_natCast]
  have := H8 a b a.length 0 (by omega)
  rw [List.drop_zero] at this
  have e : a.findIdx? (fun x => decide (b = x)) = some (a.idxOf b) := by
    rw [List.findIdx?_eq_some_iff_findIdx_eq]
    have h2 : a.findIdx (fun x => decide (b = x)) = a.idxOf b := by
      unfold List.idxOf
      congr 1
      funext x
      rw [Bool.eq_iff_iff]; simp; exact ⟨fun h => h.symm, fun h => h.symm⟩
    exact ⟨List.idxOf_lt_length_of_mem h, h2⟩
  rw [e] at this
  simpa using this
theorem contains_eq (a : List Int) (b : Int) : slices_Contains_int a b = some (decide (b ∈ a)) := by
  unfold slices_Contains_int
  by_cases h : b ∈ a
  · rw [Kq h, bnd, dT (by omega), dT h]
  · unfold slices_Index_int
    have := H8 a b a.length 0 (by omega)
    rw [List.drop_zero] at this
    have e : a.findIdx? (fun x => decide (b = x)) = none := by
      rw [List.findIdx?_eq_none_iff]
      intro x hx; simp; intro e; subst e; exact h hx
    rw [e] at this
    rw [Int.toNat_natCast]
    have h2 : upto (jY a b) nL 0 a.length () = some (-1) := this
    rw [h2, bnd, dF (by omega), dF h]
theorem Fv {ρ : Type} {K : List Int → Option (List Int)} : ∀ (vs : List Val) (l : List Int), l.length + vs.length ≤ 1000 → each kM K vs l = K (H7 l vs)
  | [], l, _ => rfl
  | v :: vs, l, hl => by
    simp only [List.length_cons] at hl
    rw [dV, Dq]
    generalize hK : each kM K vs = K1
    unfold kM H6
    simp only [qM, qL, contains_eq, bnd]
    by_cases h2 : v.kind = 2
    · rw [dT h2, cond_true]
      by_cases h3 : v.n ∈ l
      · rw [dT h3, Bool.not_true, cond_false, if_neg (fun h => h.2 h3), ← hK]
        exact Fv (ρ := ρ) vs l (by omega)
      · rw [dF h3, Bool.not_false, cond_true, if_pos ⟨h2, h3⟩, oq (room_le (by simp; omega) (by decide)), ← hK]
        exact Fv (ρ := ρ) vs _ (by simp; omega)
    · rw [dF h2, cond_false, cond_false, if_neg (fun h => h2 h.1), ← hK]
      exact Fv (ρ := ρ) vs l (by omega)
theorem KS {cells : List (List Val)} (hc : oo cells) : ∀ (m N k : Nat) (l : List Int) (w : List Val), rT cells.length l → cells.length < k + m → m < N → k ≤ l.length → again (iX cells) N (l, w, (k : Int)) = some (Np cells m k l)
  | m, 0, k, l, w, h, hm, hN, hk => by omega
  | 0, N + 1, k, l, w, h, hm, hN, hk => by have := h.len; omega
  | m + 1, N + 1, k, l, w, h, hm, hN, hk => by
    rw [xY]
    generalize hK : again (iX cells) N = K
    unfold iX Proofs.YtfclkapelkhlpaaGreatDoor.Np
    simp only
    have hl := h.len
    have hn := hc.1
    by_cases hlt : k < l.length
    · rw [dT (by omega), cond_true, dT (by omega), cond_true, xw hlt, bnd, dif_pos hlt]
      have hr := h.2 _ (List.getElem_mem hlt)
      have hv := hc.at hr
      rw [(yQ hr).1, bnd]
      unfold mR
      rw [Fv (ρ := Unit) _ _ (by have := hv.1.2; omega)]
      unfold mQ
      rw [gI (by omega) (by omega), ← hK]
      have hp := (Dr (cellAt cells l[k]) l).length_le
      exact KS hc m N (k + 1) _ _ (h.l hv.2) (by omega) (by omega) (by omega)
    · rw [dF (by omega), cond_false, dif_neg hlt]
theorem met_eq {N : Nat} (hN : 100 ≤ N) {cells : List (List Val)} (hc : oo cells) {vs : List Val} (hv : ∀ v ∈ vs, jf cells.length v) (hl : vs.length ≤ 400) : wz N cells vs = some (Ch cells vs) := by
  unfold wz
  obtain ⟨M, rfl⟩ : ∃ M, N = M + 1 := ⟨N - 1, by omega⟩
  rw [xY]
  generalize hK : again (iX cells) M = K
  unfold iX
  simp only
  rw [dT (by simp), cond_true, dF (by simp), cond_false]
  unfold mR
  rw [Fv (ρ := Unit) _ _ (by simp; omega)]
  unfold mQ
  rw [gI (by omega) (by omega), ← hK]
  exact KS hc 25 M 0 _ _ (rT.nil.l hv) (by have := hc.1; omega) (by omega) (by omega)
end Go.Proofs.YtfclkapelkhlpaaGreatDoor
