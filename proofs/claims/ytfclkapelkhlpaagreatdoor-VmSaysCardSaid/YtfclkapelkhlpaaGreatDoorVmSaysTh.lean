/-
  What the law VmSays needs of our own library and of the walks, no more.
-/
import Derived.Test.YtfclkapelkhlpaaGreatDoorProg
import Derived.Test.YtfclkapelkhlpaaGreatDoorVmSaysTg
set_option linter.unusedSimpArgs false
set_option linter.unusedVariables false
set_option maxRecDepth 10000
namespace Go.Proofs.YtfclkapelkhlpaaGreatDoor
open Go Go.Proofs Go.LX
noncomputable section
def sJ (fQ : List LX.Frame) (sx : LX.State) (jb : LX.Frame) (x25 : Ins) (a : List bX) (wu : Int) (y68 : Int) (x69 : Bool) : Option (List Int × Bool × Bool × LX.State) :=
  bif (!x69) then some ([], false, false, (⟨fQ, sx.cells, sx.status, sx.aK⟩ : LX.State)) else (idx jb.regs x25.a).bind fun x71 => some ([], false, true, (⟨(fQ.set (((sx.frames.length : Int) - 1)).toNat ({ jb with regs := (jb.regs.set (x25.a).toNat (⟨wu, y68⟩ : Val)) })), sx.cells, sx.status, sx.aK⟩ : LX.State))
def nW (fQ : List LX.Frame) (sx : LX.State) (x81 : Val) (x25 : Ins) (jb : LX.Frame) (a : List bX) (x90 : Bool) : Option (List Int × Bool × Bool × LX.State) :=
  bif x90 then some ([], false, false, (⟨fQ, sx.cells, sx.status, sx.aK⟩ : LX.State)) else (idx sx.cells x81.n).bind fun x92 => iK (x92 ≠ []) ((idx x92 x25.c).bind fun x104 => (idx jb.regs x25.a).bind fun x112 => some ([], false, true, (⟨(fQ.set (((sx.frames.length : Int) - 1)).toNat ({ jb with regs := (jb.regs.set (x25.a).toNat x104) })), sx.cells, sx.status, sx.aK⟩ : LX.State)))
def nX (fQ : List LX.Frame) (sx : LX.State) (BV : Val) (jb : LX.Frame) (x25 : Ins) (Yb : Bool) : Option (List Int × Bool × Bool × LX.State) :=
  bif Yb then some ([], false, false, (⟨fQ, sx.cells, sx.status, sx.aK⟩ : LX.State)) else (idx sx.cells BV.n).bind fun U3 => iK (U3 ≠ []) ((idx jb.regs x25.b).bind fun x153 => (idx U3 x25.c).bind fun x161 => some ([], false, true, (⟨fQ, (sx.cells.set (BV.n).toNat (U3.set (x25.c).toNat x153)), sx.status, sx.aK⟩ : LX.State)))
def lH (x25 : Ins) (a : List bX) (Ex : List LX.Frame) (zT : List (List Val)) (Jm : Int) (Jn : Int) : Option (List Int × Bool × Bool × LX.State) :=
  bif decide (((zT.length : Int) : Int) = 24) then some ([], false, false, (⟨Ex, zT, Jm, Jn⟩ : LX.State)) else iK (kJ ((Ex.length : Int) - 1)) ((idx Ex ((Ex.length : Int) - 1)).bind fun FJ => (idx FJ.regs x25.a).bind fun x199 => iK (0 ≤ x25.b ∧ x25.b * 16 ≤ 140737488355328) (iK (Room 24 zT [(List.replicate x25.b.toNat (⟨0, 0⟩ : Val))]) (some ([], false, true, (⟨(Ex.set (((Ex.length : Int) - 1)).toNat ({ FJ with regs := (FJ.regs.set (x25.a).toNat (⟨2, (zT.length : Int)⟩ : Val)) })), (zT ++ [(List.replicate x25.b.toNat (⟨0, 0⟩ : Val))]), Jm, Jn⟩ : LX.State)))))
def jW (jb : LX.Frame) (i233 : Int) (x234 : Int) (DI : List Val) (nx236 : List Val → Option (List Int × Bool × Bool × LX.State)) : Option (List Int × Bool × Bool × LX.State) :=
  (idx jb.regs x234).bind fun SB => (idx DI i233).bind fun x252 => nx236 (DI.set (i233).toNat SB)
def jX (fQ : List LX.Frame) (x25 : Ins) (a : List bX) (sx : LX.State) (DI : List Val) : Option (List Int × Bool × Bool × LX.State) :=
  iK (Room 48 fQ [(⟨x25.b, 0, DI, x25.a⟩ : LX.Frame)]) (some ([], false, true, (⟨(fQ ++ [(⟨x25.b, 0, DI, x25.a⟩ : LX.Frame)]), sx.cells, sx.status, sx.aK⟩ : LX.State)))
def xC (jb : LX.Frame) (i273 : Int) (x274 : Int) (DJ : List Val) (nx276 : List Val → Option (List Int × Bool × Bool × LX.State)) : Option (List Int × Bool × Bool × LX.State) :=
  (idx jb.regs x274).bind fun SC => (idx DJ i273).bind fun x292 => nx276 (DJ.set (i273).toNat SC)
def xD (fQ : List LX.Frame) (x25 : Ins) (a : List bX) (sx : LX.State) (DJ : List Val) : Option (List Int × Bool × Bool × LX.State) :=
  iK (Room 48 fQ [(⟨x25.b, 0, DJ, x25.a⟩ : LX.Frame)]) (some ([], false, true, (⟨(fQ ++ [(⟨x25.b, 0, DJ, x25.a⟩ : LX.Frame)]), sx.cells, sx.status, sx.aK⟩ : LX.State)))
def iE (jb : LX.Frame) (x25 : Ins) (a : List bX) (fQ : List LX.Frame) (sx : LX.State) (Yc : Bool) : Option (List Int × Bool × Bool × LX.State) :=
  bif Yc then (idx jb.regs x25.a).bind fun Jo => bif decide ((Jo.kind : Int) ≠ 1) then some ([], false, false, (⟨fQ, sx.cells, sx.status, sx.aK⟩ : LX.State)) else bif decide ((x25.op : Int) = 9) then some ([Jo.n], false, true, (⟨fQ, sx.cells, sx.status, sx.aK⟩ : LX.State)) else some ([], true, true, (⟨fQ, sx.cells, 3, Jo.n⟩ : LX.State)) else bif decide ((x25.op : Int) = 10) then some ([], true, true, (⟨fQ, sx.cells, sx.status, sx.aK⟩ : LX.State)) else bif decide ((x25.op : Int) = 12) then some ([], false, true, (⟨(fQ.set (((sx.frames.length : Int) - 1)).toNat ({ jb with at_ := x25.b })), sx.cells, sx.status, sx.aK⟩ : LX.State)) else bif decide ((x25.op : Int) = 13) then (idx jb.regs x25.a).bind fun Oo => bif (decide ((Oo.kind : Int) ≠ 2) && decide ((Oo.n : Int) = 0)) then some ([], false, true, (⟨(fQ.set (((sx.frames.length : Int) - 1)).toNat ({ jb with at_ := x25.b })), sx.cells, sx.status, sx.aK⟩ : LX.State)) else some ([], false, true, (⟨fQ, sx.cells, sx.status, sx.aK⟩ : LX.State)) else some ([], false, true, (⟨fQ, sx.cells, sx.status, sx.aK⟩ : LX.State))
def dJ (N : Nat) (sx : LX.State) (x25 : Ins) (a : List bX) (fQ : List LX.Frame) : Option (List Int × Bool × Bool × LX.State) :=
  (idx fQ ((sx.frames.length : Int) - 1)).bind fun jb => bif decide ((x25.op : Int) = 1) then (idx jb.regs x25.a).bind fun zZ => some ([], false, true, (⟨(fQ.set (((sx.frames.length : Int) - 1)).toNat ({ jb with regs := (jb.regs.set (x25.a).toNat (⟨1, x25.b⟩ : Val)) })), sx.cells, sx.status, sx.aK⟩ : LX.State)) else bif decide ((x25.op : Int) = 2) then (idx jb.regs x25.b).bind fun QM => (idx jb.regs x25.a).bind fun x59 => some ([], false, true, (⟨(fQ.set (((sx.frames.length : Int) - 1)).toNat ({ jb with regs := (jb.regs.set (x25.a).toNat QM) })), sx.cells, sx.status, sx.aK⟩ : LX.State)) else bif decide ((x25.op : Int) = 3) then (idx x25.args 0).bind fun Jp => (idx jb.regs x25.b).bind fun DK => (idx jb.regs x25.c).bind fun A7 => (ui Jp DK A7).bind fun iF => sJ fQ sx jb x25 a iF.1.kind iF.1.n iF.2 else bif decide ((x25.op : Int) = 4) then (idx jb.regs x25.b).bind fun x81 => bif decide ((x81.kind : Int) ≠ 2) then nW fQ sx x81 x25 jb a true else (idx sx.cells x81.n).bind fun Bw => nW fQ sx x81 x25 jb a (decide (((Bw.length : Int) : Int) ≤ x25.c)) else bif decide ((x25.op : Int) = 6) then (idx jb.regs x25.a).bind fun BV => bif decide ((BV.kind : Int) ≠ 2) then nX fQ sx BV jb x25 true else (idx sx.cells BV.n).bind fun x168 => nX fQ sx BV jb x25 (decide (((x168.length : Int) : Int) ≤ x25.c)) else bif decide ((x25.op : Int) = 5) then bif decide (((sx.cells.length : Int) : Int) = 24) then (rA N (⟨fQ, sx.cells, sx.status, sx.aK⟩ : LX.State)).bind fun mR => lH x25 a mR.frames mR.cells mR.status mR.aK else lH x25 a fQ sx.cells sx.status sx.aK else bif decide ((x25.op : Int) = 7) then bif decide (((fQ.length : Int) : Int) = 10) then some ([], false, false, (⟨fQ, sx.cells, sx.status, sx.aK⟩ : LX.State)) else (idx a x25.b).bind fun A8 => iK (0 ≤ A8.regs ∧ A8.regs * 16 ≤ 140737488355328) (dZ (jW jb) (jX fQ x25 a sx) 0 x25.args (List.replicate A8.regs.toNat (⟨0, 0⟩ : Val))) else bif decide ((x25.op : Int) = 8) then (idx jb.regs x25.a).bind fun mU => iK (kJ ((fQ.length : Int) - 1)) ((sub? fQ 0 ((fQ.length : Int) - 1)).bind fun x313 => bif decide ((((fQ.take (((fQ.length : Int) - 1)).toNat).length : Int) : Int) = 0) then some ([], false, true, (⟨(fQ.take (((fQ.length : Int) - 1)).toNat), sx.cells, 1, sx.aK⟩ : LX.State)) else iK (kJ (((fQ.take (((fQ.length : Int) - 1)).toNat).length : Int) - 1)) ((idx (fQ.take (((fQ.length : Int) - 1)).toNat) (((fQ.take (((fQ.length : Int) - 1)).toNat).length : Int) - 1)).bind fun QT => (idx QT.regs jb.kD).bind fun x331 => some ([], false, true, (⟨((fQ.take (((fQ.length : Int) - 1)).toNat).set ((((fQ.take (((fQ.length : Int) - 1)).toNat).length : Int) - 1)).toNat ({ QT with regs := (QT.regs.set (jb.kD).toNat mU) })), sx.cells, sx.status, sx.aK⟩ : LX.State)))) else bif decide ((x25.op : Int) = 9) then iE jb x25 a fQ sx (decide ((x25.op : Int) = 9)) else iE jb x25 a fQ sx (decide ((x25.op : Int) = 11))
def eZ (N : Nat) (sx : LX.State) (a : List bX) : Option (List Int × Bool × Bool × LX.State) :=
  iK (kJ ((sx.frames.length : Int) - 1)) ((idx sx.frames ((sx.frames.length : Int) - 1)).bind fun x3 => (idx a x3.proc).bind fun AB => (idx AB.code x3.at_).bind fun x25 => iK (kJ ((AB.code.length : Int) - 1)) (bif decide ((x3.at_ : Int) < ((AB.code.length : Int) - 1)) then iK (kJ (x3.at_ + 1)) (dJ N sx x25 a (sx.frames.set (((sx.frames.length : Int) - 1)).toNat ({ x3 with at_ := (x3.at_ + 1) }))) else dJ N sx x25 a sx.frames))
theorem EO (N : Nat) (w0 : World) (M : BS) (hM : ∀ b, M b → b < w0.heap.size) (sb : Nat) (sx : LX.State) (iA vs1 : Value) (iW iI : List Value) (hC : Chunk.holds w0 M (Chunk.own' (cT sb iA vs1 (sx.status) (sx.aK) sx.frames iW sx.cells iI)) (cT sb iA vs1 (sx.status) (sx.aK) sx.frames iW sx.cells iI)) (hap : ∀ b, Chunk.own' (cT sb iA vs1 (sx.status) (sx.aK) sx.frames iW sx.cells iI) b → ¬ M b) (va : Value) (a : List bX) (ha : iL jE w0 (fun b => M b ∨ (cT sb iA vs1 (sx.status) (sx.aK) sx.frames iW sx.cells iI).own' b) va a) (r : List Int × Bool × Bool × LX.State) (hs : eZ N sx a = some r) :
    Calls Tryz.prog 70 #[va, (.pointer (some ⟨sb, 0, none⟩))] w0 (fun e w' => aP (Chunk.own' (cT sb iA vs1 (sx.status) (sx.aK) sx.frames iW sx.cells iI)) w0 w' ∧ ∃ u0, ∃ Ma, ∃ Mc, ∃ Md, ∃ Me, e = .returned (.tuple #[u0, .bool r.2.1, .bool r.2.2.1]) ∧ Chunk.holds w' M (Chunk.own' (cT sb Ma Mc r.2.2.2.status r.2.2.2.aK r.2.2.2.frames Md r.2.2.2.cells Me)) (cT sb Ma Mc r.2.2.2.status r.2.2.2.aK r.2.2.2.frames Md r.2.2.2.cells Me) ∧ (∀ b, Chunk.own' (cT sb Ma Mc r.2.2.2.status r.2.2.2.aK r.2.2.2.frames Md r.2.2.2.cells Me) b → b < w0.heap.size → Chunk.own' (cT sb iA vs1 (sx.status) (sx.aK) sx.frames iW sx.cells iI) b) ∧ iL eY w' (fun b => M b ∨ Chunk.own' (cT sb Ma Mc r.2.2.2.status r.2.2.2.aK r.2.2.2.frames Md r.2.2.2.cells Me) b) u0 r.1) := by
 refine aQ (args := [va, (.pointer (some ⟨sb, 0, none⟩))]) Tryz.func70 rfl Tryz.ntmps70 (bD rfl) ?_
 have h := SH.IQ hM hC hap
 replace h := h.E5 6 ha D6
 generalize wE : (cT sb iA vs1 (sx.status) (sx.aK) sx.frames iW sx.cells iI).own' = K0 at h
 replace h := h.cK 1 5 (by decide) rfl rfl
 replace h := h.cK 1 4 (by decide) rfl rfl
 replace h := h.cK 1 3 (by decide) rfl rfl
 replace h := h.cK 1 2 (by decide) rfl rfl
 have uU := ha.bT
 refine nG (kM (cs := [(.pointer (some ⟨sb, 0, none⟩))]) h 7 rfl rfl fun w b1 h => aa (ae (v := (.slice none 0 0)) rfl) (aa (ae (v := (.bool (false))) rfl) (aa (ae (v := (.bool (false))) rfl) (nN (aM (uS mixed (by kernel_rfl) h fun w h => aG (az h 7 rfl mi rfl rfl) (aG (aX rfl) (aG (ag dP rfl) (aG (az h 1 rfl gL rfl rfl) (aG (az h 7 rfl mi rfl rfl) (aG (aX rfl) (aG (ag dP rfl) (aG (az h 1 rfl gL rfl rfl) (aG (nA (N := bB) bV rfl (h.eT 2 rfl) (h.gm 3 rfl)) ?_))))))))))))))
 obtain ⟨a2, hs⟩ := bG hs
 refine aG (oh rfl rfl a2) ?_
 obtain ⟨x3, e4, hs⟩ := aL hs
 obtain ⟨u8, e9, h⟩ := h.mq 3 8 x3.regs rfl rfl (by decide) (aC e4).2 rfl
 obtain ⟨b6, q7, i5⟩ := h.rO 2 rfl bV rfl (aC e4).1 (eU (aC e4).2 e9)
 refine aG (i5 _ _ _ _ _ _ _ _ _ rfl rfl) (aG (ae (v := (.pointer (some ⟨b6, (((sx.frames.length : Int) - 1)).toNat * 4, none⟩))) rfl) (uy (ak (nG (aa (ah (v := va) rfl) (aa (ah (v := (.pointer (some ⟨b6, (((sx.frames.length : Int) - 1)).toNat * 4, none⟩))) rfl) (aa (aX rfl) (aa (ag tq rfl) ?_))))))))
 obtain ⟨cs10, m11, r12⟩ := h.uQ 2 rfl q7 (eU (aC e4).2 e9)
 obtain ⟨rfl, -⟩ := r12
 refine aa (lh (k := 0) m11 aR rfl rfl) ?_
 obtain ⟨AB, e14, hs⟩ := aL hs
 obtain ⟨b16, o17, cs18, h, r19, i15⟩ := h.Cn 6 9 rfl gU rfl (aC e14).1 (aC e14).2
 obtain ⟨u20, rfl, g21⟩ := jN r19
 replace h := h.dh 10 g21.up
 refine aa (i15 _ _ _ _ _ _ _ _ _ rfl rfl) (aa (ag nP rfl) (aa (fo (k := 2) h 9 rfl xh rfl rfl) (aa (ae (v := u20) rfl) (nJ (aa (ah (v := u20) rfl) (aa (ah (v := (.pointer (some ⟨b6, (((sx.frames.length : Int) - 1)).toNat * 4, none⟩))) rfl) (aa (aX rfl) (aa (ag nO rfl) ?_))))))))
 obtain ⟨cs22, m23, r24⟩ := h.uQ 2 rfl q7 (eU (aC e4).2 e9)
 obtain ⟨rfl, -⟩ := r24
 refine aa (lh (k := 1) m23 aR rfl rfl) ?_
 obtain ⟨x25, e26, hs⟩ := aL hs
 obtain ⟨b28, o29, cs30, h, r31, i27⟩ := h.Cn 10 11 rfl iD rfl (aC e26).1 (aC e26).2
 obtain ⟨u32, rfl, g33⟩ := xe r31
 replace h := h.dh 12 g33.up
 refine aa (i27 _ _ _ _ _ _ _ _ _ rfl rfl) (aa (jc (k := 0) (vs := [(I6 x25.op), (I6 x25.a), (I6 x25.b), (I6 x25.c), u32]) h 11 rfl oF rfl rfl rfl (bD rfl)) (bI h 13 oF fun w G9 h => dK (vs := [(I6 x25.op), (I6 x25.a), (I6 x25.b), (I6 x25.c), u32]) h 13 [(I6 x25.op), (I6 x25.a), (I6 x25.b), (I6 x25.c), u32] rfl oF rfl rfl rfl rfl rfl (ai rfl (ai rfl (ai rfl (ai rfl (ai (h.iN 12 rfl).one aS))))) fun w h => nN (cu (σ := List LX.Frame) (inl (rg 50 15)) (fun fQ => []) (fun fQ w => SH w0 M K0 w (hset [(1, .blk sb [iA, vs1, (I6 sx.status), (I6 sx.aK)]), (2, .own bB.raw 49 iA (List.zip fQ iW)), (3, .iJ (ek bz 51 hn iW (List.map bB.sub fQ))), (4, .own (eD Val).raw 47 vs1 (List.zip sx.cells iI)), (5, .iJ (ek bz 51 hn iI (List.map (eD Val).sub sx.cells))), (6, .rd jE va a), (7, .blk b1 [(.pointer (some ⟨sb, 0, none⟩))]), (12, .rd eY u32 x25.args), (13, .blk G9 [(I6 x25.op), (I6 x25.a), (I6 x25.b), (I6 x25.c), u32])]) ∧ dJ N sx x25 a fQ = some r) ?_ ?_)))
 rintro fQ w dR ⟨h, hs⟩
 refine nG (aa (ah (v := (.pointer (some ⟨b6, (((sx.frames.length : Int) - 1)).toNat * 4, none⟩))) rfl) (aa (aX rfl) (aa (ag jJ rfl) ?_)))
 obtain ⟨jb, e37, hs⟩ := aL hs
 obtain ⟨u38, e39, h⟩ := h.mq 3 14 jb.regs rfl rfl (by decide) (aC e37).2 rfl
 obtain ⟨cs40, m41, r42⟩ := h.uQ 2 rfl q7 (eU (aC e37).2 e39)
 obtain ⟨rfl, -⟩ := r42
 refine aa (lh (k := 2) m41 jH rfl rfl) (aa (ae (v := u38) rfl) (nJ (aa (sU (c1 := []) (c2 := [(.pointer (some ⟨G9, 0, none⟩)), (.pointer (some ⟨b1, 0, none⟩))]) rfl rfl) (aa (ae (v := (.func (.func 93) #[] #[(.pointer (some ⟨G9, 0, none⟩)), (.pointer (some ⟨b1, 0, none⟩))])) rfl) (nK (aa (ag ni rfl) (aa (az h 13 rfl aR rfl rfl) (nN (aN (nG (aa (bu rfl rfl) (aa (ae (v := (.bool (decide ((x25.op : Int) = 1)))) rfl) (nN ?_)))))))))))))
 refine aI hs rfl (fun c43 hs => ?_) (fun c43 hs => ?_)
 refine aD (aa (ah (v := u38) rfl) (aa (ag jy rfl) (aa (az h 13 rfl aR rfl rfl) (aa (ag gN rfl) (aa (az h 13 rfl aR rfl rfl) (aa (fe (pv := [(0, (I6 1)), (1, (I6 x25.b))]) (out := [(I6 1), (I6 x25.b)]) qV rfl ⟨0, 1, [(I6 1)], rfl, rfl, rfl, bD rfl, ⟨1, 1, [(I6 x25.b)], rfl, rfl, rfl, bD rfl, rfl⟩⟩) ?_))))))
 obtain ⟨zZ, e45, hs⟩ := aL hs
 obtain ⟨b47, q48, i46⟩ := h.rO 14 rfl aZ rfl (aC e45).1 (aC e45).2
 refine aa (i46 _ _ _ _ _ _ _ _ _ rfl rfl) (rX (a' := (⟨1, x25.b⟩ : Val)) (vs := [(I6 1), (I6 x25.b)]) h 14 rfl q48 rfl (aC e45).2 aY rfl rfl rfl rfl rfl fun w h k49 => aA (ax (ak (nG (aa (ae (v := (.slice none 0 0)) rfl) (aa (ae (v := (.bool (false))) rfl) (aa (ae (v := (.bool (true))) rfl) (nR (yJ (v1 := (.slice none 0 0)) (v2 := (.bool (false))) (v3 := (.bool (true))) Tryz.results70 rfl rfl rfl ?_)))))))))
 replace h := h.mo 2 3 14 ({ jb with regs := (jb.regs.set (x25.a).toNat (⟨1, x25.b⟩ : Val)) }) rfl rfl rfl (by decide) (by decide) (by decide) (aC e37).2 e39 rfl
 replace h := h.pair 1 2 (by decide)
 replace h := h.pair 1 3 (by decide)
 replace h := h.pair 1 4 (by decide)
 replace h := h.pair 1 5 (by decide)
 obtain rfl := fM hs
 subst wE
 obtain ⟨o1, o2, o3⟩ := h.lu 1 (C := (cT sb iA vs1 (sx.status) (sx.aK) (fQ.set (((sx.frames.length : Int) - 1)).toNat ({ jb with regs := (jb.regs.set (x25.a).toNat (⟨1, x25.b⟩ : Val)) })) iW sx.cells iI)) rfl ⟨⟨⟨⟨trivial, trivial⟩, trivial⟩, trivial⟩, trivial⟩
 exact ⟨o2, .slice none 0 0, iA, vs1, iW, iI, rfl, o1, o3, gB.nil⟩
 refine nG (aa (bu rfl rfl) (aa (ae (v := (.bool (decide ((x25.op : Int) = 2)))) rfl) (nN (aI hs rfl (fun c50 hs => ?_) (fun c50 hs => ?_)))))
 refine mZ 9 mixed (by kernel_rfl) h fun w h => aG (ah (v := u38) rfl) (aG (ag jy rfl) (aG (az h 13 rfl aR rfl rfl) (aG (ah (v := u38) rfl) (aG (ag gN rfl) (aG (az h 13 rfl aR rfl rfl) ?_)))))
 obtain ⟨QM, e52, hs⟩ := aL hs
 obtain ⟨b54, q55, i53⟩ := h.rO 14 rfl aZ rfl (aC e52).1 (aC e52).2
 refine aG (i53 _ _ _ _ _ _ _ _ _ rfl rfl) ?_
 obtain ⟨cs56, m57, r58⟩ := h.uQ 14 rfl q55 (aC e52).2
 obtain rfl := r58
 refine aG (kS (k := 0) (vs := [(I6 QM.kind), (I6 QM.n)]) m57 aY rfl rfl rfl (bD rfl)) ?_
 obtain ⟨x59, e60, hs⟩ := aL hs
 obtain ⟨b62, q63, i61⟩ := h.rO 14 rfl aZ rfl (aC e60).1 (aC e60).2
 refine aG (i61 _ _ _ _ _ _ _ _ _ rfl rfl) (wz (rX (a' := QM) (vs := [(I6 QM.kind), (I6 QM.n)]) h 14 rfl q63 rfl (aC e60).2 aY rfl rfl rfl rfl rfl fun w h k64 => aA (ax (ak (nG (aa (ae (v := (.slice none 0 0)) rfl) (aa (ae (v := (.bool (false))) rfl) (aa (ae (v := (.bool (true))) rfl) (nR (yJ (v1 := (.slice none 0 0)) (v2 := (.bool (false))) (v3 := (.bool (true))) Tryz.results70 rfl rfl rfl ?_))))))))))
 replace h := h.mo 2 3 14 ({ jb with regs := (jb.regs.set (x25.a).toNat QM) }) rfl rfl rfl (by decide) (by decide) (by decide) (aC e37).2 e39 rfl
 replace h := h.pair 1 2 (by decide)
 replace h := h.pair 1 3 (by decide)
 replace h := h.pair 1 4 (by decide)
 replace h := h.pair 1 5 (by decide)
 obtain rfl := fM hs
 subst wE
 obtain ⟨o1, o2, o3⟩ := h.lu 1 (C := (cT sb iA vs1 (sx.status) (sx.aK) (fQ.set (((sx.frames.length : Int) - 1)).toNat ({ jb with regs := (jb.regs.set (x25.a).toNat QM) })) iW sx.cells iI)) rfl ⟨⟨⟨⟨trivial, trivial⟩, trivial⟩, trivial⟩, trivial⟩
 exact ⟨o2, .slice none 0 0, iA, vs1, iW, iI, rfl, o1, o3, gB.nil⟩
 refine nG (aa (bu rfl rfl) (aa (ae (v := (.bool (decide ((x25.op : Int) = 3)))) rfl) (nN (aI hs rfl (fun Aw hs => ?_) (fun Aw hs => ?_)))))
 refine cu (σ := Nat × Int × Int × Bool) (inl ([12, 13] ++ rg 94 18)) (fun ⟨b66, wu, y68, x69⟩ => [(12, (.pointer (some ⟨b66, 0, none⟩))), (13, (.bool (x69)))]) (fun ⟨b66, wu, y68, x69⟩ w => SH w0 M K0 w (hset [(1, .blk sb [iA, vs1, (I6 sx.status), (I6 sx.aK)]), (2, .own bB.raw 49 iA (List.zip fQ iW)), (3, .iJ (ek bz 51 (hat (((sx.frames.length : Int) - 1)).toNat) iW (List.map bB.sub fQ))), (4, .own (eD Val).raw 47 vs1 (List.zip sx.cells iI)), (5, .iJ (ek bz 51 hn iI (List.map (eD Val).sub sx.cells))), (12, .rd eY u32 x25.args), (13, .blk G9 [(I6 x25.op), (I6 x25.a), (I6 x25.b), (I6 x25.c), u32]), (14, .own bz 51 u38 jb.regs), (231, .blk b66 [(I6 wu), (I6 y68)])]) ∧ sJ fQ sx jb x25 a wu y68 x69 = some r) ?_ ?_
 rintro ⟨b66, wu, y68, x69⟩ w dR ⟨h, hs⟩
 refine aM (nG (aa (ah (v := (.bool (x69))) rfl) (aa (fw rfl) (nN (aI hs rfl (fun c70 hs => ?_) (fun c70 hs => ?_))))))
 refine nG (aa (ae (v := (.slice none 0 0)) rfl) (aa (ae (v := (.bool (false))) rfl) (aa (ae (v := (.bool (false))) rfl) (nR (ay (aB (ay (yJ (v1 := (.slice none 0 0)) (v2 := (.bool (false))) (v3 := (.bool (false))) Tryz.results70 rfl rfl rfl ?_))))))))
 replace h := h.eP 3 14 rfl rfl (by decide) (aC e37).2 e39 rfl
 replace h := h.pair 1 2 (by decide)
 replace h := h.pair 1 3 (by decide)
 replace h := h.pair 1 4 (by decide)
 replace h := h.pair 1 5 (by decide)
 obtain rfl := fM hs
 subst wE
 obtain ⟨o1, o2, o3⟩ := h.lu 1 (C := (cT sb iA vs1 (sx.status) (sx.aK) fQ iW sx.cells iI)) rfl ⟨⟨⟨⟨trivial, trivial⟩, trivial⟩, trivial⟩, trivial⟩
 exact ⟨o2, .slice none 0 0, iA, vs1, iW, iI, rfl, o1, o3, gB.nil⟩
 refine aH (ak (aD (aa (ah (v := u38) rfl) (aa (ag jy rfl) (aa (az h 13 rfl aR rfl rfl) (aa (bU (vs := [(I6 wu), (I6 y68)]) h 231 rfl aY rfl rfl rfl) ?_))))))
 obtain ⟨x71, XB, hs⟩ := aL hs
 obtain ⟨b74, q75, i73⟩ := h.rO 14 rfl aZ rfl (aC XB).1 (aC XB).2
 refine aa (i73 _ _ _ _ _ _ _ _ _ rfl rfl) (rX (a' := (⟨wu, y68⟩ : Val)) (vs := [(I6 wu), (I6 y68)]) h 14 rfl q75 rfl (aC XB).2 aY rfl rfl rfl rfl rfl fun w h k76 => aA (ax (ak (nG (aa (ae (v := (.slice none 0 0)) rfl) (aa (ae (v := (.bool (false))) rfl) (aa (ae (v := (.bool (true))) rfl) (nR (yJ (v1 := (.slice none 0 0)) (v2 := (.bool (false))) (v3 := (.bool (true))) Tryz.results70 rfl rfl rfl ?_)))))))))
 replace h := h.mo 2 3 14 ({ jb with regs := (jb.regs.set (x25.a).toNat (⟨wu, y68⟩ : Val)) }) rfl rfl rfl (by decide) (by decide) (by decide) (aC e37).2 e39 rfl
 replace h := h.pair 1 2 (by decide)
 replace h := h.pair 1 3 (by decide)
 replace h := h.pair 1 4 (by decide)
 replace h := h.pair 1 5 (by decide)
 obtain rfl := fM hs
 subst wE
 obtain ⟨o1, o2, o3⟩ := h.lu 1 (C := (cT sb iA vs1 (sx.status) (sx.aK) (fQ.set (((sx.frames.length : Int) - 1)).toNat ({ jb with regs := (jb.regs.set (x25.a).toNat (⟨wu, y68⟩ : Val)) })) iW sx.cells iI)) rfl ⟨⟨⟨⟨trivial, trivial⟩, trivial⟩, trivial⟩, trivial⟩
 exact ⟨o2, .slice none 0 0, iA, vs1, iW, iI, rfl, o1, o3, gB.nil⟩
 refine zf mixed h fun w h => eG 0 (aP.refl BE _) rfl aj (by kernel_rfl) (by kernel_rfl) (by kernel_rfl) (fun w hk => ag rQ rfl) (eG 1 (aP.refl BE _) rfl aj (by kernel_rfl) (by kernel_rfl) (by kernel_rfl) (fun w hk => have h := h.grow hk; az h 13 rfl qU rfl rfl) ?_)
 obtain ⟨Jp, SE, hs⟩ := aL hs
 obtain ⟨bq77x2_4, oq77x2_5, csq77x2_6, h, rq77x2_7, iq77x2_3⟩ := h.Cn 12 256 rfl bZ rfl (aC SE).1 (aC SE).2
 obtain rfl := rq77x2_7
 refine eG 2 (aP.refl BE _) rfl aj (by kernel_rfl) (by kernel_rfl) (by kernel_rfl) (fun w hk => iq77x2_3 _ _ _ _ _ _ _ _ _ rfl rfl) (eG 3 (aP.refl BE _) rfl aj (by kernel_rfl) (by kernel_rfl) (by kernel_rfl) (fun w hk => have h := h.grow hk; fo (k := 0) h 256 rfl aR rfl rfl) (eG 4 (aP.refl BE _) rfl aj (by kernel_rfl) (by kernel_rfl) (by kernel_rfl) (fun w hk => ah (v := u38) rfl) (eG 5 (aP.refl BE _) rfl aj (by kernel_rfl) (by kernel_rfl) (by kernel_rfl) (fun w hk => ag gN rfl) (eG 6 (aP.refl BE _) rfl aj (by kernel_rfl) (by kernel_rfl) (by kernel_rfl) (fun w hk => have h := h.grow hk; az h 13 rfl aR rfl rfl) ?_))))
 obtain ⟨DK, Nr, hs⟩ := aL hs
 obtain ⟨bq77x7_4, qq77x7_5, iq77x7_3⟩ := h.rO 14 rfl aZ rfl (aC Nr).1 (aC Nr).2
 refine eG 7 (aP.refl BE _) rfl aj (by kernel_rfl) (by kernel_rfl) (by kernel_rfl) (fun w hk => iq77x7_3 _ _ _ _ _ _ _ _ _ rfl rfl) ?_
 obtain ⟨csq77x8_1, mq77x8_2, rq77x8_3⟩ := h.uQ 14 rfl qq77x7_5 (aC Nr).2
 obtain rfl := rq77x8_3
 refine eG 8 (aP.refl BE _) rfl aj (by kernel_rfl) (by kernel_rfl) (by kernel_rfl) (fun w hk => have h := h.grow hk; kS (k := 0) (vs := [(I6 DK.kind), (I6 DK.n)]) (mq77x8_2.grow hk) aY rfl rfl rfl (bD rfl)) (eG 9 (aP.refl BE _) rfl aj (by kernel_rfl) (by kernel_rfl) (by kernel_rfl) (fun w hk => ah (v := u38) rfl) (eG 10 (aP.refl BE _) rfl aj (by kernel_rfl) (by kernel_rfl) (by kernel_rfl) (fun w hk => ag nk rfl) (eG 11 (aP.refl BE _) rfl aj (by kernel_rfl) (by kernel_rfl) (by kernel_rfl) (fun w hk => have h := h.grow hk; az h 13 rfl aR rfl rfl) ?_)))
 obtain ⟨A7, KM, hs⟩ := aL hs
 obtain ⟨bq77x12_4, Yd, Ye⟩ := h.rO 14 rfl aZ rfl (aC KM).1 (aC KM).2
 refine eG 12 (aP.refl BE _) rfl aj (by kernel_rfl) (by kernel_rfl) (by kernel_rfl) (fun w hk => Ye _ _ _ _ _ _ _ _ _ rfl rfl) ?_
 obtain ⟨csq77x13_1, Yf, Yg⟩ := h.uQ 14 rfl Yd (aC KM).2
 obtain rfl := Yg
 refine eG 13 (aP.refl BE _) rfl aj (by kernel_rfl) (by kernel_rfl) (by kernel_rfl) (fun w hk => have h := h.grow hk; kS (k := 0) (vs := [(I6 A7.kind), (I6 A7.n)]) (Yf.grow hk) aY rfl rfl rfl (bD rfl)) ?_
 obtain ⟨iF, Pp, hs⟩ := aL hs
 obtain ⟨ws78, ws78e⟩ : ∃ x, x = w := ⟨_, rfl⟩
 have yB : Grow ws78 w := ws78e ▸ aP.refl BE w
 refine CP ws78e.symm (PX 14 18 (by kernel_rfl) rfl aj rfl aj ?_ ?_)
 refine aW Z4 rfl rfl (zS _ _ h.lt Jp DK A7 _ Pp) ?_
 rintro _ w ⟨DL, rfl⟩
 refine ⟨_, rfl, ?_⟩
 replace h := h.grow DL
 replace yB := yB.trans DL
 refine aA (iU yB (jG 15 yB rfl (by kernel_rfl) (fun w hk => ah (v := (.tuple #[(.agg #[(I6 iF.1.kind), (I6 iF.1.n)]), (.bool (iF.2))])) rfl) (jG 16 yB rfl (by kernel_rfl) (fun w hk => bg rfl rfl) (jG 17 yB rfl (by kernel_rfl) (fun w hk => bg rfl rfl) (mg 18 (by kernel_rfl) rfl aj (xc h 448 aY fun w DN h Ic Ie => ?_))))))
 have Ig : ws78.heap.size ≤ DN := Nat.le_trans yB.size Ie
 replace yB := yB.trans Ic
 refine aA (iU yB (mg 19 (by kernel_rfl) rfl aj (vX (vs := [(I6 iF.1.kind), (I6 iF.1.n)]) h 448 [(I6 iF.1.kind), (I6 iF.1.n)] rfl aY rfl rfl rfl rfl rfl (ai rfl (ai rfl aS)) fun w h KN => ?_)))
 replace yB := yB.fresh KN (fun x hx => hx ▸ Ig)
 refine aA (iU yB (jG 20 yB rfl (by kernel_rfl) (fun w hk => ae (v := (.bool (iF.2))) rfl) (qQ (by kernel_rfl) (au ?_))))
 replace h := (h.fV 231).moveC 448 231 rfl rfl (by decide)
 exact bS (DN, iF.1.kind, iF.1.n, iF.2) ⟨h.cn _, hs⟩
 refine xc h 448 aY fun w DN h Ic Ie => ?_
 have Ig : ws78.heap.size ≤ DN := Nat.le_trans yB.size Ie
 replace yB := yB.trans Ic
 refine aA (iU yB (mg 14 (by kernel_rfl) rfl aj (aW Z4 rfl rfl (zS _ _ h.lt Jp DK A7 _ Pp) ?_)))
 rintro _ w ⟨DL, rfl⟩
 refine ⟨_, rfl, ?_⟩
 replace h := h.grow DL
 replace yB := yB.trans DL
 refine aA (iU yB (jG 15 yB rfl (by kernel_rfl) (fun w hk => ah (v := (.tuple #[(.agg #[(I6 iF.1.kind), (I6 iF.1.n)]), (.bool (iF.2))])) rfl) (jG 16 yB rfl (by kernel_rfl) (fun w hk => bg rfl rfl) (jG 17 yB rfl (by kernel_rfl) (fun w hk => bg rfl rfl) (mg 19 (by kernel_rfl) rfl aj (vX (vs := [(I6 iF.1.kind), (I6 iF.1.n)]) h 448 [(I6 iF.1.kind), (I6 iF.1.n)] rfl aY rfl rfl rfl rfl rfl (ai rfl (ai rfl aS)) fun w h KN => ?_))))))
 replace yB := yB.fresh KN (fun x hx => hx ▸ Ig)
 refine aA (iU yB (jG 20 yB rfl (by kernel_rfl) (fun w hk => ae (v := (.bool (iF.2))) rfl) (qQ (by kernel_rfl) (au ?_))))
 replace h := (h.fV 231).moveC 448 231 rfl rfl (by decide)
 exact bS (DN, iF.1.kind, iF.1.n, iF.2) ⟨h.cn _, hs⟩
 refine nG (aa (bu rfl rfl) (aa (ae (v := (.bool (decide ((x25.op : Int) = 4)))) rfl) (nN (aI hs rfl (fun c80 hs => ?_) (fun c80 hs => ?_)))))
 refine nG (aa (ah (v := (.func (.func 93) #[] #[(.pointer (some ⟨G9, 0, none⟩)), (.pointer (some ⟨b1, 0, none⟩))])) rfl) (aa (ah (v := u38) rfl) (aa (ag gN rfl) (aa (az h 13 rfl aR rfl rfl) ?_))))
 obtain ⟨x81, e82, hs⟩ := aL hs
 obtain ⟨CJ, q85, i83⟩ := h.rO 14 rfl aZ rfl (aC e82).1 (aC e82).2
 refine aa (i83 _ _ _ _ _ _ _ _ _ rfl rfl) ?_
 obtain ⟨cs86, m87, r88⟩ := h.uQ 14 rfl q85 (aC e82).2
 obtain rfl := r88
 refine aa (kS (k := 0) (vs := [(I6 x81.kind), (I6 x81.n)]) m87 aY rfl rfl rfl (bD rfl)) (jY (args := [(.agg #[(I6 x81.kind), (I6 x81.n)]), (.pointer (some ⟨G9, 0, none⟩)), (.pointer (some ⟨b1, 0, none⟩))]) Z0 rfl rfl (aQ (args := [(.agg #[(I6 x81.kind), (I6 x81.n)]), (.pointer (some ⟨G9, 0, none⟩)), (.pointer (some ⟨b1, 0, none⟩))]) Tryz.func93 rfl Tryz.ntmps93 (bD rfl) (nG (kM (cs := [(I6 x81.kind), (I6 x81.n)]) h 496 rfl rfl fun w b89 h => aa (ae (v := (.slice none 0 0)) rfl) (nN (aM (cu (σ := Bool) (inl (rg 5 17)) (fun x90 => [(21, (.bool (x90)))]) (fun x90 w => SH w0 M K0 w (hset [(1, .blk sb [iA, vs1, (I6 sx.status), (I6 sx.aK)]), (2, .own bB.raw 49 iA (List.zip fQ iW)), (3, .iJ (ek bz 51 (hat (((sx.frames.length : Int) - 1)).toNat) iW (List.map bB.sub fQ))), (4, .own (eD Val).raw 47 vs1 (List.zip sx.cells iI)), (5, .iJ (ek bz 51 hn iI (List.map (eD Val).sub sx.cells))), (7, .blk b1 [(.pointer (some ⟨sb, 0, none⟩))]), (12, .rd eY u32 x25.args), (13, .blk G9 [(I6 x25.op), (I6 x25.a), (I6 x25.b), (I6 x25.c), u32]), (14, .own bz 51 u38 jb.regs), (496, .blk b89 [(I6 x81.kind), (I6 x81.n)])]) ∧ nW fQ sx x81 x25 jb a x90 = some r) ?_ ?_)))))))
 rintro x90 w dR ⟨h, hs⟩
 refine aI hs rfl (fun c91 hs => ?_) (fun c91 hs => ?_)
 refine nG (aa (ae (v := (.slice none 0 0)) rfl) (nR (ay (bR (v := (.slice none 0 0)) Tryz.results93 rfl (⟨_, rfl, ?_⟩)))))
 refine aa (ae (v := (.slice none 0 0)) rfl) (nK (aa (ah (v := (.slice none 0 0)) rfl) (aa (Rv aZ rfl rfl) (nN (TK rfl (nG (aa (ae (v := (.slice none 0 0)) rfl) (aa (ae (v := (.bool (false))) rfl) (aa (ae (v := (.bool (false))) rfl) (nR (ay (aB (ay (yJ (v1 := (.slice none 0 0)) (v2 := (.bool (false))) (v3 := (.bool (false))) Tryz.results70 rfl rfl rfl ?_))))))))))))))
 replace h := h.eP 3 14 rfl rfl (by decide) (aC e37).2 e39 rfl
 replace h := h.pair 1 2 (by decide)
 replace h := h.pair 1 3 (by decide)
 replace h := h.pair 1 4 (by decide)
 replace h := h.pair 1 5 (by decide)
 obtain rfl := fM hs
 subst wE
 obtain ⟨o1, o2, o3⟩ := h.lu 1 (C := (cT sb iA vs1 (sx.status) (sx.aK) fQ iW sx.cells iI)) rfl ⟨⟨⟨⟨trivial, trivial⟩, trivial⟩, trivial⟩, trivial⟩
 exact ⟨o2, .slice none 0 0, iA, vs1, iW, iI, rfl, o1, o3, gB.nil⟩
 refine aH (ak (aM (uS mixed (by kernel_rfl) h fun w h => aG (az h 7 rfl mi rfl rfl) (aG (aX rfl) (aG (ag gJ rfl) (aG (az h 1 rfl jQ rfl rfl) (aG (ag fu rfl) (aG (az h 496 rfl aR rfl rfl) ?_))))))))
 obtain ⟨x92, e93, hs⟩ := aL hs
 obtain ⟨Uy, e98, h⟩ := h.mq 5 497 x92 rfl rfl (by decide) (aC e93).2 rfl
 obtain ⟨b95, q96, i94⟩ := h.rO 4 rfl dV rfl (aC e93).1 (eU (aC e93).2 e98)
 refine aG (i94 _ _ _ _ _ _ _ _ _ rfl rfl) ?_
 obtain ⟨cs99, m100, r101⟩ := h.uQ 4 rfl q96 (eU (aC e93).2 e98)
 obtain ⟨rfl, -⟩ := r101
 refine aG (lh (k := 0) m100 jH rfl rfl) (aG (ae (v := Uy) rfl) (uy (ak (Cm (bR (v := Uy) Tryz.results93 rfl (⟨_, rfl, ?_⟩))))))
 refine aa (ae (v := Uy) rfl) (nK (aa (ah (v := Uy) rfl) (aa (F6 aZ rfl (h.eT 497 rfl) rfl) (nN ?_))))
 obtain ⟨Xj, hs⟩ := bG hs
 refine gQ rfl (fun Xk => absurd (xJ (h.eT 497 rfl) Xk).2 Xj) (fun Xk => ?_)
 refine aH (ak (mZ 9 mixed (by kernel_rfl) h fun w h => aG (ah (v := u38) rfl) (aG (ag jy rfl) (aG (az h 13 rfl aR rfl rfl) (aG (ah (v := Uy) rfl) (aG (ag nk rfl) (aG (az h 13 rfl aR rfl rfl) ?_)))))))
 obtain ⟨x104, JR, hs⟩ := aL hs
 obtain ⟨b107, q108, i106⟩ := h.rO 497 rfl aZ rfl (aC JR).1 (aC JR).2
 refine aG (i106 _ _ _ _ _ _ _ _ _ rfl rfl) ?_
 obtain ⟨cs109, m110, r111⟩ := h.uQ 497 rfl q108 (aC JR).2
 obtain rfl := r111
 refine aG (kS (k := 0) (vs := [(I6 x104.kind), (I6 x104.n)]) m110 aY rfl rfl rfl (bD rfl)) ?_
 obtain ⟨x112, QO, hs⟩ := aL hs
 obtain ⟨b115, q116, i114⟩ := h.rO 14 rfl aZ rfl (aC QO).1 (aC QO).2
 refine aG (i114 _ _ _ _ _ _ _ _ _ rfl rfl) (wz (rX (a' := x104) (vs := [(I6 x104.kind), (I6 x104.n)]) h 14 rfl q116 rfl (aC QO).2 aY rfl rfl rfl rfl rfl fun w h k117 => aA (ax (ak (nG (aa (ae (v := (.slice none 0 0)) rfl) (aa (ae (v := (.bool (false))) rfl) (aa (ae (v := (.bool (true))) rfl) (nR (yJ (v1 := (.slice none 0 0)) (v2 := (.bool (false))) (v3 := (.bool (true))) Tryz.results70 rfl rfl rfl ?_))))))))))
 replace h := h.mo 2 3 14 ({ jb with regs := (jb.regs.set (x25.a).toNat x104) }) rfl rfl rfl (by decide) (by decide) (by decide) (aC e37).2 e39 rfl
 replace h := h.eP 5 497 rfl rfl (by decide) (aC e93).2 e98 rfl
 replace h := h.pair 1 2 (by decide)
 replace h := h.pair 1 3 (by decide)
 replace h := h.pair 1 4 (by decide)
 replace h := h.pair 1 5 (by decide)
 obtain rfl := fM hs
 subst wE
 obtain ⟨o1, o2, o3⟩ := h.lu 1 (C := (cT sb iA vs1 (sx.status) (sx.aK) (fQ.set (((sx.frames.length : Int) - 1)).toNat ({ jb with regs := (jb.regs.set (x25.a).toNat x104) })) iW sx.cells iI)) rfl ⟨⟨⟨⟨trivial, trivial⟩, trivial⟩, trivial⟩, trivial⟩
 exact ⟨o2, .slice none 0 0, iA, vs1, iW, iI, rfl, o1, o3, gB.nil⟩
 refine uS mixed (by kernel_rfl) h fun w h => aG (ag lJ rfl) (aG (az h 496 rfl aR rfl rfl) (aG (gM rfl rfl) (aG (ah (v := (.bool (decide ((x81.kind : Int) ≠ 2)))) rfl) (gT (b := decide ((x81.kind : Int) ≠ 2)) hs (fun yV hs => ?_) (fun yV hs => ?_)))))
 refine ed (b' := true) rfl (cB yV) rfl (ed (b' := true) rfl (cB yV) rfl (ed (b' := true) rfl (cB yV) rfl (ed (b' := true) rfl (cB yV) rfl (ed (b' := true) rfl (cB yV) rfl (ed (b' := true) rfl (cB yV) rfl (ed (b' := true) rfl (cB yV) rfl (ed (b' := true) rfl (cB yV) rfl (ed (b' := true) rfl (cB yV) rfl (ed (b' := true) rfl (cB yV) rfl (ed (b' := true) rfl (cB yV) rfl (ed (b' := true) rfl (cB yV) rfl (aG (bY (b := true) (v := (.bool (true))) (cB yV) rfl) (uy (au ?_))))))))))))))
 exact bS true ⟨h.cn _, hs⟩
 refine fU rfl (cB yV) (aG (ag nk rfl) (fU rfl (cB yV) (aG (az h 13 rfl aR rfl rfl) (fU rfl (cB yV) (aG (az h 7 rfl mi rfl rfl) (fU rfl (cB yV) (aG (aX rfl) (fU rfl (cB yV) (aG (ag gJ rfl) (fU rfl (cB yV) (aG (az h 1 rfl jQ rfl rfl) (fU rfl (cB yV) (aG (ag fu rfl) (fU rfl (cB yV) (aG (az h 496 rfl aR rfl rfl) (fU rfl (cB yV) ?_))))))))))))))))
 obtain ⟨Bw, e120, hs⟩ := aL hs
 obtain ⟨u124, e125, h⟩ := h.mq 5 498 Bw rfl rfl (by decide) (aC e120).2 rfl
 obtain ⟨b122, q123, i121⟩ := h.rO 4 rfl dV rfl (aC e120).1 (eU (aC e120).2 e125)
 refine aG (i121 _ _ _ _ _ _ _ _ _ rfl rfl) (fU rfl (cB yV) ?_)
 obtain ⟨cs126, m127, r128⟩ := h.uQ 4 rfl q123 (eU (aC e120).2 e125)
 obtain ⟨rfl, -⟩ := r128
 refine aG (lh (k := 0) m127 jH rfl rfl) (fU rfl (cB yV) (aG (bM aZ rfl (h.eT 498 rfl)) (fU rfl (cB yV) (aG (rH rfl rfl) (aG (bY (b := false) (v := (.bool (decide (((Bw.length : Int) : Int) ≤ x25.c)))) (cB yV) rfl) (uy ?_))))))
 replace h := h.eP 5 498 rfl rfl (by decide) (aC e120).2 e125 rfl
 refine au ?_
 exact bS (decide (((Bw.length : Int) : Int) ≤ x25.c)) ⟨h.cn _, hs⟩
 refine nG (aa (bu rfl rfl) (aa (ae (v := (.bool (decide ((x25.op : Int) = 6)))) rfl) (nN (aI hs rfl (fun c129 hs => ?_) (fun c129 hs => ?_)))))
 refine nG (aa (ah (v := (.func (.func 93) #[] #[(.pointer (some ⟨G9, 0, none⟩)), (.pointer (some ⟨b1, 0, none⟩))])) rfl) (aa (ah (v := u38) rfl) (aa (ag jy rfl) (aa (az h 13 rfl aR rfl rfl) ?_))))
 obtain ⟨BV, QP, hs⟩ := aL hs
 obtain ⟨b133, q134, i132⟩ := h.rO 14 rfl aZ rfl (aC QP).1 (aC QP).2
 refine aa (i132 _ _ _ _ _ _ _ _ _ rfl rfl) ?_
 obtain ⟨cs135, m136, r137⟩ := h.uQ 14 rfl q134 (aC QP).2
 obtain rfl := r137
 refine aa (kS (k := 0) (vs := [(I6 BV.kind), (I6 BV.n)]) m136 aY rfl rfl rfl (bD rfl)) (jY (args := [(.agg #[(I6 BV.kind), (I6 BV.n)]), (.pointer (some ⟨G9, 0, none⟩)), (.pointer (some ⟨b1, 0, none⟩))]) Z0 rfl rfl (aQ (args := [(.agg #[(I6 BV.kind), (I6 BV.n)]), (.pointer (some ⟨G9, 0, none⟩)), (.pointer (some ⟨b1, 0, none⟩))]) Tryz.func93 rfl Tryz.ntmps93 (bD rfl) (nG (kM (cs := [(I6 BV.kind), (I6 BV.n)]) h 499 rfl rfl fun w b138 h => aa (ae (v := (.slice none 0 0)) rfl) (nN (aM (cu (σ := Bool) (inl (rg 5 17)) (fun Yb => [(21, (.bool (Yb)))]) (fun Yb w => SH w0 M K0 w (hset [(1, .blk sb [iA, vs1, (I6 sx.status), (I6 sx.aK)]), (2, .own bB.raw 49 iA (List.zip fQ iW)), (3, .iJ (ek bz 51 (hat (((sx.frames.length : Int) - 1)).toNat) iW (List.map bB.sub fQ))), (4, .own (eD Val).raw 47 vs1 (List.zip sx.cells iI)), (5, .iJ (ek bz 51 hn iI (List.map (eD Val).sub sx.cells))), (7, .blk b1 [(.pointer (some ⟨sb, 0, none⟩))]), (12, .rd eY u32 x25.args), (13, .blk G9 [(I6 x25.op), (I6 x25.a), (I6 x25.b), (I6 x25.c), u32]), (14, .own bz 51 u38 jb.regs), (499, .blk b138 [(I6 BV.kind), (I6 BV.n)])]) ∧ nX fQ sx BV jb x25 Yb = some r) ?_ ?_)))))))
 rintro Yb w dR ⟨h, hs⟩
 refine aI hs rfl (fun c140 hs => ?_) (fun c140 hs => ?_)
 refine nG (aa (ae (v := (.slice none 0 0)) rfl) (nR (ay (bR (v := (.slice none 0 0)) Tryz.results93 rfl (⟨_, rfl, ?_⟩)))))
 refine aa (ae (v := (.slice none 0 0)) rfl) (nK (aa (ah (v := (.slice none 0 0)) rfl) (aa (Rv aZ rfl rfl) (nN (TK rfl (nG (aa (ae (v := (.slice none 0 0)) rfl) (aa (ae (v := (.bool (false))) rfl) (aa (ae (v := (.bool (false))) rfl) (nR (ay (aB (ay (yJ (v1 := (.slice none 0 0)) (v2 := (.bool (false))) (v3 := (.bool (false))) Tryz.results70 rfl rfl rfl ?_))))))))))))))
 replace h := h.eP 3 14 rfl rfl (by decide) (aC e37).2 e39 rfl
 replace h := h.pair 1 2 (by decide)
 replace h := h.pair 1 3 (by decide)
 replace h := h.pair 1 4 (by decide)
 replace h := h.pair 1 5 (by decide)
 obtain rfl := fM hs
 subst wE
 obtain ⟨o1, o2, o3⟩ := h.lu 1 (C := (cT sb iA vs1 (sx.status) (sx.aK) fQ iW sx.cells iI)) rfl ⟨⟨⟨⟨trivial, trivial⟩, trivial⟩, trivial⟩, trivial⟩
 exact ⟨o2, .slice none 0 0, iA, vs1, iW, iI, rfl, o1, o3, gB.nil⟩
 refine aH (ak (aM (uS mixed (by kernel_rfl) h fun w h => aG (az h 7 rfl mi rfl rfl) (aG (aX rfl) (aG (ag gJ rfl) (aG (az h 1 rfl jQ rfl rfl) (aG (ag fu rfl) (aG (az h 499 rfl aR rfl rfl) ?_))))))))
 obtain ⟨U3, e142, hs⟩ := aL hs
 obtain ⟨u146, e147, h⟩ := h.mq 5 500 U3 rfl rfl (by decide) (aC e142).2 rfl
 obtain ⟨b144, q145, i143⟩ := h.rO 4 rfl dV rfl (aC e142).1 (eU (aC e142).2 e147)
 refine aG (i143 _ _ _ _ _ _ _ _ _ rfl rfl) ?_
 obtain ⟨cs148, m149, r150⟩ := h.uQ 4 rfl q145 (eU (aC e142).2 e147)
 obtain ⟨rfl, -⟩ := r150
 refine aG (lh (k := 0) m149 jH rfl rfl) (aG (ae (v := u146) rfl) (uy (ak (Cm (bR (v := u146) Tryz.results93 rfl (⟨_, rfl, ?_⟩))))))
 refine aa (ae (v := u146) rfl) (nK (aa (ah (v := u146) rfl) (aa (F6 aZ rfl (h.eT 500 rfl) rfl) (nN ?_))))
 obtain ⟨a151, hs⟩ := bG hs
 refine gQ rfl (fun c152 => absurd (xJ (h.eT 500 rfl) c152).2 a151) (fun c152 => ?_)
 refine aH (ak (mZ 9 mixed (by kernel_rfl) h fun w h => aG (ah (v := u146) rfl) (aG (ag nk rfl) (aG (az h 13 rfl aR rfl rfl) (aG (ah (v := u38) rfl) (aG (ag gN rfl) (aG (az h 13 rfl aR rfl rfl) ?_)))))))
 obtain ⟨x153, e154, hs⟩ := aL hs
 obtain ⟨b156, q157, i155⟩ := h.rO 14 rfl aZ rfl (aC e154).1 (aC e154).2
 refine aG (i155 _ _ _ _ _ _ _ _ _ rfl rfl) ?_
 obtain ⟨cs158, m159, r160⟩ := h.uQ 14 rfl q157 (aC e154).2
 obtain rfl := r160
 refine aG (kS (k := 0) (vs := [(I6 x153.kind), (I6 x153.n)]) m159 aY rfl rfl rfl (bD rfl)) ?_
 obtain ⟨x161, e162, hs⟩ := aL hs
 obtain ⟨b164, q165, i163⟩ := h.rO 500 rfl aZ rfl (aC e162).1 (aC e162).2
 refine aG (i163 _ _ _ _ _ _ _ _ _ rfl rfl) (wz (rX (a' := x153) (vs := [(I6 x153.kind), (I6 x153.n)]) h 500 rfl q165 rfl (aC e162).2 aY rfl rfl rfl rfl rfl fun w h k166 => aA (ax (ak (nG (aa (ae (v := (.slice none 0 0)) rfl) (aa (ae (v := (.bool (false))) rfl) (aa (ae (v := (.bool (true))) rfl) (nR (yJ (v1 := (.slice none 0 0)) (v2 := (.bool (false))) (v3 := (.bool (true))) Tryz.results70 rfl rfl rfl ?_))))))))))
 replace h := h.eP 3 14 rfl rfl (by decide) (aC e37).2 e39 rfl
 replace h := h.mo 4 5 500 (U3.set (x25.c).toNat x153) rfl rfl rfl (by decide) (by decide) (by decide) (aC e142).2 e147 rfl
 replace h := h.pair 1 2 (by decide)
 replace h := h.pair 1 3 (by decide)
 replace h := h.pair 1 4 (by decide)
 replace h := h.pair 1 5 (by decide)
 obtain rfl := fM hs
 subst wE
 obtain ⟨o1, o2, o3⟩ := h.lu 1 (C := (cT sb iA vs1 (sx.status) (sx.aK) fQ iW (sx.cells.set (BV.n).toNat (U3.set (x25.c).toNat x153)) iI)) rfl ⟨⟨⟨⟨trivial, trivial⟩, trivial⟩, trivial⟩, trivial⟩
 exact ⟨o2, .slice none 0 0, iA, vs1, iW, iI, rfl, o1, o3, gB.nil⟩
 refine uS mixed (by kernel_rfl) h fun w h => aG (ag lJ rfl) (aG (az h 499 rfl aR rfl rfl) (aG (gM rfl rfl) (aG (ah (v := (.bool (decide ((BV.kind : Int) ≠ 2)))) rfl) (gT (b := decide ((BV.kind : Int) ≠ 2)) hs (fun c167 hs => ?_) (fun c167 hs => ?_)))))
 refine ed (b' := true) rfl (cB c167) rfl (ed (b' := true) rfl (cB c167) rfl (ed (b' := true) rfl (cB c167) rfl (ed (b' := true) rfl (cB c167) rfl (ed (b' := true) rfl (cB c167) rfl (ed (b' := true) rfl (cB c167) rfl (ed (b' := true) rfl (cB c167) rfl (ed (b' := true) rfl (cB c167) rfl (ed (b' := true) rfl (cB c167) rfl (ed (b' := true) rfl (cB c167) rfl (ed (b' := true) rfl (cB c167) rfl (ed (b' := true) rfl (cB c167) rfl (aG (bY (b := true) (v := (.bool (true))) (cB c167) rfl) (uy (au ?_))))))))))))))
 exact bS true ⟨h.cn _, hs⟩
 refine fU rfl (cB c167) (aG (ag nk rfl) (fU rfl (cB c167) (aG (az h 13 rfl aR rfl rfl) (fU rfl (cB c167) (aG (az h 7 rfl mi rfl rfl) (fU rfl (cB c167) (aG (aX rfl) (fU rfl (cB c167) (aG (ag gJ rfl) (fU rfl (cB c167) (aG (az h 1 rfl jQ rfl rfl) (fU rfl (cB c167) (aG (ag fu rfl) (fU rfl (cB c167) (aG (az h 499 rfl aR rfl rfl) (fU rfl (cB c167) ?_))))))))))))))))
 obtain ⟨x168, e169, hs⟩ := aL hs
 obtain ⟨u173, e174, h⟩ := h.mq 5 501 x168 rfl rfl (by decide) (aC e169).2 rfl
 obtain ⟨b171, q172, i170⟩ := h.rO 4 rfl dV rfl (aC e169).1 (eU (aC e169).2 e174)
 refine aG (i170 _ _ _ _ _ _ _ _ _ rfl rfl) (fU rfl (cB c167) ?_)
 obtain ⟨cs175, m176, r177⟩ := h.uQ 4 rfl q172 (eU (aC e169).2 e174)
 obtain ⟨rfl, -⟩ := r177
 refine aG (lh (k := 0) m176 jH rfl rfl) (fU rfl (cB c167) (aG (bM aZ rfl (h.eT 501 rfl)) (fU rfl (cB c167) (aG (rH rfl rfl) (aG (bY (b := false) (v := (.bool (decide (((x168.length : Int) : Int) ≤ x25.c)))) (cB c167) rfl) (uy ?_))))))
 replace h := h.eP 5 501 rfl rfl (by decide) (aC e169).2 e174 rfl
 refine au ?_
 exact bS (decide (((x168.length : Int) : Int) ≤ x25.c)) ⟨h.cn _, hs⟩
 refine nG (aa (bu rfl rfl) (aa (ae (v := (.bool (decide ((x25.op : Int) = 5)))) rfl) (nN (aI hs rfl (fun c178 hs => ?_) (fun c178 hs => ?_)))))
 refine cu (σ := Value × List Value × List LX.Frame × Value × List Value × List (List Val) × Int × Int) (inl (rg 161 12)) (fun ⟨Ih, EJ, Ex, v182, Jq, zT, Jm, Jn⟩ => []) (fun ⟨Ih, EJ, Ex, v182, Jq, zT, Jm, Jn⟩ w => SH w0 M K0 w (hset [(1, .blk sb [Ih, v182, (I6 Jm), (I6 Jn)]), (7, .blk b1 [(.pointer (some ⟨sb, 0, none⟩))]), (12, .rd eY u32 x25.args), (13, .blk G9 [(I6 x25.op), (I6 x25.a), (I6 x25.b), (I6 x25.c), u32]), (502, .own bB.raw 49 Ih (List.zip Ex EJ)), (503, .iJ (ek bz 51 hn EJ (List.map bB.sub Ex))), (504, .own (eD Val).raw 47 v182 (List.zip zT Jq)), (505, .iJ (ek bz 51 hn Jq (List.map (eD Val).sub zT)))]) ∧ lH x25 a Ex zT Jm Jn = some r) ?_ ?_
 rintro ⟨Ih, EJ, Ex, v182, Jq, zT, Jm, Jn⟩ w dR ⟨h, hs⟩
 refine aM (nG (aa (az h 7 rfl mi rfl rfl) (aa (aX rfl) (aa (ag gJ rfl) (aa (az h 1 rfl jQ rfl rfl) (aa (nA (N := (eD Val)) dV rfl (h.eT 504 rfl) (h.gm 505 rfl)) (aa (bu rfl rfl) (nN (aI hs rfl (fun c187 hs => ?_) (fun c187 hs => ?_))))))))))
 refine nG (aa (ae (v := (.slice none 0 0)) rfl) (aa (ae (v := (.bool (false))) rfl) (aa (ae (v := (.bool (false))) rfl) (nR (ay (aB (ay (yJ (v1 := (.slice none 0 0)) (v2 := (.bool (false))) (v3 := (.bool (false))) Tryz.results70 rfl rfl rfl ?_))))))))
 replace h := h.pair 1 502 (by decide)
 replace h := h.pair 1 503 (by decide)
 replace h := h.pair 1 504 (by decide)
 replace h := h.pair 1 505 (by decide)
 obtain rfl := fM hs
 subst wE
 obtain ⟨o1, o2, o3⟩ := h.lu 1 (C := (cT sb Ih v182 (Jm) (Jn) Ex EJ zT Jq)) rfl ⟨⟨⟨⟨trivial, trivial⟩, trivial⟩, trivial⟩, trivial⟩
 exact ⟨o2, .slice none 0 0, Ih, v182, EJ, Jq, rfl, o1, o3, gB.nil⟩
 refine aH (ak (aM (mZ 22 mixed (by kernel_rfl) h fun w h => aG (az h 7 rfl mi rfl rfl) (aG (aX rfl) (aG (ag dP rfl) (aG (az h 1 rfl gL rfl rfl) (aG (az h 7 rfl mi rfl rfl) (aG (aX rfl) (aG (ag dP rfl) (aG (az h 1 rfl gL rfl rfl) (aG (nA (N := bB) bV rfl (h.eT 502 rfl) (h.gm 503 rfl)) ?_)))))))))))
 obtain ⟨a188, hs⟩ := bG hs
 refine aG (oh rfl rfl a188) ?_
 obtain ⟨FJ, e190, hs⟩ := aL hs
 obtain ⟨u194, e195, h⟩ := h.mq 503 506 FJ.regs rfl rfl (by decide) (aC e190).2 rfl
 obtain ⟨b192, q193, i191⟩ := h.rO 502 rfl bV rfl (aC e190).1 (eU (aC e190).2 e195)
 refine aG (i191 _ _ _ _ _ _ _ _ _ rfl rfl) (aG (ag jJ rfl) ?_)
 obtain ⟨cs196, m197, r198⟩ := h.uQ 502 rfl q193 (eU (aC e190).2 e195)
 obtain ⟨rfl, -⟩ := r198
 refine aG (lh (k := 2) m197 jH rfl rfl) (aG (ag jy rfl) (aG (az h 13 rfl aR rfl rfl) (aG (az h 7 rfl mi rfl rfl) (aG (aX rfl) (aG (ag gJ rfl) (aG (az h 1 rfl jQ rfl rfl) (aG (nA (N := (eD Val)) dV rfl (h.eT 504 rfl) (h.gm 505 rfl)) (aG (fe (pv := [(0, (I6 2)), (1, (I6 ((zT.length : Int))))]) (out := [(I6 2), (I6 ((zT.length : Int)))]) qV rfl ⟨0, 1, [(I6 2)], rfl, rfl, rfl, bD rfl, ⟨1, 1, [(I6 ((zT.length : Int)))], rfl, rfl, rfl, bD rfl, rfl⟩⟩) ?_))))))))
 obtain ⟨x199, e200, hs⟩ := aL hs
 obtain ⟨b202, q203, i201⟩ := h.rO 506 rfl aZ rfl (aC e200).1 (aC e200).2
 refine aG (i201 _ _ _ _ _ _ _ _ _ rfl rfl) (wz (rX (a' := (⟨2, (zT.length : Int)⟩ : Val)) (vs := [(I6 2), (I6 ((zT.length : Int)))]) h 506 rfl q203 rfl (aC e200).2 aY rfl rfl rfl rfl rfl fun w h k204 => nN (lq (L := (fun b => ob v182 b ∨ b = sb)) mixed h fun w h => bH 0 (aP.refl _ _) rfl aj (by kernel_rfl) (by kernel_rfl) (by kernel_rfl) (fun w hk => have h := h.wN 504 1 (by decide) rfl rfl hk; az h 7 rfl mi rfl rfl) (bH 1 (aP.refl _ _) rfl aj (by kernel_rfl) (by kernel_rfl) (by kernel_rfl) (fun w hk => have h := h.wN 504 1 (by decide) rfl rfl hk; az h 7 rfl mi rfl rfl) (bH 2 (aP.refl _ _) rfl aj (by kernel_rfl) (by kernel_rfl) (by kernel_rfl) (fun w hk => aX rfl) (bH 3 (aP.refl _ _) rfl aj (by kernel_rfl) (by kernel_rfl) (by kernel_rfl) (fun w hk => ag gJ rfl) (bH 5 (aP.refl _ _) rfl aj (by kernel_rfl) (by kernel_rfl) (by kernel_rfl) (fun w hk => ag gN rfl) (bH 6 (aP.refl _ _) rfl aj (by kernel_rfl) (by kernel_rfl) (by kernel_rfl) (fun w hk => have h := h.wN 504 1 (by decide) rfl rfl hk; az h 13 rfl aR rfl rfl) ?_))))))))
 obtain ⟨Pq, hs⟩ := bG hs
 obtain ⟨A9, hs⟩ := bG hs
 obtain ⟨Jr, ws213e⟩ : ∃ x, x = w := ⟨_, rfl⟩
 have jv : aP (fun b => ob v182 b ∨ b = sb) Jr w := ws213e ▸ aP.refl (fun b => ob v182 b ∨ b = sb) w
 refine rU ws213e.symm (om 4 7 (by kernel_rfl) rfl aj rfl aj ?_ ?_)
 refine aa (az h 1 rfl jQ rfl rfl) (aA (aT jv (bE 7 (by kernel_rfl) rfl aj (uu (R := bz) (zs := [(I6 0), (I6 0)]) (a := (⟨0, 0⟩ : Val)) h 591 lC aY rfl (by decide) rfl rfl Pq rfl (fun _ _ => rfl) fun w kR h Ii Ij => ?_))))
 have U4 : ∀ b, ob kR b → Jr.heap.size ≤ b := fun b hb => Nat.le_trans jv.size (Ij b hb)
 replace jv := jv.grow Ii
 refine aA (aT jv (bE 8 (by kernel_rfl) rfl aj ?_))
 have vC : (Value.oneCell' kR) = true := (h.dD 591 rfl).one
 refine xL (R := (eD Val).raw) (vs := [kR]) (xs := List.zip [(List.replicate x25.b.toNat (⟨0, 0⟩ : Val))] [kR]) h 603 lv rfl rfl rfl ⟨⟨gH vC, vC⟩, trivial⟩ rfl fun w DR h BA BB => ?_
 have Ns : ∀ b, ob DR b → Jr.heap.size ≤ b := fun b hb => Nat.le_trans jv.size (BB b hb)
 replace jv := jv.grow BA
 replace h := h.qh (N := (eD Val)) 591 (List.replicate x25.b.toNat (⟨0, 0⟩ : Val)) rfl rfl
 refine aA (aT jv (bE 9 (by kernel_rfl) rfl aj ?_))
 have sK := h.gm 505 rfl
 have vD := h.gm 591 rfl
 have Nt := jv.size
 refine ng (R := (eD Val).raw) (m := List.zip [(List.replicate x25.b.toNat (⟨0, 0⟩ : Val))] [kR]) h 504 rfl (h.eT 603 rfl) lv rfl rfl rfl (by rw [cZ sK, cZ vD]; exact A9.1) (by rw [cZ sK, cZ vD]; exact A9.2) fun w nY h BC BD => ?_
 have Nu : ∀ b, ob nY b → b < Jr.heap.size → ob v182 b := fun b hb hl => BD b hb (Nat.lt_of_lt_of_le hl (jv).size)
 replace jv := aP.step jv BC (fun _ hx _ => .inl (hx))
 replace h := (h.qf 505 591 rfl rfl (by decide)).fV 603
 rw [qg sK, ← List.map_append] at h
 obtain ⟨vE, zU⟩ : ∃ z, z = Jq ++ [kR] := ⟨_, rfl⟩
 rw [← zU] at h
 refine aA (aT jv (dN 10 jv rfl (by kernel_rfl) (fun w hk => aX rfl) (dN 11 jv rfl (by kernel_rfl) (fun w hk => ag gJ rfl) (bE 12 (by kernel_rfl) rfl aj (oC h 1 [Ih, nY, (I6 Jm), (I6 Jn)] rfl jQ rfl rfl rfl rfl (h.dD 504 rfl).one fun w h BF => ?_)))))
 replace jv := aP.step jv BF (fun _ hx _ => .inr (hx))
 refine aA (aT jv (gG (by kernel_rfl) (ax (ak (nG (aa (ae (v := (.slice none 0 0)) rfl) (aa (ae (v := (.bool (false))) rfl) (aa (ae (v := (.bool (true))) rfl) (nR (yJ (v1 := (.slice none 0 0)) (v2 := (.bool (false))) (v3 := (.bool (true))) Tryz.results70 rfl rfl rfl ?_))))))))))
 replace h := h.mo 502 503 506 ({ FJ with regs := (FJ.regs.set (x25.a).toNat (⟨2, (zT.length : Int)⟩ : Val)) }) rfl rfl rfl (by decide) (by decide) (by decide) (aC e190).2 e195 rfl
 replace h := h.pair 1 502 (by decide)
 replace h := h.pair 1 503 (by decide)
 replace h := h.pair 1 504 (by decide)
 replace h := h.pair 1 505 (by decide)
 obtain rfl := fM hs
 subst wE
 obtain ⟨o1, o2, o3⟩ := h.lu 1 (C := (cT sb Ih nY (Jm) (Jn) (Ex.set (((Ex.length : Int) - 1)).toNat ({ FJ with regs := (FJ.regs.set (x25.a).toNat (⟨2, (zT.length : Int)⟩ : Val)) })) EJ (zT ++ [(List.replicate x25.b.toNat (⟨0, 0⟩ : Val))]) vE)) rfl ⟨⟨⟨⟨trivial, trivial⟩, trivial⟩, trivial⟩, trivial⟩
 exact ⟨o2, .slice none 0 0, Ih, nY, EJ, vE, rfl, o1, o3, gB.nil⟩
 refine uu (R := bz) (zs := [(I6 0), (I6 0)]) (a := (⟨0, 0⟩ : Val)) h 591 lC aY rfl (by decide) rfl rfl Pq rfl (fun _ _ => rfl) fun w kR h Ii Ij => ?_
 have U4 : ∀ b, ob kR b → Jr.heap.size ≤ b := fun b hb => Nat.le_trans jv.size (Ij b hb)
 replace jv := jv.grow Ii
 refine aA (aT jv (om 4 8 (by kernel_rfl) rfl aj rfl aj ?_ ?_))
 refine aa (az h 1 rfl jQ rfl rfl) (aA (aT jv (bE 8 (by kernel_rfl) rfl aj ?_)))
 have vC : (Value.oneCell' kR) = true := (h.dD 591 rfl).one
 refine xL (R := (eD Val).raw) (vs := [kR]) (xs := List.zip [(List.replicate x25.b.toNat (⟨0, 0⟩ : Val))] [kR]) h 603 lv rfl rfl rfl ⟨⟨gH vC, vC⟩, trivial⟩ rfl fun w DR h BA BB => ?_
 have Ns : ∀ b, ob DR b → Jr.heap.size ≤ b := fun b hb => Nat.le_trans jv.size (BB b hb)
 replace jv := jv.grow BA
 replace h := h.qh (N := (eD Val)) 591 (List.replicate x25.b.toNat (⟨0, 0⟩ : Val)) rfl rfl
 refine aA (aT jv (bE 9 (by kernel_rfl) rfl aj ?_))
 have sK := h.gm 505 rfl
 have vD := h.gm 591 rfl
 have Nt := jv.size
 refine ng (R := (eD Val).raw) (m := List.zip [(List.replicate x25.b.toNat (⟨0, 0⟩ : Val))] [kR]) h 504 rfl (h.eT 603 rfl) lv rfl rfl rfl (by rw [cZ sK, cZ vD]; exact A9.1) (by rw [cZ sK, cZ vD]; exact A9.2) fun w nY h BC BD => ?_
 have Nu : ∀ b, ob nY b → b < Jr.heap.size → ob v182 b := fun b hb hl => BD b hb (Nat.lt_of_lt_of_le hl (jv).size)
 replace jv := aP.step jv BC (fun _ hx _ => .inl (hx))
 replace h := (h.qf 505 591 rfl rfl (by decide)).fV 603
 rw [qg sK, ← List.map_append] at h
 obtain ⟨vE, zU⟩ : ∃ z, z = Jq ++ [kR] := ⟨_, rfl⟩
 rw [← zU] at h
 refine aA (aT jv (dN 10 jv rfl (by kernel_rfl) (fun w hk => aX rfl) (dN 11 jv rfl (by kernel_rfl) (fun w hk => ag gJ rfl) (bE 12 (by kernel_rfl) rfl aj (oC h 1 [Ih, nY, (I6 Jm), (I6 Jn)] rfl jQ rfl rfl rfl rfl (h.dD 504 rfl).one fun w h BF => ?_)))))
 replace jv := aP.step jv BF (fun _ hx _ => .inr (hx))
 refine aA (aT jv (gG (by kernel_rfl) (ax (ak (nG (aa (ae (v := (.slice none 0 0)) rfl) (aa (ae (v := (.bool (false))) rfl) (aa (ae (v := (.bool (true))) rfl) (nR (yJ (v1 := (.slice none 0 0)) (v2 := (.bool (false))) (v3 := (.bool (true))) Tryz.results70 rfl rfl rfl ?_))))))))))
 replace h := h.mo 502 503 506 ({ FJ with regs := (FJ.regs.set (x25.a).toNat (⟨2, (zT.length : Int)⟩ : Val)) }) rfl rfl rfl (by decide) (by decide) (by decide) (aC e190).2 e195 rfl
 replace h := h.pair 1 502 (by decide)
 replace h := h.pair 1 503 (by decide)
 replace h := h.pair 1 504 (by decide)
 replace h := h.pair 1 505 (by decide)
 obtain rfl := fM hs
 subst wE
 obtain ⟨o1, o2, o3⟩ := h.lu 1 (C := (cT sb Ih nY (Jm) (Jn) (Ex.set (((Ex.length : Int) - 1)).toNat ({ FJ with regs := (FJ.regs.set (x25.a).toNat (⟨2, (zT.length : Int)⟩ : Val)) })) EJ (zT ++ [(List.replicate x25.b.toNat (⟨0, 0⟩ : Val))]) vE)) rfl ⟨⟨⟨⟨trivial, trivial⟩, trivial⟩, trivial⟩, trivial⟩
 exact ⟨o2, .slice none 0 0, Ih, nY, EJ, vE, rfl, o1, o3, gB.nil⟩
 have vC : (Value.oneCell' kR) = true := (h.dD 591 rfl).one
 refine xL (R := (eD Val).raw) (vs := [kR]) (xs := List.zip [(List.replicate x25.b.toNat (⟨0, 0⟩ : Val))] [kR]) h 603 lv rfl rfl rfl ⟨⟨gH vC, vC⟩, trivial⟩ rfl fun w DR h BA BB => ?_
 have Ns : ∀ b, ob DR b → Jr.heap.size ≤ b := fun b hb => Nat.le_trans jv.size (BB b hb)
 replace jv := jv.grow BA
 replace h := h.qh (N := (eD Val)) 591 (List.replicate x25.b.toNat (⟨0, 0⟩ : Val)) rfl rfl
 refine aA (aT jv (bE 4 (by kernel_rfl) rfl aj (aa (az h 1 rfl jQ rfl rfl) (aA (aT jv (bE 9 (by kernel_rfl) rfl aj ?_))))))
 have sK := h.gm 505 rfl
 have vD := h.gm 591 rfl
 have Nt := jv.size
 refine ng (R := (eD Val).raw) (m := List.zip [(List.replicate x25.b.toNat (⟨0, 0⟩ : Val))] [kR]) h 504 rfl (h.eT 603 rfl) lv rfl rfl rfl (by rw [cZ sK, cZ vD]; exact A9.1) (by rw [cZ sK, cZ vD]; exact A9.2) fun w nY h BC BD => ?_
 have Nu : ∀ b, ob nY b → b < Jr.heap.size → ob v182 b := fun b hb hl => BD b hb (Nat.lt_of_lt_of_le hl (jv).size)
 replace jv := aP.step jv BC (fun _ hx _ => .inl (hx))
 replace h := (h.qf 505 591 rfl rfl (by decide)).fV 603
 rw [qg sK, ← List.map_append] at h
 obtain ⟨vE, zU⟩ : ∃ z, z = Jq ++ [kR] := ⟨_, rfl⟩
 rw [← zU] at h
 refine aA (aT jv (dN 10 jv rfl (by kernel_rfl) (fun w hk => aX rfl) (dN 11 jv rfl (by kernel_rfl) (fun w hk => ag gJ rfl) (bE 12 (by kernel_rfl) rfl aj (oC h 1 [Ih, nY, (I6 Jm), (I6 Jn)] rfl jQ rfl rfl rfl rfl (h.dD 504 rfl).one fun w h BF => ?_)))))
 replace jv := aP.step jv BF (fun _ hx _ => .inr (hx))
 refine aA (aT jv (gG (by kernel_rfl) (ax (ak (nG (aa (ae (v := (.slice none 0 0)) rfl) (aa (ae (v := (.bool (false))) rfl) (aa (ae (v := (.bool (true))) rfl) (nR (yJ (v1 := (.slice none 0 0)) (v2 := (.bool (false))) (v3 := (.bool (true))) Tryz.results70 rfl rfl rfl ?_))))))))))
 replace h := h.mo 502 503 506 ({ FJ with regs := (FJ.regs.set (x25.a).toNat (⟨2, (zT.length : Int)⟩ : Val)) }) rfl rfl rfl (by decide) (by decide) (by decide) (aC e190).2 e195 rfl
 replace h := h.pair 1 502 (by decide)
 replace h := h.pair 1 503 (by decide)
 replace h := h.pair 1 504 (by decide)
 replace h := h.pair 1 505 (by decide)
 obtain rfl := fM hs
 subst wE
 obtain ⟨o1, o2, o3⟩ := h.lu 1 (C := (cT sb Ih nY (Jm) (Jn) (Ex.set (((Ex.length : Int) - 1)).toNat ({ FJ with regs := (FJ.regs.set (x25.a).toNat (⟨2, (zT.length : Int)⟩ : Val)) })) EJ (zT ++ [(List.replicate x25.b.toNat (⟨0, 0⟩ : Val))]) vE)) rfl ⟨⟨⟨⟨trivial, trivial⟩, trivial⟩, trivial⟩, trivial⟩
 exact ⟨o2, .slice none 0 0, Ih, nY, EJ, vE, rfl, o1, o3, gB.nil⟩
 refine nG (aa (az h 7 rfl mi rfl rfl) (aa (aX rfl) (aa (ag gJ rfl) (aa (az h 1 rfl jQ rfl rfl) (aa (nA (N := (eD Val)) dV rfl (h.eT 4 rfl) (h.gm 5 rfl)) (aa (bu rfl rfl) (nN (aI hs rfl (fun c215 hs => ?_) (fun c215 hs => ?_)))))))))
 refine lq (L := (fun x => x = sb)) mixed h fun w h => bH 0 (aP.refl _ _) rfl aj (by kernel_rfl) (by kernel_rfl) (by kernel_rfl) (fun w hk => have h := h.qR 1 rfl hk; az h 7 rfl mi rfl rfl) (bH 1 (aP.refl _ _) rfl aj (by kernel_rfl) (by kernel_rfl) (by kernel_rfl) (fun w hk => have h := h.qR 1 rfl hk; az h 7 rfl mi rfl rfl) (bH 2 (aP.refl _ _) rfl aj (by kernel_rfl) (by kernel_rfl) (by kernel_rfl) (fun w hk => aX rfl) ?_))
 obtain ⟨ws221, ws221e⟩ : ∃ x, x = w := ⟨_, rfl⟩
 have Ld : aP (fun x => x = sb) ws221 w := ws221e ▸ aP.refl (fun x => x = sb) w
 refine rU ws221e.symm (bE 3 (by kernel_rfl) rfl aj (aa (bU (vs := [iA, vs1, (I6 sx.status), (I6 sx.aK)]) h 1 rfl bC rfl rfl rfl) (aA (aT Ld (bE 4 (by kernel_rfl) rfl aj ?_)))))
 replace h := h.eP 3 14 rfl rfl (by decide) (aC e37).2 e39 rfl
 obtain ⟨mR, Yh, hs⟩ := aL hs
 refine aW ZM rfl rfl (Ap N _ BE (fun _ h => h.elim) (⟨fQ, sx.cells, sx.status, sx.aK⟩ : LX.State) iA vs1 (h.zV (N := bB) (R' := dL) 2 3 rfl rfl (by decide) rfl qP) (h.zV (N := (eD Val)) (R' := (l9 bz)) 4 5 rfl rfl (by decide) rfl wJ) _ Yh) ?_
 rintro _ w ⟨Ps, Gt, Gu, Nv, Nw, rfl, Yi, Yj⟩
 refine ⟨_, rfl, ?_⟩
 replace h := h.VR 723 (C := (cU Gt Gu mR.frames Nv mR.cells Nw)) Ps ⟨⟨⟨trivial, trivial⟩, trivial⟩, trivial⟩ ⟨⟨⟨(fun _ _ _ _ _ h => h), (xg (fun _ _ _ _ _ h => h))⟩, (fun _ _ _ _ _ h => h)⟩, (xg (fun _ _ _ _ _ h => h))⟩ Yi Yj
 replace h := h.cK 723 726 (by decide) rfl rfl
 replace h := h.cK 723 725 (by decide) rfl rfl
 replace h := h.cK 723 724 (by decide) rfl rfl
 replace Ld := Ld.grow Ps
 refine aA (aT Ld (dN 5 Ld rfl (by kernel_rfl) (fun w hk => aX rfl) (bE 6 (by kernel_rfl) rfl aj (vX (vs := [Gt, Gu, (I6 mR.status), (I6 mR.aK)]) h 1 [Gt, Gu, (I6 mR.status), (I6 mR.aK)] rfl bC rfl rfl rfl rfl rfl (ai (h.dD 723 rfl).one (ai (h.dD 725 rfl).one (ai rfl (ai rfl aS)))) fun w h Yk => ?_))))
 replace Ld := Ld.same Yk
 refine aA (aT Ld (gG (by kernel_rfl) (au ?_)))
 replace h := (h.fV 502).moveC 723 502 rfl rfl (by decide)
 replace h := (h.fV 503).moveC 724 503 rfl rfl (by decide)
 replace h := (h.fV 504).moveC 725 504 rfl rfl (by decide)
 replace h := (h.fV 505).moveC 726 505 rfl rfl (by decide)
 exact bS (Gt, Nv, mR.frames, Gu, Nw, mR.cells, mR.status, mR.aK) ⟨h.cn _, hs⟩
 refine aH ?_
 replace h := h.eP 3 14 rfl rfl (by decide) (aC e37).2 e39 rfl
 refine au ?_
 replace h := (h.fV 502).moveC 2 502 rfl rfl (by decide)
 replace h := (h.fV 503).moveC 3 503 rfl rfl (by decide)
 replace h := (h.fV 504).moveC 4 504 rfl rfl (by decide)
 replace h := (h.fV 505).moveC 5 505 rfl rfl (by decide)
 exact bS (iA, iW, fQ, vs1, iI, sx.cells, sx.status, sx.aK) ⟨h.cn _, hs⟩
 refine nG (aa (bu rfl rfl) (aa (ae (v := (.bool (decide ((x25.op : Int) = 7)))) rfl) (nN (aI hs rfl (fun c223 hs => ?_) (fun c223 hs => ?_)))))
 refine aM (nG (aa (az h 7 rfl mi rfl rfl) (aa (aX rfl) (aa (ag dP rfl) (aa (az h 1 rfl gL rfl rfl) (aa (nA (N := bB) bV rfl (h.eT 2 rfl) (h.gm 3 rfl)) (aa (bu rfl rfl) (nN (aI hs rfl (fun c224 hs => ?_) (fun c224 hs => ?_))))))))))
 refine nG (aa (ae (v := (.slice none 0 0)) rfl) (aa (ae (v := (.bool (false))) rfl) (aa (ae (v := (.bool (false))) rfl) (nR (ay (aB (ay (yJ (v1 := (.slice none 0 0)) (v2 := (.bool (false))) (v3 := (.bool (false))) Tryz.results70 rfl rfl rfl ?_))))))))
 replace h := h.eP 3 14 rfl rfl (by decide) (aC e37).2 e39 rfl
 replace h := h.pair 1 2 (by decide)
 replace h := h.pair 1 3 (by decide)
 replace h := h.pair 1 4 (by decide)
 replace h := h.pair 1 5 (by decide)
 obtain rfl := fM hs
 subst wE
 obtain ⟨o1, o2, o3⟩ := h.lu 1 (C := (cT sb iA vs1 (sx.status) (sx.aK) fQ iW sx.cells iI)) rfl ⟨⟨⟨⟨trivial, trivial⟩, trivial⟩, trivial⟩, trivial⟩
 exact ⟨o2, .slice none 0 0, iA, vs1, iW, iI, rfl, o1, o3, gB.nil⟩
 refine aH (ak (aM (zf mixed h fun w h => eG 0 (aP.refl BE _) rfl aj (by kernel_rfl) (by kernel_rfl) (by kernel_rfl) (fun w hk => ag gN rfl) (eG 1 (aP.refl BE _) rfl aj (by kernel_rfl) (by kernel_rfl) (by kernel_rfl) (fun w hk => have h := h.grow hk; az h 13 rfl aR rfl rfl) (eG 2 (aP.refl BE _) rfl aj (by kernel_rfl) (by kernel_rfl) (by kernel_rfl) (fun w hk => ag jy rfl) (eG 3 (aP.refl BE _) rfl aj (by kernel_rfl) (by kernel_rfl) (by kernel_rfl) (fun w hk => have h := h.grow hk; az h 13 rfl aR rfl rfl) (eG 4 (aP.refl BE _) rfl aj (by kernel_rfl) (by kernel_rfl) (by kernel_rfl) (fun w hk => ah (v := va) rfl) (eG 5 (aP.refl BE _) rfl aj (by kernel_rfl) (by kernel_rfl) (by kernel_rfl) (fun w hk => ag gN rfl) (eG 6 (aP.refl BE _) rfl aj (by kernel_rfl) (by kernel_rfl) (by kernel_rfl) (fun w hk => have h := h.grow hk; az h 13 rfl aR rfl rfl) ?_)))))))))
 obtain ⟨A8, Pt, hs⟩ := aL hs
 obtain ⟨bq225x7_4, oq225x7_5, csq225x7_6, h, Yl, Ym⟩ := h.Cn 6 855 rfl gU rfl (aC Pt).1 (aC Pt).2
 obtain ⟨uq225x7_8, rfl, Yn⟩ := jN Yl
 replace h := h.dh 856 Yn.up
 refine eG 7 (aP.refl BE _) rfl aj (by kernel_rfl) (by kernel_rfl) (by kernel_rfl) (fun w hk => Ym _ _ _ _ _ _ _ _ _ rfl rfl) (eG 8 (aP.refl BE _) rfl aj (by kernel_rfl) (by kernel_rfl) (by kernel_rfl) (fun w hk => ag vK rfl) (eG 9 (aP.refl BE _) rfl aj (by kernel_rfl) (by kernel_rfl) (by kernel_rfl) (fun w hk => have h := h.grow hk; fo (k := 1) h 855 rfl aR rfl rfl) ?_))
 obtain ⟨Ny, hs⟩ := bG hs
 obtain ⟨SF, ws226e⟩ : ∃ x, x = w := ⟨_, rfl⟩
 have uJ : Grow SF w := ws226e ▸ aP.refl BE w
 refine CP ws226e.symm (PX 10 12 (by kernel_rfl) rfl aj rfl aj ?_ ?_)
 refine uu (R := bz) (zs := [(I6 0), (I6 0)]) (a := (⟨0, 0⟩ : Val)) h 891 lC aY rfl (by decide) rfl rfl Ny rfl (fun _ _ => rfl) fun w dY h FK FL => ?_
 have SG : ∀ b, ob dY b → SF.heap.size ≤ b := fun b hb => Nat.le_trans uJ.size (FL b hb)
 replace uJ := uJ.trans FK
 refine aA (iU uJ (jG 11 uJ rfl (by kernel_rfl) (fun w hk => fe (pv := [(0, (I6 x25.b)), (3, (I6 x25.a)), (2, dY)]) (out := [(I6 x25.b), (I6 0), dY, (I6 x25.a)]) C9 rfl ⟨0, 1, [(I6 x25.b)], rfl, rfl, rfl, bD rfl, ⟨3, 1, [(I6 x25.a)], rfl, rfl, rfl, bD rfl, ⟨2, 1, [dY], rfl, (gH (h.dD 891 rfl).one), rfl, bD rfl, rfl⟩⟩⟩) (mg 12 (by kernel_rfl) rfl aj (xc h 915 gz fun w BG h FM FN => ?_))))
 have FO : SF.heap.size ≤ BG := Nat.le_trans uJ.size FN
 replace uJ := uJ.trans FM
 refine aA (iU uJ (mg 13 (by kernel_rfl) rfl aj (vX (vs := [(I6 x25.b), (I6 0), dY, (I6 x25.a)]) h 915 [(I6 x25.b), (I6 0), dY, (I6 x25.a)] rfl gz rfl rfl rfl rfl rfl (ai rfl (ai rfl (ai (h.dD 891 rfl).one (ai rfl aS)))) fun w h Ik => ?_)))
 replace uJ := uJ.fresh Ik (fun x hx => hx ▸ FO)
 refine aA (iU uJ (qQ (by kernel_rfl) (ak (aM (nG (aa (ag rQ rfl) (aa (az h 13 rfl qU rfl rfl) (aa (bM bZ rfl (h.kL 12 rfl)) (aa (ah (v := (I6 0)) rfl) (nN (aN (gD (σ := Nat × Int × List Val) (inl ([17, 18] ++ rg 236 14)) (fun ⟨SI, i233, DI⟩ => [(236, (I6 i233))]) (fun ⟨SI, i233, DI⟩ w => SH w0 M K0 w (hset [(1, .blk sb [iA, vs1, (I6 sx.status), (I6 sx.aK)]), (2, .own bB.raw 49 iA (List.zip fQ iW)), (3, .iJ (ek bz 51 (hat (((sx.frames.length : Int) - 1)).toNat) iW (List.map bB.sub fQ))), (4, .own (eD Val).raw 47 vs1 (List.zip sx.cells iI)), (5, .iJ (ek bz 51 hn iI (List.map (eD Val).sub sx.cells))), (7, .blk b1 [(.pointer (some ⟨sb, 0, none⟩))]), (12, .rd eY u32 x25.args), (14, .own bz 51 u38 jb.regs), (891, .own bz 51 dY DI), (915, .blk BG [(I6 x25.b), (I6 0), dY, (I6 x25.a)])]) ∧ i233 = (SI : Int) ∧ dZ (jW jb) (jX fQ x25 a sx) i233 (x25.args.drop SI) DI = some r) (fun ⟨SI, i233, DI⟩ => x25.args.length - SI) ⟨0, 0, (List.replicate A8.regs.toNat (⟨0, 0⟩ : Val))⟩ ⟨rfl, trivial⟩ ?_ ?_))))))))))))
 exact ⟨h.cn _, rfl, hs⟩
 rintro ⟨SI, i233, DI⟩ w dR ⟨h, hik, hs⟩
 refine nG ?_
 refine aa (eO rfl rfl) (nN ?_)
 refine aM (gQ rfl (fun e237 => ?_) (fun e237 => ?_))
 refine aH (ak ?_)
 obtain ⟨x234, e238a, e238b⟩ := fG (hik ▸ e237)
 rw [e238b, iQ] at hs
 generalize hnx236 : dZ (jW jb) (jX fQ x25 a sx) (i233 + 1) (x25.args.drop (SI + 1)) = nx236 at hs
 have e238r := fJ ((h.kL 12 rfl)).bT hik e237
 refine aM (aN (nG (aa (ah (v := (I6 i233)) rfl) ?_)))
 obtain ⟨b240, o241, cs242, h, r243, i239⟩ := h.Cn 12 951 rfl bZ rfl (ig hik) (fI hik e238a)
 obtain rfl := r243
 refine aa (i239 _ _ _ _ _ _ _ _ _ rfl rfl) (aa (fo (k := 0) h 951 rfl aR rfl rfl) (aa (ae (v := (I6 i233)) rfl) (aa (ae (v := (I6 x234)) rfl) (nN (mZ 8 mixed (by kernel_rfl) h fun w h => aG (ag jJ rfl) (aG (az h 915 rfl jH rfl rfl) (aG (ah (v := (I6 i233)) rfl) (aG (ah (v := u38) rfl) (aG (ah (v := (I6 x234)) rfl) ?_)))))))))
 obtain ⟨SB, e245, hs⟩ := aL hs
 obtain ⟨b247, q248, i246⟩ := h.rO 14 rfl aZ rfl (aC e245).1 (aC e245).2
 refine aG (i246 _ _ _ _ _ _ _ _ _ rfl rfl) ?_
 obtain ⟨cs249, m250, r251⟩ := h.uQ 14 rfl q248 (aC e245).2
 obtain rfl := r251
 refine aG (kS (k := 0) (vs := [(I6 SB.kind), (I6 SB.n)]) m250 aY rfl rfl rfl (bD rfl)) ?_
 obtain ⟨x252, e253, hs⟩ := aL hs
 obtain ⟨b255, q256, i254⟩ := h.rO 891 rfl aZ rfl (aC e253).1 (aC e253).2
 refine aG (i254 _ _ _ _ _ _ _ _ _ rfl rfl) (wz (rX (a' := SB) (vs := [(I6 SB.kind), (I6 SB.n)]) h 891 rfl q256 rfl (aC e253).2 aY rfl rfl rfl rfl rfl fun w h k257 => aA (ax (ak (aD (aa (dQ rfl rfl e238r) (aa (ah (v := (I6 ((i233 + 1)))) rfl) (aA (au ?_)))))))))
 subst hnx236
 exact jM ⟨SI + 1, i233 + 1, (DI.set (i233).toNat SB)⟩ ⟨h.cn _, by omega, hs⟩ (by have := oD e237; dsimp only; omega)
 rw [fH (hik ▸ e237), ll] at hs
 refine jl (bQ (bQ (fq (ak (lq (L := (fun b => ob iA b ∨ b = sb)) mixed h fun w h => bH 0 (aP.refl _ _) rfl aj (by kernel_rfl) (by kernel_rfl) (by kernel_rfl) (fun w hk => have h := h.wN 2 1 (by decide) rfl rfl hk; az h 7 rfl mi rfl rfl) (bH 1 (aP.refl _ _) rfl aj (by kernel_rfl) (by kernel_rfl) (by kernel_rfl) (fun w hk => have h := h.wN 2 1 (by decide) rfl rfl hk; az h 7 rfl mi rfl rfl) (bH 2 (aP.refl _ _) rfl aj (by kernel_rfl) (by kernel_rfl) (by kernel_rfl) (fun w hk => aX rfl) (bH 3 (aP.refl _ _) rfl aj (by kernel_rfl) (by kernel_rfl) (by kernel_rfl) (fun w hk => ag dP rfl) (bH 5 (aP.refl _ _) rfl aj (by kernel_rfl) (by kernel_rfl) (by kernel_rfl) (fun w hk => have h := h.wN 2 1 (by decide) rfl rfl hk; bU (vs := [(I6 x25.b), (I6 0), dY, (I6 x25.a)]) h 915 rfl gz rfl rfl rfl) ?_)))))))))
 obtain ⟨Gv, hs⟩ := bG hs
 obtain ⟨SK, ws266e⟩ : ∃ x, x = w := ⟨_, rfl⟩
 have qA : aP (fun b => ob iA b ∨ b = sb) SK w := ws266e ▸ aP.refl (fun b => ob iA b ∨ b = sb) w
 refine rU ws266e.symm (om 4 6 (by kernel_rfl) rfl aj rfl aj ?_ ?_)
 refine aa (az h 1 rfl gL rfl rfl) (aA (aT qA (bE 6 (by kernel_rfl) rfl aj ?_)))
 have Il : (Value.oneCell' dY) = true := (h.dD 891 rfl).one
 refine xL (R := bB.raw) (vs := [(.agg #[(I6 x25.b), (I6 0), dY, (I6 x25.a)])]) (xs := List.zip [(⟨x25.b, 0, DI, x25.a⟩ : LX.Frame)] [dY]) h 1024 kH rfl rfl rfl ⟨⟨rfl, Il⟩, trivial⟩ rfl fun w KO h Im Io => ?_
 have U5 : ∀ b, ob KO b → SK.heap.size ≤ b := fun b hb => Nat.le_trans qA.size (Io b hb)
 replace qA := qA.grow Im
 replace h := h.qh (N := bB) 891 (⟨x25.b, 0, DI, x25.a⟩ : LX.Frame) rfl rfl
 refine aA (aT qA (bE 7 (by kernel_rfl) rfl aj ?_))
 replace h := h.eP 3 14 rfl rfl (by decide) (aC e37).2 e39 rfl
 have yX := h.gm 3 rfl
 have BH := h.gm 891 rfl
 have U6 := qA.size
 refine ng (R := bB.raw) (m := List.zip [(⟨x25.b, 0, DI, x25.a⟩ : LX.Frame)] [dY]) h 2 rfl (h.eT 1024 rfl) kH rfl rfl rfl (by rw [cZ yX, cZ BH]; exact Gv.1) (by rw [cZ yX, cZ BH]; exact Gv.2) fun w vT h Ip Iq => ?_
 have U7 : ∀ b, ob vT b → b < SK.heap.size → ob iA b := fun b hb hl => Iq b hb (Nat.lt_of_lt_of_le hl (qA).size)
 replace qA := aP.step qA Ip (fun _ hx _ => .inl (hx))
 replace h := (h.qf 3 891 rfl rfl (by decide)).fV 1024
 rw [qg yX, ← List.map_append] at h
 obtain ⟨BI, FP⟩ : ∃ z, z = iW ++ [dY] := ⟨_, rfl⟩
 rw [← FP] at h
 refine aA (aT qA (dN 8 qA rfl (by kernel_rfl) (fun w hk => aX rfl) (dN 9 qA rfl (by kernel_rfl) (fun w hk => ag dP rfl) (bE 10 (by kernel_rfl) rfl aj (oC h 1 [vT, vs1, (I6 sx.status), (I6 sx.aK)] rfl gL rfl rfl rfl rfl (h.dD 2 rfl).one fun w h Ir => ?_)))))
 replace qA := aP.step qA Ir (fun _ hx _ => .inr (hx))
 refine aA (aT qA (gG (by kernel_rfl) (ax (ak (nG (aa (ae (v := (.slice none 0 0)) rfl) (aa (ae (v := (.bool (false))) rfl) (aa (ae (v := (.bool (true))) rfl) (nR (yJ (v1 := (.slice none 0 0)) (v2 := (.bool (false))) (v3 := (.bool (true))) Tryz.results70 rfl rfl rfl ?_))))))))))
 replace h := h.pair 1 2 (by decide)
 replace h := h.pair 1 3 (by decide)
 replace h := h.pair 1 4 (by decide)
 replace h := h.pair 1 5 (by decide)
 obtain rfl := fM hs
 subst wE
 obtain ⟨o1, o2, o3⟩ := h.lu 1 (C := (cT sb vT vs1 (sx.status) (sx.aK) (fQ ++ [(⟨x25.b, 0, DI, x25.a⟩ : LX.Frame)]) BI sx.cells iI)) rfl ⟨⟨⟨⟨trivial, trivial⟩, trivial⟩, trivial⟩, trivial⟩
 exact ⟨o2, .slice none 0 0, vT, vs1, BI, iI, rfl, o1, o3, gB.nil⟩
 have Il : (Value.oneCell' dY) = true := (h.dD 891 rfl).one
 refine xL (R := bB.raw) (vs := [(.agg #[(I6 x25.b), (I6 0), dY, (I6 x25.a)])]) (xs := List.zip [(⟨x25.b, 0, DI, x25.a⟩ : LX.Frame)] [dY]) h 1024 kH rfl rfl rfl ⟨⟨rfl, Il⟩, trivial⟩ rfl fun w KO h Im Io => ?_
 have U5 : ∀ b, ob KO b → SK.heap.size ≤ b := fun b hb => Nat.le_trans qA.size (Io b hb)
 replace qA := qA.grow Im
 replace h := h.qh (N := bB) 891 (⟨x25.b, 0, DI, x25.a⟩ : LX.Frame) rfl rfl
 refine aA (aT qA (bE 4 (by kernel_rfl) rfl aj (aa (az h 1 rfl gL rfl rfl) (aA (aT qA (bE 7 (by kernel_rfl) rfl aj ?_))))))
 replace h := h.eP 3 14 rfl rfl (by decide) (aC e37).2 e39 rfl
 have yX := h.gm 3 rfl
 have BH := h.gm 891 rfl
 have U6 := qA.size
 refine ng (R := bB.raw) (m := List.zip [(⟨x25.b, 0, DI, x25.a⟩ : LX.Frame)] [dY]) h 2 rfl (h.eT 1024 rfl) kH rfl rfl rfl (by rw [cZ yX, cZ BH]; exact Gv.1) (by rw [cZ yX, cZ BH]; exact Gv.2) fun w vT h Ip Iq => ?_
 have U7 : ∀ b, ob vT b → b < SK.heap.size → ob iA b := fun b hb hl => Iq b hb (Nat.lt_of_lt_of_le hl (qA).size)
 replace qA := aP.step qA Ip (fun _ hx _ => .inl (hx))
 replace h := (h.qf 3 891 rfl rfl (by decide)).fV 1024
 rw [qg yX, ← List.map_append] at h
 obtain ⟨BI, FP⟩ : ∃ z, z = iW ++ [dY] := ⟨_, rfl⟩
 rw [← FP] at h
 refine aA (aT qA (dN 8 qA rfl (by kernel_rfl) (fun w hk => aX rfl) (dN 9 qA rfl (by kernel_rfl) (fun w hk => ag dP rfl) (bE 10 (by kernel_rfl) rfl aj (oC h 1 [vT, vs1, (I6 sx.status), (I6 sx.aK)] rfl gL rfl rfl rfl rfl (h.dD 2 rfl).one fun w h Ir => ?_)))))
 replace qA := aP.step qA Ir (fun _ hx _ => .inr (hx))
 refine aA (aT qA (gG (by kernel_rfl) (ax (ak (nG (aa (ae (v := (.slice none 0 0)) rfl) (aa (ae (v := (.bool (false))) rfl) (aa (ae (v := (.bool (true))) rfl) (nR (yJ (v1 := (.slice none 0 0)) (v2 := (.bool (false))) (v3 := (.bool (true))) Tryz.results70 rfl rfl rfl ?_))))))))))
 replace h := h.pair 1 2 (by decide)
 replace h := h.pair 1 3 (by decide)
 replace h := h.pair 1 4 (by decide)
 replace h := h.pair 1 5 (by decide)
 obtain rfl := fM hs
 subst wE
 obtain ⟨o1, o2, o3⟩ := h.lu 1 (C := (cT sb vT vs1 (sx.status) (sx.aK) (fQ ++ [(⟨x25.b, 0, DI, x25.a⟩ : LX.Frame)]) BI sx.cells iI)) rfl ⟨⟨⟨⟨trivial, trivial⟩, trivial⟩, trivial⟩, trivial⟩
 exact ⟨o2, .slice none 0 0, vT, vs1, BI, iI, rfl, o1, o3, gB.nil⟩
 refine xc h 915 gz fun w BG h FM FN => ?_
 have FO : SF.heap.size ≤ BG := Nat.le_trans uJ.size FN
 replace uJ := uJ.trans FM
 refine aA (iU uJ (mg 10 (by kernel_rfl) rfl aj (uu (R := bz) (zs := [(I6 0), (I6 0)]) (a := (⟨0, 0⟩ : Val)) h 891 lC aY rfl (by decide) rfl rfl Ny rfl (fun _ _ => rfl) fun w dY h FK FL => ?_)))
 have SG : ∀ b, ob dY b → SF.heap.size ≤ b := fun b hb => Nat.le_trans uJ.size (FL b hb)
 replace uJ := uJ.trans FK
 refine aA (iU uJ (jG 11 uJ rfl (by kernel_rfl) (fun w hk => fe (pv := [(0, (I6 x25.b)), (3, (I6 x25.a)), (2, dY)]) (out := [(I6 x25.b), (I6 0), dY, (I6 x25.a)]) C9 rfl ⟨0, 1, [(I6 x25.b)], rfl, rfl, rfl, bD rfl, ⟨3, 1, [(I6 x25.a)], rfl, rfl, rfl, bD rfl, ⟨2, 1, [dY], rfl, (gH (h.dD 891 rfl).one), rfl, bD rfl, rfl⟩⟩⟩) (mg 13 (by kernel_rfl) rfl aj (vX (vs := [(I6 x25.b), (I6 0), dY, (I6 x25.a)]) h 915 [(I6 x25.b), (I6 0), dY, (I6 x25.a)] rfl gz rfl rfl rfl rfl rfl (ai rfl (ai rfl (ai (h.dD 891 rfl).one (ai rfl aS)))) fun w h Ik => ?_))))
 replace uJ := uJ.fresh Ik (fun x hx => hx ▸ FO)
 refine aA (iU uJ (qQ (by kernel_rfl) (ak (aM (nG (aa (ag rQ rfl) (aa (az h 13 rfl qU rfl rfl) (aa (bM bZ rfl (h.kL 12 rfl)) (aa (ah (v := (I6 0)) rfl) (nN (aN (gD (σ := Nat × Int × List Val) (inl ([17, 18] ++ rg 236 14)) (fun ⟨SL, i273, DJ⟩ => [(236, (I6 i273))]) (fun ⟨SL, i273, DJ⟩ w => SH w0 M K0 w (hset [(1, .blk sb [iA, vs1, (I6 sx.status), (I6 sx.aK)]), (2, .own bB.raw 49 iA (List.zip fQ iW)), (3, .iJ (ek bz 51 (hat (((sx.frames.length : Int) - 1)).toNat) iW (List.map bB.sub fQ))), (4, .own (eD Val).raw 47 vs1 (List.zip sx.cells iI)), (5, .iJ (ek bz 51 hn iI (List.map (eD Val).sub sx.cells))), (7, .blk b1 [(.pointer (some ⟨sb, 0, none⟩))]), (12, .rd eY u32 x25.args), (14, .own bz 51 u38 jb.regs), (891, .own bz 51 dY DJ), (915, .blk BG [(I6 x25.b), (I6 0), dY, (I6 x25.a)])]) ∧ i273 = (SL : Int) ∧ dZ (xC jb) (xD fQ x25 a sx) i273 (x25.args.drop SL) DJ = some r) (fun ⟨SL, i273, DJ⟩ => x25.args.length - SL) ⟨0, 0, (List.replicate A8.regs.toNat (⟨0, 0⟩ : Val))⟩ ⟨rfl, trivial⟩ ?_ ?_))))))))))))
 exact ⟨h.cn _, rfl, hs⟩
 rintro ⟨SL, i273, DJ⟩ w dR ⟨h, hik, hs⟩
 refine nG ?_
 refine aa (eO rfl rfl) (nN ?_)
 refine aM (gQ rfl (fun e277 => ?_) (fun e277 => ?_))
 refine aH (ak ?_)
 obtain ⟨x274, e278a, e278b⟩ := fG (hik ▸ e277)
 rw [e278b, iQ] at hs
 generalize hnx276 : dZ (xC jb) (xD fQ x25 a sx) (i273 + 1) (x25.args.drop (SL + 1)) = nx276 at hs
 have e278r := fJ ((h.kL 12 rfl)).bT hik e277
 refine aM (aN (nG (aa (ah (v := (I6 i273)) rfl) ?_)))
 obtain ⟨b280, o281, cs282, h, r283, i279⟩ := h.Cn 12 1096 rfl bZ rfl (ig hik) (fI hik e278a)
 obtain rfl := r283
 refine aa (i279 _ _ _ _ _ _ _ _ _ rfl rfl) (aa (fo (k := 0) h 1096 rfl aR rfl rfl) (aa (ae (v := (I6 i273)) rfl) (aa (ae (v := (I6 x274)) rfl) (nN (mZ 8 mixed (by kernel_rfl) h fun w h => aG (ag jJ rfl) (aG (az h 915 rfl jH rfl rfl) (aG (ah (v := (I6 i273)) rfl) (aG (ah (v := u38) rfl) (aG (ah (v := (I6 x274)) rfl) ?_)))))))))
 obtain ⟨SC, e285, hs⟩ := aL hs
 obtain ⟨b287, q288, i286⟩ := h.rO 14 rfl aZ rfl (aC e285).1 (aC e285).2
 refine aG (i286 _ _ _ _ _ _ _ _ _ rfl rfl) ?_
 obtain ⟨cs289, m290, r291⟩ := h.uQ 14 rfl q288 (aC e285).2
 obtain rfl := r291
 refine aG (kS (k := 0) (vs := [(I6 SC.kind), (I6 SC.n)]) m290 aY rfl rfl rfl (bD rfl)) ?_
 obtain ⟨x292, e293, hs⟩ := aL hs
 obtain ⟨b295, q296, i294⟩ := h.rO 891 rfl aZ rfl (aC e293).1 (aC e293).2
 refine aG (i294 _ _ _ _ _ _ _ _ _ rfl rfl) (wz (rX (a' := SC) (vs := [(I6 SC.kind), (I6 SC.n)]) h 891 rfl q296 rfl (aC e293).2 aY rfl rfl rfl rfl rfl fun w h k297 => aA (ax (ak (aD (aa (dQ rfl rfl e278r) (aa (ah (v := (I6 ((i273 + 1)))) rfl) (aA (au ?_)))))))))
 subst hnx276
 exact jM ⟨SL + 1, i273 + 1, (DJ.set (i273).toNat SC)⟩ ⟨h.cn _, by omega, hs⟩ (by have := oD e277; dsimp only; omega)
 rw [fH (hik ▸ e277), ll] at hs
 refine jl (bQ (bQ (fq (ak (lq (L := (fun b => ob iA b ∨ b = sb)) mixed h fun w h => bH 0 (aP.refl _ _) rfl aj (by kernel_rfl) (by kernel_rfl) (by kernel_rfl) (fun w hk => have h := h.wN 2 1 (by decide) rfl rfl hk; az h 7 rfl mi rfl rfl) (bH 1 (aP.refl _ _) rfl aj (by kernel_rfl) (by kernel_rfl) (by kernel_rfl) (fun w hk => have h := h.wN 2 1 (by decide) rfl rfl hk; az h 7 rfl mi rfl rfl) (bH 2 (aP.refl _ _) rfl aj (by kernel_rfl) (by kernel_rfl) (by kernel_rfl) (fun w hk => aX rfl) (bH 3 (aP.refl _ _) rfl aj (by kernel_rfl) (by kernel_rfl) (by kernel_rfl) (fun w hk => ag dP rfl) (bH 5 (aP.refl _ _) rfl aj (by kernel_rfl) (by kernel_rfl) (by kernel_rfl) (fun w hk => have h := h.wN 2 1 (by decide) rfl rfl hk; bU (vs := [(I6 x25.b), (I6 0), dY, (I6 x25.a)]) h 915 rfl gz rfl rfl rfl) ?_)))))))))
 obtain ⟨Gw, hs⟩ := bG hs
 obtain ⟨SN, ws306e⟩ : ∃ x, x = w := ⟨_, rfl⟩
 have qB : aP (fun b => ob iA b ∨ b = sb) SN w := ws306e ▸ aP.refl (fun b => ob iA b ∨ b = sb) w
 refine rU ws306e.symm (om 4 6 (by kernel_rfl) rfl aj rfl aj ?_ ?_)
 refine aa (az h 1 rfl gL rfl rfl) (aA (aT qB (bE 6 (by kernel_rfl) rfl aj ?_)))
 have Iu : (Value.oneCell' dY) = true := (h.dD 891 rfl).one
 refine xL (R := bB.raw) (vs := [(.agg #[(I6 x25.b), (I6 0), dY, (I6 x25.a)])]) (xs := List.zip [(⟨x25.b, 0, DJ, x25.a⟩ : LX.Frame)] [dY]) h 1169 kH rfl rfl rfl ⟨⟨rfl, Iu⟩, trivial⟩ rfl fun w KP h Iw Iy => ?_
 have U8 : ∀ b, ob KP b → SN.heap.size ≤ b := fun b hb => Nat.le_trans qB.size (Iy b hb)
 replace qB := qB.grow Iw
 replace h := h.qh (N := bB) 891 (⟨x25.b, 0, DJ, x25.a⟩ : LX.Frame) rfl rfl
 refine aA (aT qB (bE 7 (by kernel_rfl) rfl aj ?_))
 replace h := h.eP 3 14 rfl rfl (by decide) (aC e37).2 e39 rfl
 have yY := h.gm 3 rfl
 have BJ := h.gm 891 rfl
 have U9 := qB.size
 refine ng (R := bB.raw) (m := List.zip [(⟨x25.b, 0, DJ, x25.a⟩ : LX.Frame)] [dY]) h 2 rfl (h.eT 1169 rfl) kH rfl rfl rfl (by rw [cZ yY, cZ BJ]; exact Gw.1) (by rw [cZ yY, cZ BJ]; exact Gw.2) fun w vU h Iz IA => ?_
 have Va : ∀ b, ob vU b → b < SN.heap.size → ob iA b := fun b hb hl => IA b hb (Nat.lt_of_lt_of_le hl (qB).size)
 replace qB := aP.step qB Iz (fun _ hx _ => .inl (hx))
 replace h := (h.qf 3 891 rfl rfl (by decide)).fV 1169
 rw [qg yY, ← List.map_append] at h
 obtain ⟨BK, FQ⟩ : ∃ z, z = iW ++ [dY] := ⟨_, rfl⟩
 rw [← FQ] at h
 refine aA (aT qB (dN 8 qB rfl (by kernel_rfl) (fun w hk => aX rfl) (dN 9 qB rfl (by kernel_rfl) (fun w hk => ag dP rfl) (bE 10 (by kernel_rfl) rfl aj (oC h 1 [vU, vs1, (I6 sx.status), (I6 sx.aK)] rfl gL rfl rfl rfl rfl (h.dD 2 rfl).one fun w h IB => ?_)))))
 replace qB := aP.step qB IB (fun _ hx _ => .inr (hx))
 refine aA (aT qB (gG (by kernel_rfl) (ax (ak (nG (aa (ae (v := (.slice none 0 0)) rfl) (aa (ae (v := (.bool (false))) rfl) (aa (ae (v := (.bool (true))) rfl) (nR (yJ (v1 := (.slice none 0 0)) (v2 := (.bool (false))) (v3 := (.bool (true))) Tryz.results70 rfl rfl rfl ?_))))))))))
 replace h := h.pair 1 2 (by decide)
 replace h := h.pair 1 3 (by decide)
 replace h := h.pair 1 4 (by decide)
 replace h := h.pair 1 5 (by decide)
 obtain rfl := fM hs
 subst wE
 obtain ⟨o1, o2, o3⟩ := h.lu 1 (C := (cT sb vU vs1 (sx.status) (sx.aK) (fQ ++ [(⟨x25.b, 0, DJ, x25.a⟩ : LX.Frame)]) BK sx.cells iI)) rfl ⟨⟨⟨⟨trivial, trivial⟩, trivial⟩, trivial⟩, trivial⟩
 exact ⟨o2, .slice none 0 0, vU, vs1, BK, iI, rfl, o1, o3, gB.nil⟩
 have Iu : (Value.oneCell' dY) = true := (h.dD 891 rfl).one
 refine xL (R := bB.raw) (vs := [(.agg #[(I6 x25.b), (I6 0), dY, (I6 x25.a)])]) (xs := List.zip [(⟨x25.b, 0, DJ, x25.a⟩ : LX.Frame)] [dY]) h 1169 kH rfl rfl rfl ⟨⟨rfl, Iu⟩, trivial⟩ rfl fun w KP h Iw Iy => ?_
 have U8 : ∀ b, ob KP b → SN.heap.size ≤ b := fun b hb => Nat.le_trans qB.size (Iy b hb)
 replace qB := qB.grow Iw
 replace h := h.qh (N := bB) 891 (⟨x25.b, 0, DJ, x25.a⟩ : LX.Frame) rfl rfl
 refine aA (aT qB (bE 4 (by kernel_rfl) rfl aj (aa (az h 1 rfl gL rfl rfl) (aA (aT qB (bE 7 (by kernel_rfl) rfl aj ?_))))))
 replace h := h.eP 3 14 rfl rfl (by decide) (aC e37).2 e39 rfl
 have yY := h.gm 3 rfl
 have BJ := h.gm 891 rfl
 have U9 := qB.size
 refine ng (R := bB.raw) (m := List.zip [(⟨x25.b, 0, DJ, x25.a⟩ : LX.Frame)] [dY]) h 2 rfl (h.eT 1169 rfl) kH rfl rfl rfl (by rw [cZ yY, cZ BJ]; exact Gw.1) (by rw [cZ yY, cZ BJ]; exact Gw.2) fun w vU h Iz IA => ?_
 have Va : ∀ b, ob vU b → b < SN.heap.size → ob iA b := fun b hb hl => IA b hb (Nat.lt_of_lt_of_le hl (qB).size)
 replace qB := aP.step qB Iz (fun _ hx _ => .inl (hx))
 replace h := (h.qf 3 891 rfl rfl (by decide)).fV 1169
 rw [qg yY, ← List.map_append] at h
 obtain ⟨BK, FQ⟩ : ∃ z, z = iW ++ [dY] := ⟨_, rfl⟩
 rw [← FQ] at h
 refine aA (aT qB (dN 8 qB rfl (by kernel_rfl) (fun w hk => aX rfl) (dN 9 qB rfl (by kernel_rfl) (fun w hk => ag dP rfl) (bE 10 (by kernel_rfl) rfl aj (oC h 1 [vU, vs1, (I6 sx.status), (I6 sx.aK)] rfl gL rfl rfl rfl rfl (h.dD 2 rfl).one fun w h IB => ?_)))))
 replace qB := aP.step qB IB (fun _ hx _ => .inr (hx))
 refine aA (aT qB (gG (by kernel_rfl) (ax (ak (nG (aa (ae (v := (.slice none 0 0)) rfl) (aa (ae (v := (.bool (false))) rfl) (aa (ae (v := (.bool (true))) rfl) (nR (yJ (v1 := (.slice none 0 0)) (v2 := (.bool (false))) (v3 := (.bool (true))) Tryz.results70 rfl rfl rfl ?_))))))))))
 replace h := h.pair 1 2 (by decide)
 replace h := h.pair 1 3 (by decide)
 replace h := h.pair 1 4 (by decide)
 replace h := h.pair 1 5 (by decide)
 obtain rfl := fM hs
 subst wE
 obtain ⟨o1, o2, o3⟩ := h.lu 1 (C := (cT sb vU vs1 (sx.status) (sx.aK) (fQ ++ [(⟨x25.b, 0, DJ, x25.a⟩ : LX.Frame)]) BK sx.cells iI)) rfl ⟨⟨⟨⟨trivial, trivial⟩, trivial⟩, trivial⟩, trivial⟩
 exact ⟨o2, .slice none 0 0, vU, vs1, BK, iI, rfl, o1, o3, gB.nil⟩
 refine nG (aa (bu rfl rfl) (aa (ae (v := (.bool (decide ((x25.op : Int) = 8)))) rfl) (nN (aI hs rfl (fun c308 hs => ?_) (fun c308 hs => ?_)))))
 refine aM (zf mixed h fun w h => eG 0 (aP.refl BE _) rfl aj (by kernel_rfl) (by kernel_rfl) (by kernel_rfl) (fun w hk => ah (v := u38) rfl) (eG 1 (aP.refl BE _) rfl aj (by kernel_rfl) (by kernel_rfl) (by kernel_rfl) (fun w hk => ag jy rfl) (eG 2 (aP.refl BE _) rfl aj (by kernel_rfl) (by kernel_rfl) (by kernel_rfl) (fun w hk => have h := h.grow hk; az h 13 rfl aR rfl rfl) ?_)))
 obtain ⟨mU, KQ, hs⟩ := aL hs
 obtain ⟨bq309x3_4, Yo, Yp⟩ := h.rO 14 rfl aZ rfl (aC KQ).1 (aC KQ).2
 refine eG 3 (aP.refl BE _) rfl aj (by kernel_rfl) (by kernel_rfl) (by kernel_rfl) (fun w hk => Yp _ _ _ _ _ _ _ _ _ rfl rfl) ?_
 obtain ⟨csq309x4_1, Yq, Yr⟩ := h.uQ 14 rfl Yo (aC KQ).2
 obtain rfl := Yr
 refine eG 4 (aP.refl BE _) rfl aj (by kernel_rfl) (by kernel_rfl) (by kernel_rfl) (fun w hk => have h := h.grow hk; kS (k := 0) (vs := [(I6 mU.kind), (I6 mU.n)]) (Yq.grow hk) aY rfl rfl rfl (bD rfl)) (eG 5 (aP.refl BE _) rfl aj (by kernel_rfl) (by kernel_rfl) (by kernel_rfl) (fun w hk => ah (v := (.pointer (some ⟨b6, (((sx.frames.length : Int) - 1)).toNat * 4, none⟩))) rfl) (eG 6 (aP.refl BE _) rfl aj (by kernel_rfl) (by kernel_rfl) (by kernel_rfl) (fun w hk => aX rfl) (eG 7 (aP.refl BE _) rfl aj (by kernel_rfl) (by kernel_rfl) (by kernel_rfl) (fun w hk => ag zg rfl) ?_)))
 obtain ⟨csq309x8_1, Yt, Yu⟩ := h.uQ 2 rfl q7 (eU (aC e37).2 e39)
 obtain ⟨rfl, -⟩ := Yu
 refine eG 8 (aP.refl BE _) rfl aj (by kernel_rfl) (by kernel_rfl) (by kernel_rfl) (fun w hk => have h := h.grow hk; lh (k := 3) (Yt.grow hk) aR rfl rfl) ?_
 obtain ⟨ws310, ws310e⟩ : ∃ x, x = w := ⟨_, rfl⟩
 have Le : Grow ws310 w := ws310e ▸ aP.refl BE w
 refine CP ws310e.symm (mg 9 (by kernel_rfl) rfl aj (xc h 1349 aY fun w Yv h Vb Vd => ?_))
 have Ve : ws310.heap.size ≤ Yv := Nat.le_trans Le.size Vd
 replace Le := Le.trans Vb
 refine aA (iU Le (mg 10 (by kernel_rfl) rfl aj (vX (vs := [(I6 mU.kind), (I6 mU.n)]) h 1349 [(I6 mU.kind), (I6 mU.n)] rfl aY rfl rfl rfl rfl rfl (ai rfl (ai rfl aS)) fun w h Vf => ?_)))
 replace Le := Le.fresh Vf (fun x hx => hx ▸ Ve)
 refine aA (iU Le (jG 11 Le rfl (by kernel_rfl) (fun w hk => ae (v := (I6 jb.kD)) rfl) (qQ (by kernel_rfl) (ak (aM (mZ 14 mixed (by kernel_rfl) h fun w h => aG (az h 7 rfl mi rfl rfl) (aG (az h 7 rfl mi rfl rfl) (aG (aX rfl) (aG (ag dP rfl) (aG (az h 1 rfl gL rfl rfl) (aG (az h 7 rfl mi rfl rfl) (aG (aX rfl) (aG (ag dP rfl) (aG (az h 1 rfl gL rfl rfl) (aG (nA (N := bB) bV rfl (h.eT 2 rfl) (h.gm 3 rfl)) ?_)))))))))))))))
 obtain ⟨a312, hs⟩ := bG hs
 refine aG (oh rfl rfl a312) ?_
 obtain ⟨x313, e314, hs⟩ := aL hs
 obtain ⟨e317, e317a, e317b, e317c⟩ := VB e314
 replace h := h.eP 3 14 rfl rfl (by decide) (aC e37).2 e39 rfl
 have us318z := h.gm 3 rfl
 obtain ⟨Yw, h, i316⟩ := h.cutO 2 rfl bV rfl e317b (by rw [cZ us318z]; exact e317c)
 rw [OJ] at h
 rw [cZ us318z] at i316
 replace h := h.VO 3 (((fQ.length : Int) - 1)).toNat rfl
 generalize List.take (((fQ.length : Int) - 1)).toNat iW = Wi at h
 refine aG (i316 _ _ _ _ _ _ _ _ _ _ rfl (.inl ⟨rfl, rfl⟩) (.inr (congrArg some rfl))) (aG (aX rfl) (aG (ag dP rfl) (wz (gP h 1 [Yw, vs1, (I6 sx.status), (I6 sx.aK)] rfl gL rfl rfl rfl rfl (h.dD 2 rfl).one fun w h => nJ (aa (az h 7 rfl mi rfl rfl) (aa (aX rfl) (aa (ag dP rfl) (aa (az h 1 rfl gL rfl rfl) (aa (nA (N := bB) bV rfl (h.eT 2 rfl) (h.gm 3 rfl)) (aa (ae (v := (I6 (((fQ.take (((fQ.length : Int) - 1)).toNat).length : Int)))) rfl) (nJ (aa (ah (v := (I6 (((fQ.take (((fQ.length : Int) - 1)).toNat).length : Int)))) rfl) (aa (bu rfl rfl) (nN (aI hs rfl (fun c319 hs => ?_) (fun c319 hs => ?_))))))))))))))))
 refine aD (aa (az h 7 rfl mi rfl rfl) (aa (aX rfl) (aa (ag kN rfl) (gP h 1 [Yw, vs1, (I6 1), (I6 sx.aK)] rfl aR rfl rfl rfl rfl rfl fun w h => aA (ax (ak (nG (aa (ae (v := (.slice none 0 0)) rfl) (aa (ae (v := (.bool (false))) rfl) (aa (ae (v := (.bool (true))) rfl) (nR (yJ (v1 := (.slice none 0 0)) (v2 := (.bool (false))) (v3 := (.bool (true))) Tryz.results70 rfl rfl rfl ?_))))))))))))
 replace h := h.pair 1 2 (by decide)
 replace h := h.pair 1 3 (by decide)
 replace h := h.pair 1 4 (by decide)
 replace h := h.pair 1 5 (by decide)
 obtain rfl := fM hs
 subst wE
 obtain ⟨o1, o2, o3⟩ := h.lu 1 (C := (cT sb Yw vs1 (1) (sx.aK) (fQ.take (((fQ.length : Int) - 1)).toNat) Wi sx.cells iI)) rfl ⟨⟨⟨⟨trivial, trivial⟩, trivial⟩, trivial⟩, trivial⟩
 exact ⟨o2, .slice none 0 0, Yw, vs1, Wi, iI, rfl, o1, o3, gB.nil⟩
 refine mZ 12 mixed (by kernel_rfl) h fun w h => aG (az h 7 rfl mi rfl rfl) (aG (aX rfl) (aG (ag dP rfl) (aG (az h 1 rfl gL rfl rfl) (aG (ah (v := (I6 (((fQ.take (((fQ.length : Int) - 1)).toNat).length : Int)))) rfl) ?_))))
 obtain ⟨a320, hs⟩ := bG hs
 refine aG (oh rfl rfl a320) ?_
 obtain ⟨QT, e322, hs⟩ := aL hs
 obtain ⟨u326, e327, h⟩ := h.mq 3 1398 QT.regs rfl rfl (by decide) (aC e322).2 rfl
 obtain ⟨b324, q325, i323⟩ := h.rO 2 rfl bV rfl (aC e322).1 (eU (aC e322).2 e327)
 refine aG (i323 _ _ _ _ _ _ _ _ _ rfl rfl) (aG (ag jJ rfl) ?_)
 obtain ⟨cs328, m329, r330⟩ := h.uQ 2 rfl q325 (eU (aC e322).2 e327)
 obtain ⟨rfl, -⟩ := r330
 refine aG (lh (k := 2) m329 jH rfl rfl) (aG (ah (v := (I6 jb.kD)) rfl) (aG (bU (vs := [(I6 mU.kind), (I6 mU.n)]) h 1349 rfl aY rfl rfl rfl) ?_))
 obtain ⟨x331, e332, hs⟩ := aL hs
 obtain ⟨b334, q335, i333⟩ := h.rO 1398 rfl aZ rfl (aC e332).1 (aC e332).2
 refine aG (i333 _ _ _ _ _ _ _ _ _ rfl rfl) (wz (rX (a' := mU) (vs := [(I6 mU.kind), (I6 mU.n)]) h 1398 rfl q335 rfl (aC e332).2 aY rfl rfl rfl rfl rfl fun w h k336 => aA (ax (ak (nG (aa (ae (v := (.slice none 0 0)) rfl) (aa (ae (v := (.bool (false))) rfl) (aa (ae (v := (.bool (true))) rfl) (nR (yJ (v1 := (.slice none 0 0)) (v2 := (.bool (false))) (v3 := (.bool (true))) Tryz.results70 rfl rfl rfl ?_))))))))))
 replace h := h.mo 2 3 1398 ({ QT with regs := (QT.regs.set (jb.kD).toNat mU) }) rfl rfl rfl (by decide) (by decide) (by decide) (aC e322).2 e327 rfl
 replace h := h.pair 1 2 (by decide)
 replace h := h.pair 1 3 (by decide)
 replace h := h.pair 1 4 (by decide)
 replace h := h.pair 1 5 (by decide)
 obtain rfl := fM hs
 subst wE
 obtain ⟨o1, o2, o3⟩ := h.lu 1 (C := (cT sb Yw vs1 (sx.status) (sx.aK) ((fQ.take (((fQ.length : Int) - 1)).toNat).set ((((fQ.take (((fQ.length : Int) - 1)).toNat).length : Int) - 1)).toNat ({ QT with regs := (QT.regs.set (jb.kD).toNat mU) })) Wi sx.cells iI)) rfl ⟨⟨⟨⟨trivial, trivial⟩, trivial⟩, trivial⟩, trivial⟩
 exact ⟨o2, .slice none 0 0, Yw, vs1, Wi, iI, rfl, o1, o3, gB.nil⟩
 refine cu (σ := Bool) (inl [307, 308, 309]) (fun Yc => [(307, (.bool (Yc)))]) (fun Yc w => SH w0 M K0 w (hset [(1, .blk sb [iA, vs1, (I6 sx.status), (I6 sx.aK)]), (2, .own bB.raw 49 iA (List.zip fQ iW)), (3, .iJ (ek bz 51 (hat (((sx.frames.length : Int) - 1)).toNat) iW (List.map bB.sub fQ))), (4, .own (eD Val).raw 47 vs1 (List.zip sx.cells iI)), (5, .iJ (ek bz 51 hn iI (List.map (eD Val).sub sx.cells))), (7, .blk b1 [(.pointer (some ⟨sb, 0, none⟩))]), (12, .rd eY u32 x25.args), (13, .blk G9 [(I6 x25.op), (I6 x25.a), (I6 x25.b), (I6 x25.c), u32]), (14, .own bz 51 u38 jb.regs)]) ∧ iE jb x25 a fQ sx Yc = some r) ?_ ?_
 rintro Yc w dR ⟨h, hs⟩
 refine aI hs rfl (fun c338 hs => ?_) (fun c338 hs => ?_)
 refine nG (aa (ah (v := u38) rfl) (aa (ag jy rfl) (aa (az h 13 rfl aR rfl rfl) ?_)))
 obtain ⟨Jo, e340, hs⟩ := aL hs
 obtain ⟨b342, q343, i341⟩ := h.rO 14 rfl aZ rfl (aC e340).1 (aC e340).2
 refine aa (i341 _ _ _ _ _ _ _ _ _ rfl rfl) ?_
 obtain ⟨cs344, m345, r346⟩ := h.uQ 14 rfl q343 (aC e340).2
 obtain rfl := r346
 refine aa (kS (k := 0) (vs := [(I6 Jo.kind), (I6 Jo.n)]) m345 aY rfl rfl rfl (bD rfl)) (bI h 1399 aY fun w b347 h => dK (vs := [(I6 Jo.kind), (I6 Jo.n)]) h 1399 [(I6 Jo.kind), (I6 Jo.n)] rfl aY rfl rfl rfl rfl rfl (ai rfl (ai rfl aS)) fun w h => nK (aa (ag lJ rfl) (aa (az h 1399 rfl aR rfl rfl) (aa (gM rfl rfl) (nN (aI hs rfl (fun c348 hs => ?_) (fun c348 hs => ?_)))))))
 refine nG (aa (ae (v := (.slice none 0 0)) rfl) (aa (ae (v := (.bool (false))) rfl) (aa (ae (v := (.bool (false))) rfl) (nR (ay (aB (ay (yJ (v1 := (.slice none 0 0)) (v2 := (.bool (false))) (v3 := (.bool (false))) Tryz.results70 rfl rfl rfl ?_))))))))
 replace h := h.eP 3 14 rfl rfl (by decide) (aC e37).2 e39 rfl
 replace h := h.pair 1 2 (by decide)
 replace h := h.pair 1 3 (by decide)
 replace h := h.pair 1 4 (by decide)
 replace h := h.pair 1 5 (by decide)
 obtain rfl := fM hs
 subst wE
 obtain ⟨o1, o2, o3⟩ := h.lu 1 (C := (cT sb iA vs1 (sx.status) (sx.aK) fQ iW sx.cells iI)) rfl ⟨⟨⟨⟨trivial, trivial⟩, trivial⟩, trivial⟩, trivial⟩
 exact ⟨o2, .slice none 0 0, iA, vs1, iW, iI, rfl, o1, o3, gB.nil⟩
 refine aH (ak (aM (nG (aa (ag ni rfl) (aa (az h 13 rfl aR rfl rfl) (aa (bu rfl rfl) (nN (aI hs rfl (fun c349 hs => ?_) (fun c349 hs => ?_)))))))))
 refine nG (aa (ag fu rfl) (aa (az h 1399 rfl aR rfl rfl) (sV (R := eY) (vs := [(I6 Jo.n)]) (xs := [Jo.n]) h 1400 kI rfl rfl rfl ⟨rfl, trivial⟩ rfl fun w u350 h => aa (ae (v := u350) rfl) (aa (ae (v := (.bool (false))) rfl) (aa (ae (v := (.bool (true))) rfl) (nR (ay (aB (ay (yJ (v1 := u350) (v2 := (.bool (false))) (v3 := (.bool (true))) Tryz.results70 rfl rfl rfl ?_))))))))))
 replace h := h.eP 3 14 rfl rfl (by decide) (aC e37).2 e39 rfl
 replace h := h.freeze 1400 rfl
 replace h := h.pair 1 2 (by decide)
 replace h := h.pair 1 3 (by decide)
 replace h := h.pair 1 4 (by decide)
 replace h := h.pair 1 5 (by decide)
 obtain rfl := fM hs
 subst wE
 obtain ⟨o1, o2, o3⟩ := h.lu 1 (C := (cT sb iA vs1 (sx.status) (sx.aK) fQ iW sx.cells iI)) rfl ⟨⟨⟨⟨trivial, trivial⟩, trivial⟩, trivial⟩, trivial⟩
 exact ⟨o2, u350, iA, vs1, iW, iI, rfl, o1, o3, h.Qc 1 1400 rfl rfl⟩
 refine aH (ak (aM (lq (L := (fun x => x = sb)) mixed h fun w h => bH 0 (aP.refl _ _) rfl aj (by kernel_rfl) (by kernel_rfl) (by kernel_rfl) (fun w hk => have h := h.qR 1 rfl hk; az h 7 rfl mi rfl rfl) (bH 1 (aP.refl _ _) rfl aj (by kernel_rfl) (by kernel_rfl) (by kernel_rfl) (fun w hk => have h := h.qR 1 rfl hk; az h 7 rfl mi rfl rfl) (bH 2 (aP.refl _ _) rfl aj (by kernel_rfl) (by kernel_rfl) (by kernel_rfl) (fun w hk => ag fu rfl) (bH 3 (aP.refl _ _) rfl aj (by kernel_rfl) (by kernel_rfl) (by kernel_rfl) (fun w hk => have h := h.qR 1 rfl hk; az h 1399 rfl aR rfl rfl) (bH 4 (aP.refl _ _) rfl aj (by kernel_rfl) (by kernel_rfl) (by kernel_rfl) (fun w hk => aX rfl) (bH 5 (aP.refl _ _) rfl aj (by kernel_rfl) (by kernel_rfl) (by kernel_rfl) (fun w hk => ag kN rfl) ?_))))))))
 obtain ⟨ws355, ws355e⟩ : ∃ x, x = w := ⟨_, rfl⟩
 have Lf : aP (fun x => x = sb) ws355 w := ws355e ▸ aP.refl (fun x => x = sb) w
 refine rU ws355e.symm (bE 6 (by kernel_rfl) rfl aj (oC h 1 [iA, vs1, (I6 3), (I6 sx.aK)] rfl aR rfl rfl rfl rfl rfl fun w h Yx => ?_))
 replace Lf := Lf.same Yx
 refine aA (aT Lf (dN 7 Lf rfl (by kernel_rfl) (fun w hk => aX rfl) (dN 8 Lf rfl (by kernel_rfl) (fun w hk => ag vJ rfl) (bE 9 (by kernel_rfl) rfl aj (oC h 1 [iA, vs1, (I6 3), (I6 Jo.n)] rfl aR rfl rfl rfl rfl rfl fun w h Yy => ?_)))))
 replace Lf := Lf.same Yy
 refine aA (aT Lf (gG (by kernel_rfl) (ak (nG (aa (ae (v := (.slice none 0 0)) rfl) (aa (ae (v := (.bool (true))) rfl) (aa (ae (v := (.bool (true))) rfl) (nR (aB (ay (yJ (v1 := (.slice none 0 0)) (v2 := (.bool (true))) (v3 := (.bool (true))) Tryz.results70 rfl rfl rfl ?_)))))))))))
 replace h := h.eP 3 14 rfl rfl (by decide) (aC e37).2 e39 rfl
 replace h := h.pair 1 2 (by decide)
 replace h := h.pair 1 3 (by decide)
 replace h := h.pair 1 4 (by decide)
 replace h := h.pair 1 5 (by decide)
 obtain rfl := fM hs
 subst wE
 obtain ⟨o1, o2, o3⟩ := h.lu 1 (C := (cT sb iA vs1 (3) (Jo.n) fQ iW sx.cells iI)) rfl ⟨⟨⟨⟨trivial, trivial⟩, trivial⟩, trivial⟩, trivial⟩
 exact ⟨o2, .slice none 0 0, iA, vs1, iW, iI, rfl, o1, o3, gB.nil⟩
 refine nG (aa (bu rfl rfl) (aa (ae (v := (.bool (decide ((x25.op : Int) = 10)))) rfl) (nN (aI hs rfl (fun c357 hs => ?_) (fun c357 hs => ?_)))))
 refine nG (aa (ae (v := (.slice none 0 0)) rfl) (aa (ae (v := (.bool (true))) rfl) (aa (ae (v := (.bool (true))) rfl) (nR (aB (ay (yJ (v1 := (.slice none 0 0)) (v2 := (.bool (true))) (v3 := (.bool (true))) Tryz.results70 rfl rfl rfl ?_)))))))
 replace h := h.eP 3 14 rfl rfl (by decide) (aC e37).2 e39 rfl
 replace h := h.pair 1 2 (by decide)
 replace h := h.pair 1 3 (by decide)
 replace h := h.pair 1 4 (by decide)
 replace h := h.pair 1 5 (by decide)
 obtain rfl := fM hs
 subst wE
 obtain ⟨o1, o2, o3⟩ := h.lu 1 (C := (cT sb iA vs1 (sx.status) (sx.aK) fQ iW sx.cells iI)) rfl ⟨⟨⟨⟨trivial, trivial⟩, trivial⟩, trivial⟩, trivial⟩
 exact ⟨o2, .slice none 0 0, iA, vs1, iW, iI, rfl, o1, o3, gB.nil⟩
 refine nG (aa (bu rfl rfl) (aa (ae (v := (.bool (decide ((x25.op : Int) = 12)))) rfl) (nN (aI hs rfl (fun c358 hs => ?_) (fun c358 hs => ?_)))))
 refine aD (aa (ah (v := (.pointer (some ⟨b6, (((sx.frames.length : Int) - 1)).toNat * 4, none⟩))) rfl) (aa (ag gN rfl) (aa (az h 13 rfl aR rfl rfl) (aa (aX rfl) (aa (ag nO rfl) (IM (a' := (({ jb with at_ := x25.b }), u38)) h 2 rfl q7 rfl (eU (aC e37).2 e39) aR rfl rfl rfl rfl (by rintro _ ⟨rfl, hq⟩; exact ⟨rfl, hq⟩) fun w h => ?_))))))
 rw [CR e39] at h
 replace h := h.WO 3 ({ jb with at_ := x25.b }) rfl
 refine aA (ax (ak (nG (aa (ae (v := (.slice none 0 0)) rfl) (aa (ae (v := (.bool (false))) rfl) (aa (ae (v := (.bool (true))) rfl) (nR (yJ (v1 := (.slice none 0 0)) (v2 := (.bool (false))) (v3 := (.bool (true))) Tryz.results70 rfl rfl rfl ?_))))))))
 replace h := h.eP 3 14 rfl rfl (by decide) (mh (aC e37).2) e39 rfl
 replace h := h.pair 1 2 (by decide)
 replace h := h.pair 1 3 (by decide)
 replace h := h.pair 1 4 (by decide)
 replace h := h.pair 1 5 (by decide)
 obtain rfl := fM hs
 subst wE
 obtain ⟨o1, o2, o3⟩ := h.lu 1 (C := (cT sb iA vs1 (sx.status) (sx.aK) (fQ.set (((sx.frames.length : Int) - 1)).toNat ({ jb with at_ := x25.b })) iW sx.cells iI)) rfl ⟨⟨⟨⟨trivial, trivial⟩, trivial⟩, trivial⟩, trivial⟩
 exact ⟨o2, .slice none 0 0, iA, vs1, iW, iI, rfl, o1, o3, gB.nil⟩
 refine nG (aa (bu rfl rfl) (aa (ae (v := (.bool (decide ((x25.op : Int) = 13)))) rfl) (nN (aI hs rfl (fun c359 hs => ?_) (fun c359 hs => ?_)))))
 refine nG (aa (ah (v := u38) rfl) (aa (ag jy rfl) (aa (az h 13 rfl aR rfl rfl) ?_)))
 obtain ⟨Oo, e361, hs⟩ := aL hs
 obtain ⟨b363, q364, i362⟩ := h.rO 14 rfl aZ rfl (aC e361).1 (aC e361).2
 refine aa (i362 _ _ _ _ _ _ _ _ _ rfl rfl) ?_
 obtain ⟨cs365, m366, r367⟩ := h.uQ 14 rfl q364 (aC e361).2
 obtain rfl := r367
 refine aa (kS (k := 0) (vs := [(I6 Oo.kind), (I6 Oo.n)]) m366 aY rfl rfl rfl (bD rfl)) (bI h 1533 aY fun w b368 h => dK (vs := [(I6 Oo.kind), (I6 Oo.n)]) h 1533 [(I6 Oo.kind), (I6 Oo.n)] rfl aY rfl rfl rfl rfl rfl (ai rfl (ai rfl aS)) fun w h => nJ (aa (ag lJ rfl) (aa (az h 1533 rfl aR rfl rfl) (aa (gM rfl rfl) (aa (ah (v := (.bool (decide ((Oo.kind : Int) ≠ 2)))) rfl) (aF rfl rfl (fun q => ag fu rfl) (aF rfl rfl (fun q => az h 1533 rfl aR (eu q) rfl) (aF rfl rfl (fun q => bu (eu q) rfl) (aa (fZ rfl rfl mY) (nN (aI hs rfl (fun c369 hs => ?_) (fun c369 hs => ?_))))))))))))
 refine aD (aa (ah (v := (.pointer (some ⟨b6, (((sx.frames.length : Int) - 1)).toNat * 4, none⟩))) rfl) (aa (ag gN rfl) (aa (az h 13 rfl aR rfl rfl) (aa (aX rfl) (aa (ag nO rfl) (IM (a' := (({ jb with at_ := x25.b }), u38)) h 2 rfl q7 rfl (eU (aC e37).2 e39) aR rfl rfl rfl rfl (by rintro _ ⟨rfl, hq⟩; exact ⟨rfl, hq⟩) fun w h => ?_))))))
 rw [CR e39] at h
 replace h := h.WO 3 ({ jb with at_ := x25.b }) rfl
 refine aA (ax (ak (nG (aa (ae (v := (.slice none 0 0)) rfl) (aa (ae (v := (.bool (false))) rfl) (aa (ae (v := (.bool (true))) rfl) (nR (yJ (v1 := (.slice none 0 0)) (v2 := (.bool (false))) (v3 := (.bool (true))) Tryz.results70 rfl rfl rfl ?_))))))))
 replace h := h.eP 3 14 rfl rfl (by decide) (mh (aC e37).2) e39 rfl
 replace h := h.pair 1 2 (by decide)
 replace h := h.pair 1 3 (by decide)
 replace h := h.pair 1 4 (by decide)
 replace h := h.pair 1 5 (by decide)
 obtain rfl := fM hs
 subst wE
 obtain ⟨o1, o2, o3⟩ := h.lu 1 (C := (cT sb iA vs1 (sx.status) (sx.aK) (fQ.set (((sx.frames.length : Int) - 1)).toNat ({ jb with at_ := x25.b })) iW sx.cells iI)) rfl ⟨⟨⟨⟨trivial, trivial⟩, trivial⟩, trivial⟩, trivial⟩
 exact ⟨o2, .slice none 0 0, iA, vs1, iW, iI, rfl, o1, o3, gB.nil⟩
 refine aH (ax (ak (nG (aa (ae (v := (.slice none 0 0)) rfl) (aa (ae (v := (.bool (false))) rfl) (aa (ae (v := (.bool (true))) rfl) (nR (yJ (v1 := (.slice none 0 0)) (v2 := (.bool (false))) (v3 := (.bool (true))) Tryz.results70 rfl rfl rfl ?_))))))))
 replace h := h.eP 3 14 rfl rfl (by decide) (aC e37).2 e39 rfl
 replace h := h.pair 1 2 (by decide)
 replace h := h.pair 1 3 (by decide)
 replace h := h.pair 1 4 (by decide)
 replace h := h.pair 1 5 (by decide)
 obtain rfl := fM hs
 subst wE
 obtain ⟨o1, o2, o3⟩ := h.lu 1 (C := (cT sb iA vs1 (sx.status) (sx.aK) fQ iW sx.cells iI)) rfl ⟨⟨⟨⟨trivial, trivial⟩, trivial⟩, trivial⟩, trivial⟩
 exact ⟨o2, .slice none 0 0, iA, vs1, iW, iI, rfl, o1, o3, gB.nil⟩
 refine aH (ax (ak (nG (aa (ae (v := (.slice none 0 0)) rfl) (aa (ae (v := (.bool (false))) rfl) (aa (ae (v := (.bool (true))) rfl) (nR (yJ (v1 := (.slice none 0 0)) (v2 := (.bool (false))) (v3 := (.bool (true))) Tryz.results70 rfl rfl rfl ?_))))))))
 replace h := h.eP 3 14 rfl rfl (by decide) (aC e37).2 e39 rfl
 replace h := h.pair 1 2 (by decide)
 replace h := h.pair 1 3 (by decide)
 replace h := h.pair 1 4 (by decide)
 replace h := h.pair 1 5 (by decide)
 obtain rfl := fM hs
 subst wE
 obtain ⟨o1, o2, o3⟩ := h.lu 1 (C := (cT sb iA vs1 (sx.status) (sx.aK) fQ iW sx.cells iI)) rfl ⟨⟨⟨⟨trivial, trivial⟩, trivial⟩, trivial⟩, trivial⟩
 exact ⟨o2, .slice none 0 0, iA, vs1, iW, iI, rfl, o1, o3, gB.nil⟩
 refine nG (aa (bu rfl rfl) (aa (ae (v := (.bool (decide ((x25.op : Int) = 9)))) rfl) (nN (aI hs rfl (fun c370 hs => ?_) (fun c370 hs => ?_)))))
 refine aH (au ?_)
 exact bS (decide ((x25.op : Int) = 9)) ⟨h.cn _, hs⟩
 refine aD (aa (bu rfl rfl) (aa (ae (v := (.bool (decide ((x25.op : Int) = 11)))) rfl) (aA (au ?_))))
 exact bS (decide ((x25.op : Int) = 11)) ⟨h.cn _, hs⟩
 refine nG (aa (ah (v := (.pointer (some ⟨b6, (((sx.frames.length : Int) - 1)).toNat * 4, none⟩))) rfl) (aa (aX rfl) (aa (ag nO rfl) ?_)))
 obtain ⟨cs371, m372, r373⟩ := h.uQ 2 rfl q7 (eU (aC e4).2 e9)
 obtain ⟨rfl, -⟩ := r373
 refine aa (lh (k := 1) m372 aR rfl rfl) (aa (ah (v := u20) rfl) (aa (bM iD rfl (h.kL 10 rfl)) ?_))
 obtain ⟨a374, hs⟩ := bG hs
 refine aa (oh rfl rfl a374) (aa (eO rfl rfl) (nN (aI hs rfl (fun c375 hs => ?_) (fun c375 hs => ?_))))
 refine aD (aa (ah (v := (.pointer (some ⟨b6, (((sx.frames.length : Int) - 1)).toNat * 4, none⟩))) rfl) (aa (aX rfl) (aa (ag nO rfl) ?_)))
 obtain ⟨cs376, m377, r378⟩ := h.uQ 2 rfl q7 (eU (aC e4).2 e9)
 obtain ⟨rfl, -⟩ := r378
 refine aa (lh (k := 1) m377 aR rfl rfl) ?_
 obtain ⟨a379, hs⟩ := bG hs
 refine aa (dQ rfl rfl a379) (aa (aX rfl) (aa (ag nO rfl) (IM (a' := (({ x3 with at_ := (x3.at_ + 1) }), u8)) h 2 rfl q7 rfl (eU (aC e4).2 e9) aR rfl rfl rfl rfl (by rintro _ ⟨rfl, hq⟩; exact ⟨rfl, hq⟩) fun w h => ?_)))
 rw [CR e9] at h
 replace h := h.WO 3 ({ x3 with at_ := (x3.at_ + 1) }) rfl
 refine aA ?_
 replace h := h.eP 3 8 rfl rfl (by decide) (mh (aC e4).2) e9 rfl
 refine au ?_
 exact bS (sx.frames.set (((sx.frames.length : Int) - 1)).toNat ({ x3 with at_ := (x3.at_ + 1) })) ⟨h.cn _, hs⟩
 refine aH ?_
 replace h := h.eP 3 8 rfl rfl (by decide) (aC e4).2 e9 rfl
 refine au ?_
 exact bS sx.frames ⟨h.cn _, hs⟩
def mH (N : Nat) (wo : List LX.Frame) (AR : List (List Val)) (Dh : Int) (JA : Int) (Oq : List Int) (yF : Int) (a : List bX) (Yz : (List Int × Int × List LX.Frame × List (List Val) × Int × Int) → Option (LX.State × List Int × Int)) (x76 : Bool) : Option (LX.State × List Int × Int) :=
  bif x76 then some ((⟨wo, AR, Dh, JA⟩ : LX.State), Oq, yF) else (lG (⟨wo, AR, Dh, JA⟩ : LX.State)).bind fun Vg => (eZ N (⟨wo, AR, Dh, JA⟩ : LX.State) a).bind fun vZ => bif (!vZ.2.2.1) then iK (kJ (yF + 1)) (some ((⟨Vg.frames, Vg.cells, 2, Vg.aK⟩ : LX.State), Oq, (yF + 1))) else iK (Room 8 Oq vZ.1) (bif (vZ.2.1 || decide ((vZ.2.2.2.status : Int) ≠ 0)) then iK (kJ (yF + 1)) (some (vZ.2.2.2, (Oq ++ vZ.1), (yF + 1))) else iK (kJ (yF + 1)) (Yz ((Oq ++ vZ.1), (yF + 1), vZ.2.2.2.frames, vZ.2.2.2.cells, vZ.2.2.2.status, vZ.2.2.2.aK)))
def jO (N : Nat) (c : Int) (a : List bX) (s : List Int × Int × List LX.Frame × List (List Val) × Int × Int) (Yz : List Int × Int × List LX.Frame × List (List Val) × Int × Int → Option (LX.State × List Int × Int)) : Option (LX.State × List Int × Int) :=
  match s with | (Oq, yF, wo, AR, Dh, JA) => bif decide ((yF : Int) < c) then iK (kJ ((wo.length : Int) - 1)) ((idx wo ((wo.length : Int) - 1)).bind fun YA => bif decide (((Oq.length : Int) : Int) = 40) then (idx a YA.proc).bind fun x108 => (idx x108.code YA.at_).bind fun Oh => mH N wo AR Dh JA Oq yF a Yz (decide ((Oh.op : Int) = 9)) else mH N wo AR Dh JA Oq yF a Yz false) else some ((⟨wo, AR, Dh, JA⟩ : LX.State), Oq, c)
def uK (N : Nat) (a : List bX) (b : LX.State) (c : Int) : Option (LX.State × List Int × Int) :=
  (lG b).bind fun y3 => again (jO N c a) N ([], 0, y3.frames, y3.cells, y3.status, y3.aK)
theorem GI (N : Nat) (w0 : World) (M : BS) (hM : ∀ b, M b → b < w0.heap.size) (va : Value) (a : List bX) (ha : iL jE w0 M va a) (b : LX.State) (vb0 vb1 : Value) (hb0 : gB dL w0 BE M vb0 b.frames) (hb1 : gB (l9 bz) w0 BE M vb1 b.cells) (c : Int) (r : LX.State × List Int × Int) (hs : uK N a b c = some r) :
    Calls Tryz.prog 32 #[va, (.agg #[vb0, vb1, (I6 b.status), (I6 b.aK)]), (I6 c)] w0 (fun e w' => Grow w0 w' ∧ ∃ uN, ∃ wR, ∃ u1, e = .returned (.tuple #[.agg #[uN, wR, .int .i64 r.1.status, .int .i64 r.1.aK], u1, .int .i64 r.2.2]) ∧ iL dL w' (fun b => M b ∨ ob u1 b) uN r.1.frames ∧ iL (l9 bz) w' (fun b => M b ∨ ob u1 b) wR r.1.cells ∧ gW eY 3 w' M u1 r.2.1 ∧ (∀ b, ob u1 b → w0.heap.size ≤ b)) := by
 refine aQ (args := [va, (.agg #[vb0, vb1, (I6 b.status), (I6 b.aK)]), (I6 c)]) Tryz.func32 rfl Tryz.ntmps32 (bD rfl) ?_
 have h := SH.init hM
 replace h := h.Y9 1 ha bA
 replace h := h.fE 2 hb0 (sP bA)
 replace h := h.fE 3 hb1 (bN (sP bA))
 have uU := ha.bT
 refine nG (kM (cs := [vb0, vb1, (I6 b.status), (I6 b.aK)]) h 4 rfl rfl fun w b1 h => bI h 5 bC fun w b2 h => aa (ae (v := (.slice none 0 0)) rfl) (aa (ae (v := (I6 0)) rfl) (nJ (aa (bU (vs := [vb0, vb1, (I6 b.status), (I6 b.aK)]) h 4 rfl bC rfl rfl rfl) ?_))))
 obtain ⟨y3, e4, hs⟩ := aL hs
 refine aW Uc rfl rfl (uh _ _ h.lt b vb0 vb1 (h.gV 2 rfl) (h.gV 3 rfl) _ e4) ?_
 rintro _ w ⟨k11, u5, u7, Og, us8, rfl, h9, h10⟩
 refine ⟨_, rfl, ?_⟩
 replace h := h.Mx 6 (C := (cU u5 u7 y3.frames Og y3.cells us8)) k11 ⟨⟨⟨trivial, trivial⟩, trivial⟩, trivial⟩ h9 h10
 replace h := h.cK 6 9 (by decide) rfl rfl
 replace h := h.cK 6 8 (by decide) rfl rfl
 replace h := h.cK 6 7 (by decide) rfl rfl
 refine dK (vs := [u5, u7, (I6 y3.status), (I6 y3.aK)]) h 4 [u5, u7, (I6 y3.status), (I6 y3.aK)] rfl bC rfl rfl rfl rfl rfl (ai (h.dD 6 rfl).one (ai (h.dD 8 rfl).one (ai rfl (ai rfl aS)))) fun w h => nJ (aa (ae (v := (.slice none 0 0)) rfl) (nK (aa (ae (v := (I6 0)) rfl) (nN (aN ?_)))))
 replace h := h.yH (R := eY) (E := 3) 13
 refine gD (σ := Nat × Value × List Int × Int × Value × List Value × List LX.Frame × Value × List Value × List (List Val) × Int × Int) (inl (rg 7 9 ++ rg 18 61)) (fun ⟨m59, v45, Oq, yF, v48, Ot, wo, v51, Ou, AR, Dh, JA⟩ => [(9, v45), (10, (I6 yF))]) (fun ⟨m59, v45, Oq, yF, v48, Ot, wo, v51, Ou, AR, Dh, JA⟩ w => SH w0 M BE w (hset [(1, .rd jE va a), (4, .blk b1 [v48, v51, (I6 Dh), (I6 JA)]), (5, .blk b2 [(.slice none 0 0), (.slice none 0 0), (I6 0), (I6 0)]), (6, .own bB.raw 49 v48 (List.zip wo Ot)), (7, .iJ (ek bz 51 hn Ot (List.map bB.sub wo))), (8, .own (eD Val).raw 47 v51 (List.zip AR Ou)), (9, .iJ (ek bz 51 hn Ou (List.map (eD Val).sub AR))), (13, .own eY 3 v45 Oq)]) ∧ again (jO N c a) m59 (Oq, yF, wo, AR, Dh, JA) = some r) (fun ⟨m59, v45, Oq, yF, v48, Ot, wo, v51, Ou, AR, Dh, JA⟩ => m59) ⟨N, (.slice none 0 0), [], 0, u5, Og, y3.frames, u7, us8, y3.cells, y3.status, y3.aK⟩ ⟨rfl, rfl, trivial⟩ ?_ ?_
 exact ⟨h.cn _, hs⟩
 rintro ⟨m59, v45, Oq, yF, v48, Ot, wo, v51, Ou, AR, Dh, JA⟩ w dR ⟨h, hs⟩
 obtain ⟨m591, m59e, m59h⟩ := uq hs
 subst m59e
 replace hs := m59h
 generalize hnx60 : again (jO N c a) m591 = Yz at hs
 refine aM (nG (aa (ah (v := (I6 yF)) rfl) (aa (ah (v := (I6 c)) rfl) (aa (eO rfl rfl) (nN (aI hs rfl (fun Xz hs => ?_) (fun Xz hs => ?_)))))))
 refine aH (ak (aM (aN (nG (aa (ag dP rfl) (aa (az h 4 rfl gL rfl rfl) (aa (ag dP rfl) (aa (az h 4 rfl gL rfl rfl) (aa (nA (N := bB) bV rfl (h.eT 6 rfl) (h.gm 7 rfl)) ?_)))))))))
 obtain ⟨a64, hs⟩ := bG hs
 refine aa (oh rfl rfl a64) ?_
 obtain ⟨YA, Y4, hs⟩ := aL hs
 obtain ⟨u70, TG, h⟩ := h.mq 7 14 YA.regs rfl rfl (by decide) (aC Y4).2 rfl
 obtain ⟨b68, q69, i67⟩ := h.rO 6 rfl bV rfl (aC Y4).1 (eU (aC Y4).2 TG)
 refine aa (i67 _ _ _ _ _ _ _ _ _ rfl rfl) ?_
 obtain ⟨cs72, m73, r74⟩ := h.uQ 6 rfl q69 (eU (aC Y4).2 TG)
 obtain ⟨rfl, -⟩ := r74
 refine aa (kS (k := 0) (vs := [(I6 YA.proc), (I6 YA.at_), u70, (I6 YA.kD)]) m73 gz rfl rfl rfl (bD rfl)) (bI h 15 gz fun w b75 h => dK (vs := [(I6 YA.proc), (I6 YA.at_), u70, (I6 YA.kD)]) h 15 [(I6 YA.proc), (I6 YA.at_), u70, (I6 YA.kD)] rfl gz rfl rfl rfl rfl rfl (ai rfl (ai rfl (ai (h.dD 14 rfl).one (ai rfl aS)))) fun w h => nN (aM (cu (σ := Bool) (inl (rg 31 17)) (fun x76 => [(47, (.bool (x76)))]) (fun x76 w => SH w0 M BE w (hset [(1, .rd jE va a), (4, .blk b1 [v48, v51, (I6 Dh), (I6 JA)]), (5, .blk b2 [(.slice none 0 0), (.slice none 0 0), (I6 0), (I6 0)]), (6, .own bB.raw 49 v48 (List.zip wo Ot)), (7, .iJ (ek bz 51 hn Ot (List.map bB.sub wo))), (8, .own (eD Val).raw 47 v51 (List.zip AR Ou)), (9, .iJ (ek bz 51 hn Ou (List.map (eD Val).sub AR))), (13, .own eY 3 v45 Oq)]) ∧ mH N wo AR Dh JA Oq yF a Yz x76 = some r) ?_ ?_)))
 rintro x76 w dR ⟨h, hs⟩
 refine aI hs rfl (fun c77 hs => ?_) (fun c77 hs => ?_)
 refine nG (aa (bU (vs := [v48, v51, (I6 Dh), (I6 JA)]) h 4 rfl bC rfl rfl rfl) (aa (ah (v := v45) rfl) (aa (ah (v := (I6 yF)) rfl) (dK (vs := [v48, v51, (I6 Dh), (I6 JA)]) h 5 [v48, v51, (I6 Dh), (I6 JA)] rfl bC rfl rfl rfl rfl rfl (ai (h.dD 6 rfl).one (ai (h.dD 8 rfl).one (ai rfl (ai rfl aS)))) fun w h => aa (ae (v := v45) rfl) (aa (ae (v := (I6 yF)) rfl) (nR (ay (aB (ay (ay (aB (ay (LQ (vs := [v48, v51, (I6 Dh), (I6 JA)]) (v2 := v45) (v3 := (I6 yF)) Tryz.results32 rfl rfl rfl h 5 rfl bC rfl ?_)))))))))))))
 replace h := h.rW (N := bB) (R' := dL) 6 7 rfl rfl (by decide) rfl qP
 replace h := h.rW (N := (eD Val)) (R' := (l9 bz)) 8 9 rfl rfl (by decide) rfl wJ
 obtain rfl := fM hs
 exact ⟨h.grown, _, _, _, rfl, h.Co 6 13 rfl rfl, h.Co 8 13 rfl rfl, (h.lQ 13 rfl).1, (h.lQ 13 rfl).2⟩
 refine nS (aa (bU (vs := [v48, v51, (I6 Dh), (I6 JA)]) h 4 rfl bC rfl rfl rfl) ?_)
 obtain ⟨Vg, e79, hs⟩ := aL hs
 refine aW Uc rfl rfl (uh _ BE (fun _ h => h.elim) (⟨wo, AR, Dh, JA⟩ : LX.State) v48 v51 (h.zV (N := bB) (R' := dL) 6 7 rfl rfl (by decide) rfl qP) (h.zV (N := (eD Val)) (R' := (l9 bz)) 8 9 rfl rfl (by decide) rfl wJ) _ e79) ?_
 rintro _ w ⟨k86, YB, u82, us81, us83, rfl, h84, h85⟩
 refine ⟨_, rfl, ?_⟩
 replace h := h.VR 16 (C := (cU YB u82 Vg.frames us81 Vg.cells us83)) k86 ⟨⟨⟨trivial, trivial⟩, trivial⟩, trivial⟩ ⟨⟨⟨(fun _ _ _ _ _ h => h), (xg (fun _ _ _ _ _ h => h))⟩, (fun _ _ _ _ _ h => h)⟩, (xg (fun _ _ _ _ _ h => h))⟩ h84 h85
 replace h := h.cK 16 19 (by decide) rfl rfl
 replace h := h.cK 16 18 (by decide) rfl rfl
 replace h := h.cK 16 17 (by decide) rfl rfl
 refine bI h 20 bC fun w Uz h => dK (vs := [YB, u82, (I6 Vg.status), (I6 Vg.aK)]) h 20 [YB, u82, (I6 Vg.status), (I6 Vg.aK)] rfl bC rfl rfl rfl rfl rfl (ai (h.dD 16 rfl).one (ai (h.dD 18 rfl).one (ai rfl (ai rfl aS)))) fun w h => nJ (aa (ah (v := va) rfl) ?_)
 replace h := h.pair 4 6 (by decide)
 replace h := h.pair 4 7 (by decide)
 replace h := h.pair 4 8 (by decide)
 replace h := h.pair 4 9 (by decide)
 obtain ⟨l88a, l88b, l88c⟩ := h.Aj 4 (C := (cT b1 v48 v51 (Dh) (JA) wo Ot AR Ou)) rfl ⟨⟨⟨⟨trivial, trivial⟩, trivial⟩, trivial⟩, trivial⟩
 obtain ⟨vZ, e90, hs⟩ := aL hs
 refine aW fnOk70 rfl rfl (EO N _ _ l88c b1 (⟨wo, AR, Dh, JA⟩ : LX.State) v48 v51 Ot Ou l88a l88b va a (h.TU 4 1 rfl rfl) _ e90) ?_
 rintro _ w ⟨k97, u91, u93, u95, us94, us96, rfl, h98, h99, g92⟩
 refine ⟨_, rfl, ?_⟩
 replace h := h.back 4 (C := (cT b1 v48 v51 (Dh) (JA) wo Ot AR Ou)) (C' := (cT b1 u93 u95 (vZ.2.2.2.status) (vZ.2.2.2.aK) vZ.2.2.2.frames us94 vZ.2.2.2.cells us96)) rfl ⟨⟨⟨⟨trivial, trivial⟩, trivial⟩, trivial⟩, trivial⟩ h98 k97 h99
 replace h := h.dh 21 (JH g92)
 replace h := h.cK 4 9 (by decide) rfl rfl
 replace h := h.cK 4 8 (by decide) rfl rfl
 replace h := h.cK 4 7 (by decide) rfl rfl
 replace h := h.cK 4 6 (by decide) rfl rfl
 refine aa (ah (v := (.tuple #[u91, (.bool (vZ.2.1)), (.bool (vZ.2.2.1))])) rfl) (aa (bg rfl rfl) (aa (bg rfl rfl) (aa (bg rfl rfl) (aa (ae (v := u91) rfl) (aa (ae (v := (.bool (vZ.2.1))) rfl) (aa (ae (v := (.bool (vZ.2.2.1))) rfl) (nK (aa (ah (v := (.bool (vZ.2.2.1))) rfl) (aa (fw rfl) (nN (aI hs rfl (fun c100 hs => ?_) (fun c100 hs => ?_))))))))))))
 refine nG (aa (ag kN rfl) (gP h 20 [YB, u82, (I6 2), (I6 Vg.aK)] rfl aR rfl rfl rfl rfl rfl fun w h => nJ (aa (bU (vs := [YB, u82, (I6 2), (I6 Vg.aK)]) h 20 rfl bC rfl rfl rfl) (aa (ah (v := v45) rfl) (aa (ah (v := (I6 yF)) rfl) ?_)))))
 obtain ⟨Xa, hs⟩ := bG hs
 refine aa (dQ rfl rfl Xa) (dK (vs := [YB, u82, (I6 2), (I6 Vg.aK)]) h 5 [YB, u82, (I6 2), (I6 Vg.aK)] rfl bC rfl rfl rfl rfl rfl (ai (h.dD 16 rfl).one (ai (h.dD 18 rfl).one (ai rfl (ai rfl aS)))) fun w h => aa (ae (v := v45) rfl) (aa (ae (v := (I6 ((yF + 1)))) rfl) (nR (ay (aB (ay (ay (aB (ay (LQ (vs := [YB, u82, (I6 2), (I6 Vg.aK)]) (v2 := v45) (v3 := (I6 ((yF + 1)))) Tryz.results32 rfl rfl rfl h 5 rfl bC rfl ?_))))))))))
 replace h := h.rW (N := bB) (R' := dL) 16 17 rfl rfl (by decide) rfl qP
 replace h := h.rW (N := (eD Val)) (R' := (l9 bz)) 18 19 rfl rfl (by decide) rfl wJ
 obtain rfl := fM hs
 exact ⟨h.grown, _, _, _, rfl, h.Co 16 13 rfl rfl, h.Co 18 13 rfl rfl, (h.lQ 13 rfl).1, (h.lQ 13 rfl).2⟩
 refine nS (aa (ah (v := v45) rfl) (aa (ah (v := u91) rfl) ?_))
 obtain ⟨Xj, hs⟩ := bG hs
 refine mW (R := eY) (m := vZ.1) h 13 rfl (h.kL 21 rfl) kI rfl rfl rfl Xj.1 Xj.2 fun w u103 h => aa (ae (v := u103) rfl) (nJ (aa (ah (v := (.bool (vZ.2.1))) rfl) (aa (ah (v := (.bool (vZ.2.1))) rfl) (aF rfl rfl (fun q => ag kN rfl) (aF rfl rfl (fun q => az h 4 rfl aR (eu q) rfl) (aF rfl rfl (fun q => gM (eu q) rfl) (aa (jD rfl rfl mY) (nN (aI hs rfl (fun c104 hs => ?_) (fun c104 hs => ?_))))))))))
 refine nG (aa (bU (vs := [u93, u95, (I6 vZ.2.2.2.status), (I6 vZ.2.2.2.aK)]) h 4 rfl bC rfl rfl rfl) (aa (ah (v := u103) rfl) (aa (ah (v := (I6 yF)) rfl) ?_)))
 obtain ⟨a105, hs⟩ := bG hs
 refine aa (dQ rfl rfl a105) (dK (vs := [u93, u95, (I6 vZ.2.2.2.status), (I6 vZ.2.2.2.aK)]) h 5 [u93, u95, (I6 vZ.2.2.2.status), (I6 vZ.2.2.2.aK)] rfl bC rfl rfl rfl rfl rfl (ai (h.dD 6 rfl).one (ai (h.dD 8 rfl).one (ai rfl (ai rfl aS)))) fun w h => aa (ae (v := u103) rfl) (aa (ae (v := (I6 ((yF + 1)))) rfl) (nR (aB (ay (ay (aB (ay (LQ (vs := [u93, u95, (I6 vZ.2.2.2.status), (I6 vZ.2.2.2.aK)]) (v2 := u103) (v3 := (I6 ((yF + 1)))) Tryz.results32 rfl rfl rfl h 5 rfl bC rfl ?_)))))))))
 replace h := h.rW (N := bB) (R' := dL) 6 7 rfl rfl (by decide) rfl qP
 replace h := h.rW (N := (eD Val)) (R' := (l9 bz)) 8 9 rfl rfl (by decide) rfl wJ
 obtain rfl := fM hs
 exact ⟨h.grown, _, _, _, rfl, h.Co 6 13 rfl rfl, h.Co 8 13 rfl rfl, (h.lQ 13 rfl).1, (h.lQ 13 rfl).2⟩
 refine aH (ax (ak (aD (aa (ah (v := (I6 yF)) rfl) ?_))))
 obtain ⟨a106, hs⟩ := bG hs
 refine aa (dQ rfl rfl a106) (aa (ae (v := (I6 ((yF + 1)))) rfl) (aA (au ?_)))
 subst hnx60
 exact jM ⟨m591, u103, (Oq ++ vZ.1), (yF + 1), u93, us94, vZ.2.2.2.frames, u95, us96, vZ.2.2.2.cells, vZ.2.2.2.status, vZ.2.2.2.aK⟩ ⟨h.cn _, hs⟩
 refine uS mixed (by kernel_rfl) h fun w h => aG (ah (v := v45) rfl) (aG (bM bZ rfl (h.eT 13 rfl)) (aG (bu rfl rfl) (aG (ah (v := (.bool (decide (((Oq.length : Int) : Int) = 40)))) rfl) (gT (b := decide (((Oq.length : Int) : Int) = 40)) hs (fun c107 hs => ?_) (fun c107 hs => ?_)))))
 refine fU rfl (cB c107) (aG (ah (v := va) rfl) (fU rfl (cB c107) (aG (ag tq rfl) (fU rfl (cB c107) (aG (az h 15 rfl aR rfl rfl) (fU rfl (cB c107) ?_))))))
 obtain ⟨x108, e109, hs⟩ := aL hs
 obtain ⟨b111, o112, cs113, h, r114, i110⟩ := h.Cn 1 22 rfl gU rfl (aC e109).1 (aC e109).2
 obtain ⟨u115, rfl, g116⟩ := jN r114
 replace h := h.dh 23 g116.up
 refine aG (i110 _ _ _ _ _ _ _ _ _ rfl rfl) (fU rfl (cB c107) (aG (ag nP rfl) (fU rfl (cB c107) (aG (fo (k := 2) h 22 rfl xh rfl rfl) (fU rfl (cB c107) (aG (ag nO rfl) (fU rfl (cB c107) (aG (az h 15 rfl aR rfl rfl) (fU rfl (cB c107) ?_)))))))))
 obtain ⟨Oh, e118, hs⟩ := aL hs
 obtain ⟨b120, o121, cs122, h, r123, i119⟩ := h.Cn 23 24 rfl iD rfl (aC e118).1 (aC e118).2
 obtain ⟨u124, rfl, g125⟩ := xe r123
 replace h := h.dh 25 g125.up
 refine aG (i119 _ _ _ _ _ _ _ _ _ rfl rfl) (fU rfl (cB c107) (aG (ag ni rfl) (fU rfl (cB c107) (aG (fo (k := 0) h 24 rfl aR rfl rfl) (fU rfl (cB c107) (aG (bu rfl rfl) (aG (bY (b := true) (v := (.bool (decide ((Oh.op : Int) = 9)))) (cB c107) rfl) (uy ?_))))))))
 replace h := h.eP 7 14 rfl rfl (by decide) (aC Y4).2 TG rfl
 refine au ?_
 exact bS (decide ((Oh.op : Int) = 9)) ⟨h.cn _, hs⟩
 refine ed (b' := false) rfl (cB c107) rfl (ed (b' := false) rfl (cB c107) rfl (ed (b' := false) rfl (cB c107) rfl (ed (b' := false) rfl (cB c107) rfl (ed (b' := false) rfl (cB c107) rfl (ed (b' := false) rfl (cB c107) rfl (ed (b' := false) rfl (cB c107) rfl (ed (b' := false) rfl (cB c107) rfl (ed (b' := false) rfl (cB c107) rfl (ed (b' := false) rfl (cB c107) rfl (ed (b' := false) rfl (cB c107) rfl (ed (b' := false) rfl (cB c107) rfl (aG (bY (b := false) (v := (.bool (false))) (cB c107) rfl) (uy ?_)))))))))))))
 replace h := h.eP 7 14 rfl rfl (by decide) (aC Y4).2 TG rfl
 refine au ?_
 exact bS false ⟨h.cn _, hs⟩
 refine nE (aa (bU (vs := [v48, v51, (I6 Dh), (I6 JA)]) h 4 rfl bC rfl rfl rfl) (aa (ah (v := v45) rfl) (aa (ah (v := (I6 c)) rfl) (dK (vs := [v48, v51, (I6 Dh), (I6 JA)]) h 5 [v48, v51, (I6 Dh), (I6 JA)] rfl bC rfl rfl rfl rfl rfl (ai (h.dD 6 rfl).one (ai (h.dD 8 rfl).one (ai rfl (ai rfl aS)))) fun w h => aa (ae (v := v45) rfl) (aa (ae (v := (I6 c)) rfl) (nR (LQ (vs := [v48, v51, (I6 Dh), (I6 JA)]) (v2 := v45) (v3 := (I6 c)) Tryz.results32 rfl rfl rfl h 5 rfl bC rfl ?_)))))))
 replace h := h.rW (N := bB) (R' := dL) 6 7 rfl rfl (by decide) rfl qP
 replace h := h.rW (N := (eD Val)) (R' := (l9 bz)) 8 9 rfl rfl (by decide) rfl wJ
 obtain rfl := fM hs
 exact ⟨h.grown, _, _, _, rfl, h.Co 6 13 rfl rfl, h.Co 8 13 rfl rfl, (h.lQ 13 rfl).1, (h.lQ 13 rfl).2⟩
def mI (N : Nat) (c : Int) (jF : LX.State × List Int × Int × Int) (b : LX.State) (a : List bX) : Option Bool :=
  bif (decide ((c : Int) < 0) || decide ((2000 : Int) < c)) then bif decide ((jF.2.2.2 : Int) = 3) then iK (kJ ((jF.2.1.length : Int) + jF.2.2.1)) (bif decide ((((jF.2.1.length : Int) + jF.2.2.1) : Int) = 0) then (eQ jF.1 (⟨[], [], 0, 0⟩ : LX.State)).bind fun J7 => some J7 else some false) else some false else bif decide ((b.status : Int) ≠ 0) then bif decide ((jF.2.2.2 : Int) = 7) then iK (kJ ((jF.2.1.length : Int) + jF.2.2.1)) (bif decide ((((jF.2.1.length : Int) + jF.2.2.1) : Int) = 0) then (eQ jF.1 (⟨[], [], 0, 0⟩ : LX.State)).bind fun LG => some LG else some false) else some false else (uK N a b c).bind fun QU => bif (decide ((jF.2.2.2 : Int) = 0) && decide ((jF.2.2.1 : Int) = QU.2.2)) then (slices_Equal_int jF.2.1 QU.2.1).bind fun Lv => bif Lv then (eQ jF.1 QU.1).bind fun y90 => some y90 else some false else some false
def qw (N : Nat) (c : Int) (jF : LX.State × List Int × Int × Int) (b : LX.State) (a : List bX) (Xi : Bool) : Option Bool :=
  bif Xi then some false else mI N c jF b a
def qx (N : Nat) (c : Int) (jF : LX.State × List Int × Int × Int) (b : LX.State) (a : List bX) (x100 : Bool) : Option Bool :=
  bif x100 then some false else mI N c jF b a
def mJ (N : Nat) (a : List bX) (b : LX.State) (jF : LX.State × List Int × Int × Int) (y22 : LX.State × Int) (c : Int) (x38 : Int) : Option Bool :=
  (Bi a b).bind fun y39 => bif decide ((y39 : Int) ≠ x38) then some false else bif decide ((x38 : Int) ≠ 0) then bif (decide ((jF.2.2.2 : Int) = x38) && decide ((y22.2 : Int) = x38)) then iK (kJ ((jF.2.1.length : Int) + jF.2.2.1)) (bif decide ((((jF.2.1.length : Int) + jF.2.2.1) : Int) = 0) then (eQ jF.1 (⟨[], [], 0, 0⟩ : LX.State)).bind fun qj => bif qj then (eQ y22.1 (⟨[], [], 0, 0⟩ : LX.State)).bind fun DY => some DY else some false else some false) else some false else (Fy N b).bind fun FR => (rA N b).bind fun FT => (eQ FR FT).bind fun SQ => bif (!SQ) then some false else bif decide ((b.status : Int) ≠ 3) then bif decide ((y22.2 : Int) ≠ 7) then qw N c jF b a true else (eQ y22.1 (⟨[], [], 0, 0⟩ : LX.State)).bind fun uZ => qw N c jF b a (!uZ) else bif decide ((y22.2 : Int) ≠ 0) then qx N c jF b a true else (eQ y22.1 (⟨b.frames, b.cells, 0, 0⟩ : LX.State)).bind fun wP => qx N c jF b a (!wP)
def iZ (N : Nat) (zB : Int) (a : List bX) (b : LX.State) (jF : LX.State × List Int × Int × Int) (y22 : LX.State × Int) (c : Int) (jb : Bool) : Option Bool :=
  bif jb then some false else bif decide ((zB : Int) = 0) then (kF a b).bind fun rE => mJ N a b jF y22 c rE else mJ N a b jF y22 c zB
def mK (N : Nat) (zB : Int) (a : List bX) (b : LX.State) (jF : LX.State × List Int × Int × Int) (y22 : LX.State × Int) (c : Int) (y3 : LX.State × Int) (d : LX.State) (fQ : List LX.Frame) : Option Bool :=
  (wL N).bind fun Gx => bif (!Gx) then iZ N zB a b jF y22 c true else bif decide ((y3.2 : Int) ≠ zB) then iZ N zB a b jF y22 c true else (eQ y3.1 (⟨fQ, [], 0, 0⟩ : LX.State)).bind fun BL => bif (!BL) then iZ N zB a b jF y22 c true else (Jk b d).bind fun Ey => (eQ b d).bind fun Ez => iZ N zB a b jF y22 c (Ey != Ez)
def wX (N : Nat) (a : List bX) (b : LX.State) (c : Int) (d : LX.State) : Option Bool :=
  (M0 a).bind fun y3 => (Ia N a b c).bind fun jF => (Ji a b).bind fun y22 => (mF a).bind fun zB => bif decide ((zB : Int) = 0) then (idx a 0).bind fun YC => iK (0 ≤ YC.regs ∧ YC.regs * 16 ≤ 140737488355328) (mK N zB a b jF y22 c y3 d [(⟨0, 0, (List.replicate YC.regs.toNat (⟨0, 0⟩ : Val)), 0⟩ : LX.Frame)]) else mK N zB a b jF y22 c y3 d []
theorem FU (N : Nat) (w0 : World) (M : BS) (hM : ∀ b, M b → b < w0.heap.size) (hT : zo Tryz.prog 4 w0) (va : Value) (a : List bX) (ha : iL jE w0 M va a) (b : LX.State) (vb0 vb1 : Value) (hb0 : gB dL w0 BE M vb0 b.frames) (hb1 : gB (l9 bz) w0 BE M vb1 b.cells) (c : Int) (d : LX.State) (vd0 vd1 : Value) (hd0 : gB dL w0 BE M vd0 d.frames) (hd1 : gB (l9 bz) w0 BE M vd1 d.cells) (r : Bool) (hs : wX N a b c d = some r) :
    Calls Tryz.prog 8 #[va, (.agg #[vb0, vb1, (I6 b.status), (I6 b.aK)]), (I6 c), (.agg #[vd0, vd1, (I6 d.status), (I6 d.aK)])] w0 (fun e w' => Grow w0 w' ∧ e = .returned (.bool r)) := by
 refine aQ (args := [va, (.agg #[vb0, vb1, (I6 b.status), (I6 b.aK)]), (I6 c), (.agg #[vd0, vd1, (I6 d.status), (I6 d.aK)])]) Tryz.func8 rfl Tryz.ntmps8 (bD rfl) ?_
 have h := SH.init hM
 replace h := h.Y9 1 ha bA
 replace h := h.fE 2 hb0 (sP bA)
 replace h := h.fE 3 hb1 (bN (sP bA))
 replace h := h.fE 4 hd0 (bN (bN (sP bA)))
 replace h := h.fE 5 hd1 (bN (bN (bN (sP bA))))
 have uU := ha.bT
 refine nG (kM (cs := [vb0, vb1, (I6 b.status), (I6 b.aK)]) h 6 rfl rfl fun w b1 h => kM (cs := [vd0, vd1, (I6 d.status), (I6 d.aK)]) h 7 rfl rfl fun w b2 h => aa (ae (v := (.bool (false))) rfl) (nJ (aa (ah (v := va) rfl) ?_)))
 obtain ⟨y3, e4, hs⟩ := aL hs
 refine aW ZK rfl rfl (R3 _ _ h.lt va a (h.kL 1 rfl) _ e4) ?_
 rintro _ w ⟨k9, u5, u7, rfl, g6, g8⟩
 refine ⟨_, rfl, ?_⟩
 replace h := h.KX 8 k9 g6
 replace h := h.dh 9 g8.up
 refine aa (ah (v := (.tuple #[(.agg #[u5, u7, (I6 y3.1.status), (I6 y3.1.aK)]), (I6 y3.2)])) rfl) (aa (bg rfl rfl) (aa (bg rfl rfl) (bI h 10 bC fun w b10 h => dK (vs := [u5, u7, (I6 y3.1.status), (I6 y3.1.aK)]) h 10 [u5, u7, (I6 y3.1.status), (I6 y3.1.aK)] rfl bC rfl rfl rfl rfl rfl (ai (h.iN 8 rfl).one (ai (h.iN 9 rfl).one (ai rfl (ai rfl aS)))) fun w h => aa (ae (v := (I6 y3.2)) rfl) (nJ (aa (ah (v := va) rfl) (aa (bU (vs := [vb0, vb1, (I6 b.status), (I6 b.aK)]) h 6 rfl bC rfl rfl rfl) (aa (ah (v := (I6 c)) rfl) ?_)))))))
 obtain ⟨jF, e12, hs⟩ := aL hs
 refine aW Qp rfl rfl (Jh N _ _ h.lt va a (h.iN 1 rfl) b vb0 vb1 (h.gV 2 rfl) (h.gV 3 rfl) c _ e12) ?_
 rintro _ w ⟨k20, DX, zA, EF, rfl, g14, g16, g18, g19⟩
 refine ⟨_, rfl, ?_⟩
 replace h := h.nz 13 k20 g18 g19
 replace h := h.dh 11 g14.upO
 replace h := h.dh 12 g16.upO.up
 refine aa (ah (v := (.tuple #[(.agg #[DX, zA, (I6 jF.1.status), (I6 jF.1.aK)]), EF, (I6 jF.2.2.1), (I6 jF.2.2.2)])) rfl) (aa (bg rfl rfl) (aa (bg rfl rfl) (aa (bg rfl rfl) (aa (bg rfl rfl) (bI h 14 bC fun w IE h => dK (vs := [DX, zA, (I6 jF.1.status), (I6 jF.1.aK)]) h 14 [DX, zA, (I6 jF.1.status), (I6 jF.1.aK)] rfl bC rfl rfl rfl rfl rfl (ai (h.iN 11 rfl).one (ai (h.iN 12 rfl).one (ai rfl (ai rfl aS)))) fun w h => aa (ae (v := EF) rfl) (aa (ae (v := (I6 jF.2.2.1)) rfl) (aa (ae (v := (I6 jF.2.2.2)) rfl) (nJ (aa (ah (v := va) rfl) (aa (bU (vs := [vb0, vb1, (I6 b.status), (I6 b.aK)]) h 6 rfl bC rfl rfl rfl) ?_))))))))))
 obtain ⟨y22, e23, hs⟩ := aL hs
 refine aW ZL rfl rfl (Pk _ _ h.lt va a (h.kL 1 rfl) b vb0 vb1 (h.gV 2 rfl) (h.gV 3 rfl) _ e23) ?_
 rintro _ w ⟨k28, u24, u26, rfl, g25, g27⟩
 refine ⟨_, rfl, ?_⟩
 replace h := h.KX 15 k28 g25
 replace h := h.dh 16 g27.up
 refine aa (ah (v := (.tuple #[(.agg #[u24, u26, (I6 y22.1.status), (I6 y22.1.aK)]), (I6 y22.2)])) rfl) (aa (bg rfl rfl) (aa (bg rfl rfl) (bI h 17 bC fun w b29 h => dK (vs := [u24, u26, (I6 y22.1.status), (I6 y22.1.aK)]) h 17 [u24, u26, (I6 y22.1.status), (I6 y22.1.aK)] rfl bC rfl rfl rfl rfl rfl (ai (h.iN 15 rfl).one (ai (h.iN 16 rfl).one (ai rfl (ai rfl aS)))) fun w h => aa (ae (v := (I6 y22.2)) rfl) (nJ (aa (ah (v := va) rfl) ?_)))))
 obtain ⟨zB, e31, hs⟩ := aL hs
 refine aW fnOk21 rfl rfl (DC _ _ h.lt va a (h.kL 1 rfl) _ e31) ?_
 rintro _ w ⟨k32, rfl⟩
 refine ⟨_, rfl, ?_⟩
 replace h := h.grow k32
 refine aa (ae (v := (I6 zB)) rfl) (nJ (aa (fe (pv := []) (out := [(.slice none 0 0), (.slice none 0 0), (I6 0), (I6 0)]) wB rfl rfl) (bI h 18 bC fun w b33 h => dK (vs := [(.slice none 0 0), (.slice none 0 0), (I6 0), (I6 0)]) h 18 [(.slice none 0 0), (.slice none 0 0), (I6 0), (I6 0)] rfl bC rfl rfl rfl rfl rfl (ai rfl (ai rfl (ai rfl (ai rfl aS)))) fun w h => nN (cu (σ := Value × List LX.Frame) (inl (rg 47 10)) (fun ⟨v34, fQ⟩ => []) (fun ⟨v34, fQ⟩ w => SH w0 M BE w (hset [(1, .rd jE va a), (2, .sr dL vb0 b.frames), (3, .sr (l9 bz) vb1 b.cells), (4, .sr dL vd0 d.frames), (5, .sr (l9 bz) vd1 d.cells), (6, .blk b1 [vb0, vb1, (I6 b.status), (I6 b.aK)]), (7, .blk b2 [vd0, vd1, (I6 d.status), (I6 d.aK)]), (8, .rd dL u5 y3.1.frames), (9, .rd (l9 bz) u7 y3.1.cells), (10, .blk b10 [u5, u7, (I6 y3.1.status), (I6 y3.1.aK)]), (11, .rd dL DX jF.1.frames), (12, .rd (l9 bz) zA jF.1.cells), (13, .own eY 3 EF jF.2.1), (14, .blk IE [DX, zA, (I6 jF.1.status), (I6 jF.1.aK)]), (15, .rd dL u24 y22.1.frames), (16, .rd (l9 bz) u26 y22.1.cells), (17, .blk b29 [u24, u26, (I6 y22.1.status), (I6 y22.1.aK)]), (18, .blk b33 [v34, (.slice none 0 0), (I6 0), (I6 0)]), (19, .own dL 49 v34 fQ)]) ∧ mK N zB a b jF y22 c y3 d fQ = some r) ?_ ?_))))
 rintro ⟨v34, fQ⟩ w dR ⟨h, hs⟩
 refine aM (cu (σ := Bool) (inl (rg 57 22)) (fun jb => [(78, (.bool (jb)))]) (fun jb w => SH w0 M BE w (hset [(1, .rd jE va a), (2, .sr dL vb0 b.frames), (3, .sr (l9 bz) vb1 b.cells), (6, .blk b1 [vb0, vb1, (I6 b.status), (I6 b.aK)]), (11, .rd dL DX jF.1.frames), (12, .rd (l9 bz) zA jF.1.cells), (13, .own eY 3 EF jF.2.1), (14, .blk IE [DX, zA, (I6 jF.1.status), (I6 jF.1.aK)]), (15, .rd dL u24 y22.1.frames), (16, .rd (l9 bz) u26 y22.1.cells), (17, .blk b29 [u24, u26, (I6 y22.1.status), (I6 y22.1.aK)])]) ∧ iZ N zB a b jF y22 c jb = some r) ?_ ?_)
 rintro jb w dR ⟨h, hs⟩
 refine aI hs rfl (fun c37 hs => ?_) (fun c37 hs => ?_)
 refine nG (aa (ae (v := (.bool (false))) rfl) (nR (ay (bR (v := (.bool (false))) Tryz.results8 rfl ?_))))
 obtain rfl := fM hs
 exact ⟨h.grown, rfl⟩
 refine aH (ak (cu (σ := Int) (inl [17, 79, 80, 81, 82, 83]) (fun x38 => [(17, (I6 x38))]) (fun x38 w => SH w0 M BE w (hset [(1, .rd jE va a), (2, .sr dL vb0 b.frames), (3, .sr (l9 bz) vb1 b.cells), (6, .blk b1 [vb0, vb1, (I6 b.status), (I6 b.aK)]), (11, .rd dL DX jF.1.frames), (12, .rd (l9 bz) zA jF.1.cells), (13, .own eY 3 EF jF.2.1), (14, .blk IE [DX, zA, (I6 jF.1.status), (I6 jF.1.aK)]), (15, .rd dL u24 y22.1.frames), (16, .rd (l9 bz) u26 y22.1.cells), (17, .blk b29 [u24, u26, (I6 y22.1.status), (I6 y22.1.aK)])]) ∧ mJ N a b jF y22 c x38 = some r) ?_ ?_))
 rintro x38 w dR ⟨h, hs⟩
 refine aM (nG (aa (ah (v := va) rfl) (aa (bU (vs := [vb0, vb1, (I6 b.status), (I6 b.aK)]) h 6 rfl bC rfl rfl rfl) ?_)))
 obtain ⟨y39, e40, hs⟩ := aL hs
 refine aW Qo rfl rfl (Em _ _ h.lt va a (h.kL 1 rfl) b vb0 vb1 (h.gV 2 rfl) (h.gV 3 rfl) _ e40) ?_
 rintro _ w ⟨k41, rfl⟩
 refine ⟨_, rfl, ?_⟩
 replace h := h.grow k41
 refine aa (ah (v := (I6 x38)) rfl) (aa (gM rfl rfl) (nN (aI hs rfl (fun c42 hs => ?_) (fun c42 hs => ?_))))
 refine nG (aa (ae (v := (.bool (false))) rfl) (nR (ay (bR (v := (.bool (false))) Tryz.results8 rfl ?_))))
 obtain rfl := fM hs
 exact ⟨h.grown, rfl⟩
 refine nS (aa (fe (pv := []) (out := [(.slice none 0 0), (.slice none 0 0), (I6 0), (I6 0)]) wB rfl rfl) (bI h 20 bC fun w b43 h => dK (vs := [(.slice none 0 0), (.slice none 0 0), (I6 0), (I6 0)]) h 20 [(.slice none 0 0), (.slice none 0 0), (I6 0), (I6 0)] rfl bC rfl rfl rfl rfl rfl (ai rfl (ai rfl (ai rfl (ai rfl aS)))) fun w h => nK (aa (ah (v := (I6 x38)) rfl) (aa (gM rfl rfl) (nN (aI hs rfl (fun c44 hs => ?_) (fun c44 hs => ?_)))))))
 refine nG (aa (ah (v := (I6 jF.2.2.2)) rfl) (aa (ah (v := (I6 x38)) rfl) (aa (bu rfl rfl) (aa (ah (v := (.bool (decide ((jF.2.2.2 : Int) = x38)))) rfl) (aF rfl rfl (fun q => ah (v := (I6 y22.2)) rfl) (aF rfl rfl (fun q => ah (v := (I6 x38)) rfl) (aF rfl rfl (fun q => bu (eu q) (eu q)) (aa (fZ rfl rfl mY) (aa (ah (v := (.bool ((decide ((jF.2.2.2 : Int) = x38) && decide ((y22.2 : Int) = x38))))) rfl) (gT (b := (decide ((jF.2.2.2 : Int) = x38) && decide ((y22.2 : Int) = x38))) hs (fun YD hs => ?_) (fun YD hs => ?_)))))))))))
 refine cz rfl (cB YD) (aa (ah (v := EF) rfl) (cz rfl (cB YD) (aa (bM bZ rfl (h.eT 13 rfl)) (cz rfl (cB YD) (aa (ah (v := (I6 jF.2.2.1)) rfl) (cz rfl (cB YD) ?_))))))
 obtain ⟨a46, hs⟩ := bG hs
 refine aa (dQ rfl rfl a46) (cz rfl (cB YD) (aa (bu rfl rfl) (aa (bY (b := true) (v := (.bool (decide ((((jF.2.1.length : Int) + jF.2.2.1) : Int) = 0)))) (cB YD) rfl) (aa (ah (v := (.bool (decide ((((jF.2.1.length : Int) + jF.2.2.1) : Int) = 0)))) rfl) (gT (b := decide ((((jF.2.1.length : Int) + jF.2.2.1) : Int) = 0)) hs (fun Uh hs => ?_) (fun Uh hs => ?_))))))
 refine cz rfl (cB Uh) (aa (bU (vs := [DX, zA, (I6 jF.1.status), (I6 jF.1.aK)]) h 14 rfl bC rfl rfl rfl) (cz rfl (cB Uh) (aa (bU (vs := [(.slice none 0 0), (.slice none 0 0), (I6 0), (I6 0)]) h 20 rfl bC rfl rfl rfl) (cz rfl (cB Uh) ?_))))
 obtain ⟨qj, e49, hs⟩ := aL hs
 refine aW Cq rfl rfl (gq _ _ h.lt jF.1 DX zA (h.kL 11 rfl) (h.kL 12 rfl) (⟨[], [], 0, 0⟩ : LX.State) (.slice none 0 0) (.slice none 0 0) gB.nil gB.nil _ e49) ?_
 rintro _ w ⟨V5, rfl⟩
 refine ⟨_, rfl, ?_⟩
 replace h := h.grow V5
 refine aa (bY (b := true) (v := (.bool (qj))) (cB Uh) rfl) (aa (ah (v := (.bool (qj))) rfl) (gT (b := qj) hs (fun c51 hs => ?_) (fun c51 hs => ?_)))
 refine cz rfl (cB c51) (aa (bU (vs := [u24, u26, (I6 y22.1.status), (I6 y22.1.aK)]) h 17 rfl bC rfl rfl rfl) (cz rfl (cB c51) (aa (bU (vs := [(.slice none 0 0), (.slice none 0 0), (I6 0), (I6 0)]) h 20 rfl bC rfl rfl rfl) (cz rfl (cB c51) ?_))))
 obtain ⟨DY, e53, hs⟩ := aL hs
 refine aW Cq rfl rfl (gq _ _ h.lt y22.1 u24 u26 (h.kL 15 rfl) (h.kL 16 rfl) (⟨[], [], 0, 0⟩ : LX.State) (.slice none 0 0) (.slice none 0 0) gB.nil gB.nil _ e53) ?_
 rintro _ w ⟨k54, rfl⟩
 refine ⟨_, rfl, ?_⟩
 replace h := h.grow k54
 refine aa (bY (b := true) (v := (.bool (DY))) (cB c51) rfl) (aa (ae (v := (.bool (DY))) rfl) (nR (ay (bR (v := (.bool (DY))) Tryz.results8 rfl ?_))))
 obtain rfl := fM hs
 exact ⟨h.grown, rfl⟩
 refine mO rfl (cB c51) rfl (mO rfl (cB c51) rfl (mO rfl (cB c51) rfl (aa (bY (b := false) (v := (.bool (false))) (cB c51) rfl) (aa (ae (v := (.bool (false))) rfl) (nR (ay (bR (v := (.bool (false))) Tryz.results8 rfl ?_)))))))
 obtain rfl := fM hs
 exact ⟨h.grown, rfl⟩
 refine mO rfl (cB Uh) rfl (mO rfl (cB Uh) rfl (mO rfl (cB Uh) rfl (aa (bY (b := false) (v := (.bool (false))) (cB Uh) rfl) (aa (ah (v := (.bool (false))) rfl) (fK (b' := false) rfl rfl rfl (fK (b' := false) rfl rfl rfl (fK (b' := false) rfl rfl rfl (aa (bY (b := false) (v := (.bool (false))) rfl rfl) (aa (ae (v := (.bool (false))) rfl) (nR (ay (bR (v := (.bool (false))) Tryz.results8 rfl ?_))))))))))))
 obtain rfl := fM hs
 exact ⟨h.grown, rfl⟩
 refine mO rfl (cB YD) rfl (mO rfl (cB YD) rfl (mO rfl (cB YD) rfl (mO rfl (cB YD) rfl (mO rfl (cB YD) rfl (aa (bY (b := false) (v := (.bool (false))) (cB YD) rfl) (aa (ah (v := (.bool (false))) rfl) (fK (b' := false) rfl rfl rfl (fK (b' := false) rfl rfl rfl (fK (b' := false) rfl rfl rfl (aa (bY (b := false) (v := (.bool (false))) rfl rfl) (aa (ah (v := (.bool (false))) rfl) (fK (b' := false) rfl rfl rfl (fK (b' := false) rfl rfl rfl (fK (b' := false) rfl rfl rfl (aa (bY (b := false) (v := (.bool (false))) rfl rfl) (aa (ae (v := (.bool (false))) rfl) (nR (ay (bR (v := (.bool (false))) Tryz.results8 rfl ?_)))))))))))))))))))
 obtain rfl := fM hs
 exact ⟨h.grown, rfl⟩
 refine aH (ak (aM (aM (zf mixed h fun w h => eG 0 (aP.refl BE _) rfl aj (by kernel_rfl) (by kernel_rfl) (by kernel_rfl) (fun w hk => have h := h.grow hk; bU (vs := [vb0, vb1, (I6 b.status), (I6 b.aK)]) h 6 rfl bC rfl rfl rfl) (eG 2 (aP.refl BE _) rfl aj (by kernel_rfl) (by kernel_rfl) (by kernel_rfl) (fun w hk => have h := h.grow hk; bU (vs := [vb0, vb1, (I6 b.status), (I6 b.aK)]) h 6 rfl bC rfl rfl rfl) ?_)))))
 obtain ⟨ws56, ws56e⟩ : ∃ x, x = w := ⟨_, rfl⟩
 have Ov : Grow ws56 w := ws56e ▸ aP.refl BE w
 refine CP ws56e.symm (mg 1 (by kernel_rfl) rfl aj ?_)
 obtain ⟨FR, eq55x1_2, hs⟩ := aL hs
 refine aW ZJ rfl rfl (M9 N _ _ h.lt b vb0 vb1 (h.gV 2 rfl) (h.gV 3 rfl) _ eq55x1_2) ?_
 rintro _ w ⟨SS, SV, SX, YE, YF, rfl, hq55x1_7, hq55x1_8⟩
 refine ⟨_, rfl, ?_⟩
 replace h := h.Mx 33 (C := (cU SV SX FR.frames YE FR.cells YF)) SS ⟨⟨⟨trivial, trivial⟩, trivial⟩, trivial⟩ hq55x1_7 hq55x1_8
 replace h := h.cK 33 36 (by decide) rfl rfl
 replace h := h.cK 33 35 (by decide) rfl rfl
 replace h := h.cK 33 34 (by decide) rfl rfl
 replace Ov := Ov.trans SS
 refine aA (iU Ov (mg 3 (by kernel_rfl) rfl aj ?_))
 obtain ⟨FT, eq55x3_2, hs⟩ := aL hs
 refine aW ZM rfl rfl (Ap N _ _ h.lt b vb0 vb1 (h.gV 2 rfl) (h.gV 3 rfl) _ eq55x3_2) ?_
 rintro _ w ⟨SY, S9, Ta, YG, YH, rfl, hq55x3_7, hq55x3_8⟩
 refine ⟨_, rfl, ?_⟩
 replace h := h.Mx 57 (C := (cU S9 Ta FT.frames YG FT.cells YH)) SY ⟨⟨⟨trivial, trivial⟩, trivial⟩, trivial⟩ hq55x3_7 hq55x3_8
 replace h := h.cK 57 60 (by decide) rfl rfl
 replace h := h.cK 57 59 (by decide) rfl rfl
 replace h := h.cK 57 58 (by decide) rfl rfl
 replace Ov := Ov.trans SY
 refine aA (iU Ov (mg 4 (by kernel_rfl) rfl aj ?_))
 obtain ⟨SQ, eq55x4_2, hs⟩ := aL hs
 refine aW Cq rfl rfl (gq _ BE (fun _ h => h.elim) FR SV SX (h.zV (N := bB) (R' := dL) 33 34 rfl rfl (by decide) rfl qP) (h.zV (N := (eD Val)) (R' := (l9 bz)) 35 36 rfl rfl (by decide) rfl wJ) FT S9 Ta (h.zV (N := bB) (R' := dL) 57 58 rfl rfl (by decide) rfl qP) (h.zV (N := (eD Val)) (R' := (l9 bz)) 59 60 rfl rfl (by decide) rfl wJ) _ eq55x4_2) ?_
 rintro _ w ⟨Tc, rfl⟩
 refine ⟨_, rfl, ?_⟩
 replace h := h.grow Tc
 replace Ov := Ov.trans Tc
 refine aA (iU Ov (jG 5 Ov rfl (by kernel_rfl) (fun w hk => fw rfl) (qQ (by kernel_rfl) (ak (aI hs rfl (fun c58 hs => ?_) (fun c58 hs => ?_))))))
 refine nG (aa (ae (v := (.bool (false))) rfl) (nR (ay (bR (v := (.bool (false))) Tryz.results8 rfl ?_))))
 obtain rfl := fM hs
 exact ⟨h.grown, rfl⟩
 refine nS (aa (bU (vs := [vb0, vb1, (I6 b.status), (I6 b.aK)]) h 6 rfl bC rfl rfl rfl) (bI h 105 bC fun w b59 h => dK (vs := [vb0, vb1, (I6 b.status), (I6 b.aK)]) h 105 [vb0, vb1, (I6 b.status), (I6 b.aK)] rfl bC rfl rfl rfl rfl rfl (ai (h.PU 2 rfl).one (ai (h.PU 3 rfl).one (ai rfl (ai rfl aS)))) fun w h => nJ (aa (ag kN rfl) (gP h 105 [vb0, vb1, (I6 0), (I6 b.aK)] rfl aR rfl rfl rfl rfl rfl fun w h => aa (ag vJ rfl) (gP h 105 [vb0, vb1, (I6 0), (I6 0)] rfl aR rfl rfl rfl rfl rfl fun w h => nN (cu (σ := Unit) (inl ([8] ++ rg 126 19)) (fun _ => []) (fun _ w => SH w0 M BE w (hset [(1, .rd jE va a), (2, .sr dL vb0 b.frames), (3, .sr (l9 bz) vb1 b.cells), (6, .blk b1 [vb0, vb1, (I6 b.status), (I6 b.aK)]), (11, .rd dL DX jF.1.frames), (12, .rd (l9 bz) zA jF.1.cells), (13, .own eY 3 EF jF.2.1), (14, .blk IE [DX, zA, (I6 jF.1.status), (I6 jF.1.aK)]), (20, .blk b43 [(.slice none 0 0), (.slice none 0 0), (I6 0), (I6 0)])]) ∧ mI N c jF b a = some r) ?_ ?_))))))
 rintro ⟨⟩ w dR ⟨h, hs⟩
 refine aM (aN (nG (aa (ah (v := (I6 c)) rfl) (aa (eO rfl rfl) (aa (ah (v := (.bool (decide ((c : Int) < 0)))) rfl) (aF rfl rfl (fun q => ah (v := (I6 c)) rfl) (aF rfl rfl (fun q => mV (eu q) rfl) (aa (jD rfl rfl mY) (aa (ae (v := (.bool ((decide ((c : Int) < 0) || decide ((2000 : Int) < c))))) rfl) (nN (aI hs rfl (fun I9 hs => ?_) (fun I9 hs => ?_))))))))))))
 refine nG (aa (ah (v := (I6 jF.2.2.2)) rfl) (aa (bu rfl rfl) (aa (ah (v := (.bool (decide ((jF.2.2.2 : Int) = 3)))) rfl) (gT (b := decide ((jF.2.2.2 : Int) = 3)) hs (fun RV hs => ?_) (fun RV hs => ?_)))))
 refine cz rfl (cB RV) (aa (ah (v := EF) rfl) (cz rfl (cB RV) (aa (bM bZ rfl (h.eT 13 rfl)) (cz rfl (cB RV) (aa (ah (v := (I6 jF.2.2.1)) rfl) (cz rfl (cB RV) ?_))))))
 obtain ⟨a62, hs⟩ := bG hs
 refine aa (dQ rfl rfl a62) (cz rfl (cB RV) (aa (bu rfl rfl) (aa (bY (b := true) (v := (.bool (decide ((((jF.2.1.length : Int) + jF.2.2.1) : Int) = 0)))) (cB RV) rfl) (aa (ah (v := (.bool (decide ((((jF.2.1.length : Int) + jF.2.2.1) : Int) = 0)))) rfl) (gT (b := decide ((((jF.2.1.length : Int) + jF.2.2.1) : Int) = 0)) hs (fun Xz hs => ?_) (fun Xz hs => ?_))))))
 refine cz rfl (cB Xz) (aa (bU (vs := [DX, zA, (I6 jF.1.status), (I6 jF.1.aK)]) h 14 rfl bC rfl rfl rfl) (cz rfl (cB Xz) (aa (bU (vs := [(.slice none 0 0), (.slice none 0 0), (I6 0), (I6 0)]) h 20 rfl bC rfl rfl rfl) (cz rfl (cB Xz) ?_))))
 obtain ⟨J7, e65, hs⟩ := aL hs
 refine aW Cq rfl rfl (gq _ _ h.lt jF.1 DX zA (h.kL 11 rfl) (h.kL 12 rfl) (⟨[], [], 0, 0⟩ : LX.State) (.slice none 0 0) (.slice none 0 0) gB.nil gB.nil _ e65) ?_
 rintro _ w ⟨k66, rfl⟩
 refine ⟨_, rfl, ?_⟩
 replace h := h.grow k66
 refine aa (bY (b := true) (v := (.bool (J7))) (cB Xz) rfl) (aa (ae (v := (.bool (J7))) rfl) (nR (aB (ay (bR (v := (.bool (J7))) Tryz.results8 rfl ?_)))))
 obtain rfl := fM hs
 exact ⟨h.grown, rfl⟩
 refine mO rfl (cB Xz) rfl (mO rfl (cB Xz) rfl (mO rfl (cB Xz) rfl (aa (bY (b := false) (v := (.bool (false))) (cB Xz) rfl) (aa (ae (v := (.bool (false))) rfl) (nR (aB (ay (bR (v := (.bool (false))) Tryz.results8 rfl ?_))))))))
 obtain rfl := fM hs
 exact ⟨h.grown, rfl⟩
 refine mO rfl (cB RV) rfl (mO rfl (cB RV) rfl (mO rfl (cB RV) rfl (mO rfl (cB RV) rfl (mO rfl (cB RV) rfl (aa (bY (b := false) (v := (.bool (false))) (cB RV) rfl) (aa (ah (v := (.bool (false))) rfl) (fK (b' := false) rfl rfl rfl (fK (b' := false) rfl rfl rfl (fK (b' := false) rfl rfl rfl (aa (bY (b := false) (v := (.bool (false))) rfl rfl) (aa (ae (v := (.bool (false))) rfl) (nR (aB (ay (bR (v := (.bool (false))) Tryz.results8 rfl ?_)))))))))))))))
 obtain rfl := fM hs
 exact ⟨h.grown, rfl⟩
 refine nG (aa (ag kN rfl) (aa (az h 6 rfl aR rfl rfl) (aa (gM rfl rfl) (aa (ae (v := (.bool (decide ((b.status : Int) ≠ 0)))) rfl) (nN (aI hs rfl (fun c67 hs => ?_) (fun c67 hs => ?_)))))))
 refine nG (aa (ah (v := (I6 jF.2.2.2)) rfl) (aa (bu rfl rfl) (aa (ah (v := (.bool (decide ((jF.2.2.2 : Int) = 7)))) rfl) (gT (b := decide ((jF.2.2.2 : Int) = 7)) hs (fun QC hs => ?_) (fun QC hs => ?_)))))
 refine cz rfl (cB QC) (aa (ah (v := EF) rfl) (cz rfl (cB QC) (aa (bM bZ rfl (h.eT 13 rfl)) (cz rfl (cB QC) (aa (ah (v := (I6 jF.2.2.1)) rfl) (cz rfl (cB QC) ?_))))))
 obtain ⟨a69, hs⟩ := bG hs
 refine aa (dQ rfl rfl a69) (cz rfl (cB QC) (aa (bu rfl rfl) (aa (bY (b := true) (v := (.bool (decide ((((jF.2.1.length : Int) + jF.2.2.1) : Int) = 0)))) (cB QC) rfl) (aa (ah (v := (.bool (decide ((((jF.2.1.length : Int) + jF.2.2.1) : Int) = 0)))) rfl) (gT (b := decide ((((jF.2.1.length : Int) + jF.2.2.1) : Int) = 0)) hs (fun c70 hs => ?_) (fun c70 hs => ?_))))))
 refine cz rfl (cB c70) (aa (bU (vs := [DX, zA, (I6 jF.1.status), (I6 jF.1.aK)]) h 14 rfl bC rfl rfl rfl) (cz rfl (cB c70) (aa (bU (vs := [(.slice none 0 0), (.slice none 0 0), (I6 0), (I6 0)]) h 20 rfl bC rfl rfl rfl) (cz rfl (cB c70) ?_))))
 obtain ⟨LG, XB, hs⟩ := aL hs
 refine aW Cq rfl rfl (gq _ _ h.lt jF.1 DX zA (h.kL 11 rfl) (h.kL 12 rfl) (⟨[], [], 0, 0⟩ : LX.State) (.slice none 0 0) (.slice none 0 0) gB.nil gB.nil _ XB) ?_
 rintro _ w ⟨k73, rfl⟩
 refine ⟨_, rfl, ?_⟩
 replace h := h.grow k73
 refine aa (bY (b := true) (v := (.bool (LG))) (cB c70) rfl) (aa (ae (v := (.bool (LG))) rfl) (nR (aB (ay (bR (v := (.bool (LG))) Tryz.results8 rfl ?_)))))
 obtain rfl := fM hs
 exact ⟨h.grown, rfl⟩
 refine mO rfl (cB c70) rfl (mO rfl (cB c70) rfl (mO rfl (cB c70) rfl (aa (bY (b := false) (v := (.bool (false))) (cB c70) rfl) (aa (ae (v := (.bool (false))) rfl) (nR (aB (ay (bR (v := (.bool (false))) Tryz.results8 rfl ?_))))))))
 obtain rfl := fM hs
 exact ⟨h.grown, rfl⟩
 refine mO rfl (cB QC) rfl (mO rfl (cB QC) rfl (mO rfl (cB QC) rfl (mO rfl (cB QC) rfl (mO rfl (cB QC) rfl (aa (bY (b := false) (v := (.bool (false))) (cB QC) rfl) (aa (ah (v := (.bool (false))) rfl) (fK (b' := false) rfl rfl rfl (fK (b' := false) rfl rfl rfl (fK (b' := false) rfl rfl rfl (aa (bY (b := false) (v := (.bool (false))) rfl rfl) (aa (ae (v := (.bool (false))) rfl) (nR (aB (ay (bR (v := (.bool (false))) Tryz.results8 rfl ?_)))))))))))))))
 obtain rfl := fM hs
 exact ⟨h.grown, rfl⟩
 refine aH (ax (ak (nG (aa (ah (v := va) rfl) (aa (bU (vs := [vb0, vb1, (I6 b.status), (I6 b.aK)]) h 6 rfl bC rfl rfl rfl) (aa (ah (v := (I6 c)) rfl) ?_))))))
 obtain ⟨QU, XG, hs⟩ := aL hs
 refine aW fnOk32 rfl rfl (GI N _ _ h.lt va a (h.iN 1 rfl) b vb0 vb1 (h.gV 2 rfl) (h.gV 3 rfl) c _ XG) ?_
 rintro _ w ⟨k83, u76, L8, YB, rfl, g77, g79, g81, g82⟩
 refine ⟨_, rfl, ?_⟩
 replace h := h.nz 108 k83 g81 g82
 replace h := h.dh 106 g77.upO
 replace h := h.dh 107 g79.upO.up
 refine aa (ah (v := (.tuple #[(.agg #[u76, L8, (I6 QU.1.status), (I6 QU.1.aK)]), YB, (I6 QU.2.2)])) rfl) (aa (bg rfl rfl) (aa (bg rfl rfl) (aa (bg rfl rfl) (bI h 109 bC fun w CJ h => dK (vs := [u76, L8, (I6 QU.1.status), (I6 QU.1.aK)]) h 109 [u76, L8, (I6 QU.1.status), (I6 QU.1.aK)] rfl bC rfl rfl rfl rfl rfl (ai (h.iN 106 rfl).one (ai (h.iN 107 rfl).one (ai rfl (ai rfl aS)))) fun w h => aa (ae (v := YB) rfl) (aa (ae (v := (I6 QU.2.2)) rfl) (nJ (aa (ah (v := (I6 jF.2.2.2)) rfl) (aa (bu rfl rfl) (aa (ah (v := (.bool (decide ((jF.2.2.2 : Int) = 0)))) rfl) (aF rfl rfl (fun q => ah (v := (I6 jF.2.2.1)) rfl) (aF rfl rfl (fun q => ah (v := (I6 QU.2.2)) rfl) (aF rfl rfl (fun q => bu (eu q) (eu q)) (aa (fZ rfl rfl mY) (aa (ah (v := (.bool ((decide ((jF.2.2.2 : Int) = 0) && decide ((jF.2.2.1 : Int) = QU.2.2))))) rfl) (gT (b := (decide ((jF.2.2.2 : Int) = 0) && decide ((jF.2.2.1 : Int) = QU.2.2))) hs (fun c85 hs => ?_) (fun c85 hs => ?_))))))))))))))))
 refine cz rfl (cB c85) (aa (ah (v := EF) rfl) (cz rfl (cB c85) (aa (ah (v := YB) rfl) (cz rfl (cB c85) ?_))))
 obtain ⟨Lv, e87, hs⟩ := aL hs
 refine aW Ua rfl rfl (wV _ _ h.lt EF jF.2.1 (h.eT 13 rfl) YB QU.2.1 (h.eT 108 rfl) _ e87) ?_
 rintro _ w ⟨k88, rfl⟩
 refine ⟨_, rfl, ?_⟩
 replace h := h.grow k88
 refine aa (bY (b := true) (v := (.bool (Lv))) (cB c85) rfl) (aa (ah (v := (.bool (Lv))) rfl) (gT (b := Lv) hs (fun c89 hs => ?_) (fun c89 hs => ?_)))
 refine cz rfl (cB c89) (aa (bU (vs := [DX, zA, (I6 jF.1.status), (I6 jF.1.aK)]) h 14 rfl bC rfl rfl rfl) (cz rfl (cB c89) (aa (bU (vs := [u76, L8, (I6 QU.1.status), (I6 QU.1.aK)]) h 109 rfl bC rfl rfl rfl) (cz rfl (cB c89) ?_))))
 obtain ⟨y90, e91, hs⟩ := aL hs
 refine aW Cq rfl rfl (gq _ _ h.lt jF.1 DX zA (h.kL 11 rfl) (h.kL 12 rfl) QU.1 u76 L8 (h.kL 106 rfl) (h.kL 107 rfl) _ e91) ?_
 rintro _ w ⟨k92, rfl⟩
 refine ⟨_, rfl, ?_⟩
 replace h := h.grow k92
 refine aa (bY (b := true) (v := (.bool (y90))) (cB c89) rfl) (aa (ae (v := (.bool (y90))) rfl) (nR (bR (v := (.bool (y90))) Tryz.results8 rfl ?_)))
 obtain rfl := fM hs
 exact ⟨h.grown, rfl⟩
 refine mO rfl (cB c89) rfl (mO rfl (cB c89) rfl (mO rfl (cB c89) rfl (aa (bY (b := false) (v := (.bool (false))) (cB c89) rfl) (aa (ae (v := (.bool (false))) rfl) (nR (bR (v := (.bool (false))) Tryz.results8 rfl ?_))))))
 obtain rfl := fM hs
 exact ⟨h.grown, rfl⟩
 refine mO rfl (cB c85) rfl (mO rfl (cB c85) rfl (mO rfl (cB c85) rfl (aa (bY (b := false) (v := (.bool (false))) (cB c85) rfl) (aa (ah (v := (.bool (false))) rfl) (fK (b' := false) rfl rfl rfl (fK (b' := false) rfl rfl rfl (fK (b' := false) rfl rfl rfl (aa (bY (b := false) (v := (.bool (false))) rfl rfl) (aa (ae (v := (.bool (false))) rfl) (nR (bR (v := (.bool (false))) Tryz.results8 rfl ?_)))))))))))
 obtain rfl := fM hs
 exact ⟨h.grown, rfl⟩
 refine nG (aa (ag kN rfl) (aa (az h 6 rfl aR rfl rfl) (aa (gM rfl rfl) (nN (aI hs rfl (fun c93 hs => ?_) (fun c93 hs => ?_))))))
 refine cu (σ := Bool) (inl (rg 129 8)) (fun Xi => [(136, (.bool (Xi)))]) (fun Xi w => SH w0 M BE w (hset [(1, .rd jE va a), (2, .sr dL vb0 b.frames), (3, .sr (l9 bz) vb1 b.cells), (6, .blk b1 [vb0, vb1, (I6 b.status), (I6 b.aK)]), (11, .rd dL DX jF.1.frames), (12, .rd (l9 bz) zA jF.1.cells), (13, .own eY 3 EF jF.2.1), (14, .blk IE [DX, zA, (I6 jF.1.status), (I6 jF.1.aK)]), (20, .blk b43 [(.slice none 0 0), (.slice none 0 0), (I6 0), (I6 0)])]) ∧ qw N c jF b a Xi = some r) ?_ ?_
 rintro Xi w dR ⟨h, hs⟩
 refine aI hs rfl (fun c95 hs => ?_) (fun c95 hs => ?_)
 refine nG (aa (ae (v := (.bool (false))) rfl) (nR (ay (bR (v := (.bool (false))) Tryz.results8 rfl ?_))))
 obtain rfl := fM hs
 exact ⟨h.grown, rfl⟩
 refine aH (au ?_)
 exact bS () ⟨h.cn _, hs⟩
 refine aD (aa (ah (v := (I6 y22.2)) rfl) (aa (gM rfl rfl) (aa (ah (v := (.bool (decide ((y22.2 : Int) ≠ 7)))) rfl) (gT (b := decide ((y22.2 : Int) ≠ 7)) hs (fun JQ hs => ?_) (fun JQ hs => ?_)))))
 refine OT rfl (cB JQ) rfl (OT rfl (cB JQ) rfl (OT rfl (cB JQ) rfl (OT rfl (cB JQ) rfl (aa (bY (b := true) (v := (.bool (true))) (cB JQ) rfl) (aA (au ?_))))))
 exact bS true ⟨h.cn _, hs⟩
 refine cz rfl (cB JQ) (aa (bU (vs := [u24, u26, (I6 y22.1.status), (I6 y22.1.aK)]) h 17 rfl bC rfl rfl rfl) (cz rfl (cB JQ) (aa (bU (vs := [(.slice none 0 0), (.slice none 0 0), (I6 0), (I6 0)]) h 20 rfl bC rfl rfl rfl) (cz rfl (cB JQ) ?_))))
 obtain ⟨uZ, e98, hs⟩ := aL hs
 refine aW Cq rfl rfl (gq _ _ h.lt y22.1 u24 u26 (h.kL 15 rfl) (h.kL 16 rfl) (⟨[], [], 0, 0⟩ : LX.State) (.slice none 0 0) (.slice none 0 0) gB.nil gB.nil _ e98) ?_
 rintro _ w ⟨k99, rfl⟩
 refine ⟨_, rfl, ?_⟩
 replace h := h.grow k99
 refine cz rfl (cB JQ) (aa (fw rfl) (aa (bY (b := false) (v := (.bool ((!uZ)))) (cB JQ) rfl) (aA (au ?_))))
 exact bS (!uZ) ⟨h.cn _, hs⟩
 refine cu (σ := Bool) (inl (rg 137 8)) (fun x100 => [(144, (.bool (x100)))]) (fun x100 w => SH w0 M BE w (hset [(1, .rd jE va a), (2, .sr dL vb0 b.frames), (3, .sr (l9 bz) vb1 b.cells), (6, .blk b1 [vb0, vb1, (I6 b.status), (I6 b.aK)]), (11, .rd dL DX jF.1.frames), (12, .rd (l9 bz) zA jF.1.cells), (13, .own eY 3 EF jF.2.1), (14, .blk IE [DX, zA, (I6 jF.1.status), (I6 jF.1.aK)]), (20, .blk b43 [(.slice none 0 0), (.slice none 0 0), (I6 0), (I6 0)])]) ∧ qx N c jF b a x100 = some r) ?_ ?_
 rintro x100 w dR ⟨h, hs⟩
 refine aI hs rfl (fun c101 hs => ?_) (fun c101 hs => ?_)
 refine nG (aa (ae (v := (.bool (false))) rfl) (nR (ay (bR (v := (.bool (false))) Tryz.results8 rfl ?_))))
 obtain rfl := fM hs
 exact ⟨h.grown, rfl⟩
 refine aH (au ?_)
 exact bS () ⟨h.cn _, hs⟩
 refine aD (aa (ah (v := (I6 y22.2)) rfl) (aa (gM rfl rfl) (aa (ah (v := (.bool (decide ((y22.2 : Int) ≠ 0)))) rfl) (gT (b := decide ((y22.2 : Int) ≠ 0)) hs (fun Ff hs => ?_) (fun Ff hs => ?_)))))
 refine OT rfl (cB Ff) rfl (OT rfl (cB Ff) rfl (OT rfl (cB Ff) rfl (OT rfl (cB Ff) rfl (aa (bY (b := true) (v := (.bool (true))) (cB Ff) rfl) (aA (au ?_))))))
 exact bS true ⟨h.cn _, hs⟩
 refine cz rfl (cB Ff) (aa (bU (vs := [u24, u26, (I6 y22.1.status), (I6 y22.1.aK)]) h 17 rfl bC rfl rfl rfl) (cz rfl (cB Ff) (aa (bU (vs := [vb0, vb1, (I6 0), (I6 0)]) h 105 rfl bC rfl rfl rfl) (cz rfl (cB Ff) ?_))))
 obtain ⟨wP, Xb, hs⟩ := aL hs
 refine aW Cq rfl rfl (gq _ _ h.lt y22.1 u24 u26 (h.kL 15 rfl) (h.kL 16 rfl) (⟨b.frames, b.cells, 0, 0⟩ : LX.State) vb0 vb1 (h.gV 2 rfl) (h.gV 3 rfl) _ Xb) ?_
 rintro _ w ⟨k105, rfl⟩
 refine ⟨_, rfl, ?_⟩
 replace h := h.grow k105
 refine cz rfl (cB Ff) (aa (fw rfl) (aa (bY (b := false) (v := (.bool ((!wP)))) (cB Ff) rfl) (aA (au ?_))))
 exact bS (!wP) ⟨h.cn _, hs⟩
 refine nG (aa (ah (v := (I6 zB)) rfl) (aa (bu rfl rfl) (nN (aI hs rfl (fun c106 hs => ?_) (fun c106 hs => ?_)))))
 refine aD (aa (ah (v := va) rfl) (aa (bU (vs := [vb0, vb1, (I6 b.status), (I6 b.aK)]) h 6 rfl bC rfl rfl rfl) ?_))
 obtain ⟨rE, e108, hs⟩ := aL hs
 refine aW fnOk22 rfl rfl (Cx _ _ h.lt va a (h.kL 1 rfl) b vb0 vb1 (h.gV 2 rfl) (h.gV 3 rfl) _ e108) ?_
 rintro _ w ⟨k109, rfl⟩
 refine ⟨_, rfl, ?_⟩
 replace h := h.grow k109
 refine aa (ae (v := (I6 rE)) rfl) (aA (au ?_))
 exact bS rE ⟨h.cn _, hs⟩
 refine aH (au ?_)
 exact bS zB ⟨h.cn _, hs⟩
 refine zf mixed h fun w h => ?_
 obtain ⟨ws111, ws111e⟩ : ∃ x, x = w := ⟨_, rfl⟩
 have kQ : Grow ws111 w := ws111e ▸ aP.refl BE w
 refine CP ws111e.symm (mg 0 (by kernel_rfl) rfl aj ?_)
 obtain ⟨Gx, YI, hs⟩ := aL hs
 refine aW fnOk26 rfl rfl (Jj N _ _ h.lt (hT.go h.keep)  _ YI) ?_
 rintro _ w ⟨Pv, rfl⟩
 refine ⟨_, rfl, ?_⟩
 replace h := h.grow Pv
 replace kQ := kQ.trans Pv
 refine aA (iU kQ (jG 1 kQ rfl (by kernel_rfl) (fun w hk => fw rfl) (jG 2 kQ rfl (by kernel_rfl) (fun w hk => ah (v := (.bool ((!Gx)))) rfl) (gT (b := (!Gx)) hs (fun QV hs => ?_) (fun QV hs => ?_)))))
 refine iC 3 kQ rfl (gy (b' := true) rfl (cB QV) rfl) (by kernel_rfl) (by kernel_rfl) (by kernel_rfl) (iC 4 kQ rfl (gy (b' := true) rfl (cB QV) rfl) (by kernel_rfl) (by kernel_rfl) (by kernel_rfl) (iC 5 kQ rfl (gy (b' := true) rfl (cB QV) rfl) (by kernel_rfl) (by kernel_rfl) (by kernel_rfl) (jG 6 kQ rfl (by kernel_rfl) (fun w hk => bY (b := true) (v := (.bool (true))) (cB QV) rfl) (jG 7 kQ rfl (by kernel_rfl) (fun w hk => ah (v := (.bool (true))) rfl) (iC 8 kQ rfl (gy (b' := true) rfl rfl rfl) (by kernel_rfl) (by kernel_rfl) (by kernel_rfl) (iC 9 kQ rfl (gy (b' := true) rfl rfl rfl) (by kernel_rfl) (by kernel_rfl) (by kernel_rfl) (iC 10 kQ rfl (gy (b' := true) rfl rfl rfl) (by kernel_rfl) (by kernel_rfl) (by kernel_rfl) (iC 11 kQ rfl (gy (b' := true) rfl rfl rfl) (by kernel_rfl) (by kernel_rfl) (by kernel_rfl) (jG 12 kQ rfl (by kernel_rfl) (fun w hk => bY (b := true) (v := (.bool (true))) rfl rfl) (jG 13 kQ rfl (by kernel_rfl) (fun w hk => ah (v := (.bool (true))) rfl) (iC 14 kQ rfl (gy (b' := true) rfl rfl rfl) (by kernel_rfl) (by kernel_rfl) (by kernel_rfl) (iC 15 kQ rfl (gy (b' := true) rfl rfl rfl) (by kernel_rfl) (by kernel_rfl) (by kernel_rfl) (iC 16 kQ rfl (gy (b' := true) rfl rfl rfl) (by kernel_rfl) (by kernel_rfl) (by kernel_rfl) (iC 17 kQ rfl (gy (b' := true) rfl rfl rfl) (by kernel_rfl) (by kernel_rfl) (by kernel_rfl) (iC 18 kQ rfl (gy (b' := true) rfl rfl rfl) (by kernel_rfl) (by kernel_rfl) (by kernel_rfl) (iC 19 kQ rfl (gy (b' := true) rfl rfl rfl) (by kernel_rfl) (by kernel_rfl) (by kernel_rfl) (iC 20 kQ rfl (gy (b' := true) rfl rfl rfl) (by kernel_rfl) (by kernel_rfl) (by kernel_rfl) (jG 21 kQ rfl (by kernel_rfl) (fun w hk => bY (b := true) (v := (.bool (true))) rfl rfl) (qQ (by kernel_rfl) (au ?_))))))))))))))))))))
 exact bS true ⟨h.cn _, hs⟩
 refine eG 3 kQ rfl (ow rfl (cB QV)) (by kernel_rfl) (by kernel_rfl) (by kernel_rfl) (fun w hk => ah (v := (I6 y3.2)) rfl) (eG 4 kQ rfl (ow rfl (cB QV)) (by kernel_rfl) (by kernel_rfl) (by kernel_rfl) (fun w hk => ah (v := (I6 zB)) rfl) (eG 5 kQ rfl (ow rfl (cB QV)) (by kernel_rfl) (by kernel_rfl) (by kernel_rfl) (fun w hk => gM rfl rfl) (jG 6 kQ rfl (by kernel_rfl) (fun w hk => bY (b := false) (v := (.bool (decide ((y3.2 : Int) ≠ zB)))) (cB QV) rfl) (jG 7 kQ rfl (by kernel_rfl) (fun w hk => ah (v := (.bool (decide ((y3.2 : Int) ≠ zB)))) rfl) (gT (b := decide ((y3.2 : Int) ≠ zB)) hs (fun Nz hs => ?_) (fun Nz hs => ?_))))))
 refine iC 8 kQ rfl (gy (b' := true) rfl (cB Nz) rfl) (by kernel_rfl) (by kernel_rfl) (by kernel_rfl) (iC 9 kQ rfl (gy (b' := true) rfl (cB Nz) rfl) (by kernel_rfl) (by kernel_rfl) (by kernel_rfl) (iC 10 kQ rfl (gy (b' := true) rfl (cB Nz) rfl) (by kernel_rfl) (by kernel_rfl) (by kernel_rfl) (iC 11 kQ rfl (gy (b' := true) rfl (cB Nz) rfl) (by kernel_rfl) (by kernel_rfl) (by kernel_rfl) (jG 12 kQ rfl (by kernel_rfl) (fun w hk => bY (b := true) (v := (.bool (true))) (cB Nz) rfl) (jG 13 kQ rfl (by kernel_rfl) (fun w hk => ah (v := (.bool (true))) rfl) (iC 14 kQ rfl (gy (b' := true) rfl rfl rfl) (by kernel_rfl) (by kernel_rfl) (by kernel_rfl) (iC 15 kQ rfl (gy (b' := true) rfl rfl rfl) (by kernel_rfl) (by kernel_rfl) (by kernel_rfl) (iC 16 kQ rfl (gy (b' := true) rfl rfl rfl) (by kernel_rfl) (by kernel_rfl) (by kernel_rfl) (iC 17 kQ rfl (gy (b' := true) rfl rfl rfl) (by kernel_rfl) (by kernel_rfl) (by kernel_rfl) (iC 18 kQ rfl (gy (b' := true) rfl rfl rfl) (by kernel_rfl) (by kernel_rfl) (by kernel_rfl) (iC 19 kQ rfl (gy (b' := true) rfl rfl rfl) (by kernel_rfl) (by kernel_rfl) (by kernel_rfl) (iC 20 kQ rfl (gy (b' := true) rfl rfl rfl) (by kernel_rfl) (by kernel_rfl) (by kernel_rfl) (jG 21 kQ rfl (by kernel_rfl) (fun w hk => bY (b := true) (v := (.bool (true))) rfl rfl) (qQ (by kernel_rfl) (au ?_)))))))))))))))
 exact bS true ⟨h.cn _, hs⟩
 refine LM kQ ?_
 obtain ⟨Vh, Td⟩ : ∃ x, x = w := ⟨_, rfl⟩
 have hgq110x8_2 : Grow Vh w := Td ▸ aP.refl _ _
 refine eG 8 (aP.refl BE _) rfl (ow rfl (cB Nz)) (by kernel_rfl) (by kernel_rfl) (by kernel_rfl) (fun w hk => have h := h.grow hk; bU (vs := [u5, u7, (I6 y3.1.status), (I6 y3.1.aK)]) h 10 rfl bC rfl rfl rfl) (eG 9 (aP.refl BE _) rfl (ow rfl (cB Nz)) (by kernel_rfl) (by kernel_rfl) (by kernel_rfl) (fun w hk => have h := h.grow hk; bU (vs := [v34, (.slice none 0 0), (I6 0), (I6 0)]) h 18 rfl bC rfl rfl rfl) ?_)
 obtain ⟨ws115, ws115e⟩ : ∃ x, x = w := ⟨_, rfl⟩
 have BM : Grow ws115 w := ws115e ▸ aP.refl BE w
 refine CP ws115e.symm (mg 10 (by kernel_rfl) rfl (ow rfl (cB Nz)) ?_)
 obtain ⟨BL, Vi, hs⟩ := aL hs
 refine aW Cq rfl rfl (gq _ _ h.lt y3.1 u5 u7 (h.kL 8 rfl) (h.kL 9 rfl) (⟨fQ, [], 0, 0⟩ : LX.State) v34 (.slice none 0 0) (h.eT 19 rfl) gB.nil _ Vi) ?_
 rintro _ w ⟨NA, rfl⟩
 refine ⟨_, rfl, ?_⟩
 replace h := h.grow NA
 replace BM := BM.trans NA
 refine aA (iU BM (eG 11 BM rfl (ow rfl (cB Nz)) (by kernel_rfl) (by kernel_rfl) (by kernel_rfl) (fun w hk => fw rfl) (jG 12 BM rfl (by kernel_rfl) (fun w hk => bY (b := false) (v := (.bool ((!BL)))) (cB Nz) rfl) (jG 13 BM rfl (by kernel_rfl) (fun w hk => ah (v := (.bool ((!BL)))) rfl) (gT (b := (!BL)) hs (fun c117 hs => ?_) (fun c117 hs => ?_))))))
 refine iC 14 BM rfl (gy (b' := true) rfl (cB c117) rfl) (by kernel_rfl) (by kernel_rfl) (by kernel_rfl) (iC 15 BM rfl (gy (b' := true) rfl (cB c117) rfl) (by kernel_rfl) (by kernel_rfl) (by kernel_rfl) (iC 16 BM rfl (gy (b' := true) rfl (cB c117) rfl) (by kernel_rfl) (by kernel_rfl) (by kernel_rfl) (iC 17 BM rfl (gy (b' := true) rfl (cB c117) rfl) (by kernel_rfl) (by kernel_rfl) (by kernel_rfl) (iC 18 BM rfl (gy (b' := true) rfl (cB c117) rfl) (by kernel_rfl) (by kernel_rfl) (by kernel_rfl) (iC 19 BM rfl (gy (b' := true) rfl (cB c117) rfl) (by kernel_rfl) (by kernel_rfl) (by kernel_rfl) (iC 20 BM rfl (gy (b' := true) rfl (cB c117) rfl) (by kernel_rfl) (by kernel_rfl) (by kernel_rfl) (jG 21 BM rfl (by kernel_rfl) (fun w hk => bY (b := true) (v := (.bool (true))) (cB c117) rfl) (qQ (by kernel_rfl) (au ?_)))))))))
 exact bS true ⟨h.cn _, hs⟩
 refine LM BM ?_
 obtain ⟨Te, QW⟩ : ∃ x, x = w := ⟨_, rfl⟩
 have hgq110x14_2 : Grow Te w := QW ▸ aP.refl _ _
 refine eG 14 (aP.refl BE _) rfl (ow rfl (cB c117)) (by kernel_rfl) (by kernel_rfl) (by kernel_rfl) (fun w hk => have h := h.grow hk; bU (vs := [vb0, vb1, (I6 b.status), (I6 b.aK)]) h 6 rfl bC rfl rfl rfl) (eG 15 (aP.refl BE _) rfl (ow rfl (cB c117)) (by kernel_rfl) (by kernel_rfl) (by kernel_rfl) (fun w hk => have h := h.grow hk; bU (vs := [vd0, vd1, (I6 d.status), (I6 d.aK)]) h 7 rfl bC rfl rfl rfl) (eG 17 (aP.refl BE _) rfl (ow rfl (cB c117)) (by kernel_rfl) (by kernel_rfl) (by kernel_rfl) (fun w hk => have h := h.grow hk; bU (vs := [vb0, vb1, (I6 b.status), (I6 b.aK)]) h 6 rfl bC rfl rfl rfl) (eG 18 (aP.refl BE _) rfl (ow rfl (cB c117)) (by kernel_rfl) (by kernel_rfl) (by kernel_rfl) (fun w hk => have h := h.grow hk; bU (vs := [vd0, vd1, (I6 d.status), (I6 d.aK)]) h 7 rfl bC rfl rfl rfl) ?_)))
 obtain ⟨ws118, ws118e⟩ : ∃ x, x = w := ⟨_, rfl⟩
 have Lg : Grow ws118 w := ws118e ▸ aP.refl BE w
 refine CP ws118e.symm (mg 16 (by kernel_rfl) rfl (ow rfl (cB c117)) ?_)
 obtain ⟨Ey, Vj, hs⟩ := aL hs
 refine aW fnOk19 rfl rfl (X4 _ _ h.lt b vb0 vb1 (h.gV 2 rfl) (h.gV 3 rfl) d vd0 vd1 (h.gV 4 rfl) (h.gV 5 rfl) _ Vj) ?_
 rintro _ w ⟨NB, rfl⟩
 refine ⟨_, rfl, ?_⟩
 replace h := h.grow NB
 replace Lg := Lg.trans NB
 refine aA (iU Lg (mg 19 (by kernel_rfl) rfl (ow rfl (cB c117)) ?_))
 obtain ⟨Ez, Vk, hs⟩ := aL hs
 refine aW Cq rfl rfl (gq _ _ h.lt b vb0 vb1 (h.gV 2 rfl) (h.gV 3 rfl) d vd0 vd1 (h.gV 4 rfl) (h.gV 5 rfl) _ Vk) ?_
 rintro _ w ⟨NC, rfl⟩
 refine ⟨_, rfl, ?_⟩
 replace h := h.grow NC
 replace Lg := Lg.trans NC
 refine aA (iU Lg (eG 20 Lg rfl (ow rfl (cB c117)) (by kernel_rfl) (by kernel_rfl) (by kernel_rfl) (fun w hk => Za Tryz.underlying4 rfl rfl) (jG 21 Lg rfl (by kernel_rfl) (fun w hk => bY (b := false) (v := (.bool ((Ey != Ez)))) (cB c117) rfl) (qQ (by kernel_rfl) (au ?_)))))
 exact bS (Ey != Ez) ⟨h.cn _, hs⟩
 refine nG (aa (ah (v := (I6 zB)) rfl) (aa (bu rfl rfl) (nN (aI hs rfl (fun c120 hs => ?_) (fun c120 hs => ?_)))))
 refine aD (aa (ah (v := va) rfl) ?_)
 obtain ⟨YC, e122, hs⟩ := aL hs
 obtain ⟨b124, o125, cs126, h, r127, i123⟩ := h.Cn 1 386 rfl gU rfl (aC e122).1 (aC e122).2
 obtain ⟨u128, rfl, g129⟩ := jN r127
 replace h := h.dh 387 g129.up
 refine aa (i123 _ _ _ _ _ _ _ _ _ rfl rfl) (aa (ag vK rfl) (aa (fo (k := 1) h 386 rfl aR rfl rfl) ?_))
 obtain ⟨a131, hs⟩ := bG hs
 refine uu (R := bz) (zs := [(I6 0), (I6 0)]) (a := (⟨0, 0⟩ : Val)) h 388 lC aY rfl (by decide) rfl rfl a131 rfl (fun _ _ => rfl) fun w u130 h u130k u130f => aa (fe (pv := [(2, u130)]) (out := [(I6 0), (I6 0), u130, (I6 0)]) C9 rfl ⟨2, 1, [u130], rfl, (gH (h.dD 388 rfl).one), rfl, bD rfl, rfl⟩) ?_
 replace h := h.freeze 388 rfl
 refine sV (R := dL) (vs := [(.agg #[(I6 0), (I6 0), u130, (I6 0)])]) (xs := [(⟨0, 0, (List.replicate YC.regs.toNat (⟨0, 0⟩ : Val)), 0⟩ : LX.Frame)]) h 389 kH rfl rfl rfl ⟨⟨_, rfl, (h.iN 388 rfl)⟩, trivial⟩ rfl fun w YJ h => aa (fe (pv := [(0, YJ)]) (out := [YJ, (.slice none 0 0), (I6 0), (I6 0)]) wB rfl ⟨0, 1, [YJ], rfl, (gH (h.dD 389 rfl).one), rfl, bD rfl, rfl⟩) (dK (vs := [YJ, (.slice none 0 0), (I6 0), (I6 0)]) h 18 [YJ, (.slice none 0 0), (I6 0), (I6 0)] rfl bC rfl rfl rfl rfl rfl (ai (h.dD 389 rfl).one (ai rfl (ai rfl (ai rfl aS)))) fun w h => aA (au ?_))
 replace h := h.GQ 389 19 rfl rfl (by decide)
 exact bS (YJ, [(⟨0, 0, (List.replicate YC.regs.toNat (⟨0, 0⟩ : Val)), 0⟩ : LX.Frame)]) ⟨h.cn _, hs⟩
 refine aH (au ?_)
 replace h := h.yH (R := dL) (E := 49) 19
 exact bS ((.slice none 0 0), []) ⟨h.cn _, hs⟩
end
end Go.Proofs.YtfclkapelkhlpaaGreatDoor
