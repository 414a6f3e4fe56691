/-
  What the law VmSays needs of our own library and of the walks, no more.
-/
import Derived.Test.YtfclkapelkhlpaaGreatDoorProg
import Derived.Test.YtfclkapelkhlpaaGreatDoorVmSaysTe
set_option linter.unusedSimpArgs false
set_option linter.unusedVariables false
set_option maxRecDepth 10000
namespace Go.Proofs.YtfclkapelkhlpaaGreatDoor
open Go Go.Proofs Go.LX
noncomputable section
theorem XJ (N : Nat) (w0 : World) (M : BS) (hM : ∀ b, M b → b < w0.heap.size) (sb : Nat) (sx : LX.State) (iA vs1 : Value) (iW iI : List Value) (hC : Chunk.holds w0 M (Chunk.own' (cT sb iA vs1 (sx.status) (sx.aK) sx.frames iW sx.cells iI)) (cT sb iA vs1 (sx.status) (sx.aK) sx.frames iW sx.cells iI)) (hap : ∀ b, Chunk.own' (cT sb iA vs1 (sx.status) (sx.aK) sx.frames iW sx.cells iI) b → ¬ M b) (va : Value) (a : List bX) (ha : iL jE w0 (fun b => M b ∨ (cT sb iA vs1 (sx.status) (sx.aK) sx.frames iW sx.cells iI).own' b) va a) (r : GZ × Bool × LX.State) (hs : ug N sx a = some r) :
    Calls Tryz.prog 65 #[va, (.pointer (some ⟨sb, 0, none⟩))] w0 (fun e w' => aP (Chunk.own' (cT sb iA vs1 (sx.status) (sx.aK) sx.frames iW sx.cells iI)) w0 w' ∧ ∃ Ma, ∃ Mc, ∃ Md, ∃ Me, e = .returned (.tuple #[.agg #[.bool r.1.said, .int .i64 r.1.n, .bool r.1.JK], .bool r.2.1]) ∧ Chunk.holds w' M (Chunk.own' (cT sb Ma Mc r.2.2.status r.2.2.aK r.2.2.frames Md r.2.2.cells Me)) (cT sb Ma Mc r.2.2.status r.2.2.aK r.2.2.frames Md r.2.2.cells Me) ∧ (∀ b, Chunk.own' (cT sb Ma Mc r.2.2.status r.2.2.aK r.2.2.frames Md r.2.2.cells Me) b → b < w0.heap.size → Chunk.own' (cT sb iA vs1 (sx.status) (sx.aK) sx.frames iW sx.cells iI) b)) := by
 refine aQ (args := [va, (.pointer (some ⟨sb, 0, none⟩))]) Tryz.func65 rfl Tryz.ntmps65 (bD rfl) ?_
 have h := SH.IQ hM hC hap
 replace h := h.E5 6 ha D6
 generalize wE : (cT sb iA vs1 (sx.status) (sx.aK) sx.frames iW sx.cells iI).own' = K0 at h
 replace h := h.cK 1 5 (by decide) rfl rfl
 replace h := h.cK 1 4 (by decide) rfl rfl
 replace h := h.cK 1 3 (by decide) rfl rfl
 replace h := h.cK 1 2 (by decide) rfl rfl
 have uU := ha.bT
 refine nG (bI h 7 jm fun w b1 h => aa (ae (v := (.bool (false))) rfl) (nJ (aa (ah (v := (.pointer (some ⟨sb, 0, none⟩))) rfl) (aa (aX rfl) (aa (ag dP rfl) (aa (az h 1 rfl gL rfl rfl) (aa (nA (N := bB) bV rfl (h.eT 2 rfl) (h.gm 3 rfl)) ?_)))))))
 obtain ⟨a2, hs⟩ := bG hs
 refine aa (oh rfl rfl a2) (aa (ae (v := (I6 (((sx.frames.length : Int) - 1)))) rfl) (nJ (aa (ah (v := (.pointer (some ⟨sb, 0, none⟩))) rfl) (aa (aX rfl) (aa (ag dP rfl) (aa (az h 1 rfl gL rfl rfl) (aa (ah (v := (I6 (((sx.frames.length : Int) - 1)))) rfl) ?_)))))))
 obtain ⟨x3, e4, hs⟩ := aL hs
 obtain ⟨u8, e9, h⟩ := h.mq 3 8 x3.regs rfl rfl (by decide) (aC e4).2 rfl
 obtain ⟨b6, q7, i5⟩ := h.rO 2 rfl bV rfl (aC e4).1 (eU (aC e4).2 e9)
 refine aa (i5 _ _ _ _ _ _ _ _ _ rfl rfl) (aa (ae (v := (.pointer (some ⟨b6, (((sx.frames.length : Int) - 1)).toNat * 4, none⟩))) rfl) (nN (aM (zf mixed h fun w h => eG 0 (aP.refl BE _) rfl aj (by kernel_rfl) (by kernel_rfl) (by kernel_rfl) (fun w hk => ah (v := va) rfl) (eG 1 (aP.refl BE _) rfl aj (by kernel_rfl) (by kernel_rfl) (by kernel_rfl) (fun w hk => ah (v := (.pointer (some ⟨b6, (((sx.frames.length : Int) - 1)).toNat * 4, none⟩))) rfl) (eG 2 (aP.refl BE _) rfl aj (by kernel_rfl) (by kernel_rfl) (by kernel_rfl) (fun w hk => aX rfl) (eG 3 (aP.refl BE _) rfl aj (by kernel_rfl) (by kernel_rfl) (by kernel_rfl) (fun w hk => ag tq rfl) ?_)))))))
 obtain ⟨csq10x4_1, mq10x4_2, rq10x4_3⟩ := h.uQ 2 rfl q7 (eU (aC e4).2 e9)
 obtain ⟨rfl, -⟩ := rq10x4_3
 refine eG 4 (aP.refl BE _) rfl aj (by kernel_rfl) (by kernel_rfl) (by kernel_rfl) (fun w hk => have h := h.grow hk; lh (k := 0) (mq10x4_2.grow hk) aR rfl rfl) ?_
 obtain ⟨bJ, Jg, hs⟩ := aL hs
 obtain ⟨bq10x5_4, oq10x5_5, csq10x5_6, h, rq10x5_7, iq10x5_3⟩ := h.Cn 6 69 rfl gU rfl (aC Jg).1 (aC Jg).2
 obtain ⟨uq10x5_8, rfl, gq10x5_9⟩ := jN rq10x5_7
 replace h := h.dh 70 gq10x5_9.up
 refine eG 5 (aP.refl BE _) rfl aj (by kernel_rfl) (by kernel_rfl) (by kernel_rfl) (fun w hk => iq10x5_3 _ _ _ _ _ _ _ _ _ rfl rfl) (eG 6 (aP.refl BE _) rfl aj (by kernel_rfl) (by kernel_rfl) (by kernel_rfl) (fun w hk => ag nP rfl) (eG 7 (aP.refl BE _) rfl aj (by kernel_rfl) (by kernel_rfl) (by kernel_rfl) (fun w hk => have h := h.grow hk; fo (k := 2) h 69 rfl xh rfl rfl) (eG 8 (aP.refl BE _) rfl aj (by kernel_rfl) (by kernel_rfl) (by kernel_rfl) (fun w hk => ah (v := (.pointer (some ⟨b6, (((sx.frames.length : Int) - 1)).toNat * 4, none⟩))) rfl) (eG 9 (aP.refl BE _) rfl aj (by kernel_rfl) (by kernel_rfl) (by kernel_rfl) (fun w hk => aX rfl) (eG 10 (aP.refl BE _) rfl aj (by kernel_rfl) (by kernel_rfl) (by kernel_rfl) (fun w hk => ag nO rfl) ?_)))))
 obtain ⟨csq10x11_1, XK, XL⟩ := h.uQ 2 rfl q7 (eU (aC e4).2 e9)
 obtain ⟨rfl, -⟩ := XL
 refine eG 11 (aP.refl BE _) rfl aj (by kernel_rfl) (by kernel_rfl) (by kernel_rfl) (fun w hk => have h := h.grow hk; lh (k := 1) (XK.grow hk) aR rfl rfl) ?_
 obtain ⟨aU, O8, hs⟩ := aL hs
 obtain ⟨bq10x12_4, oq10x12_5, csq10x12_6, h, XM, XN⟩ := h.Cn 70 153 rfl iD rfl (aC O8).1 (aC O8).2
 obtain ⟨nU, rfl, XO⟩ := xe XM
 replace h := h.dh 154 XO.up
 refine eG 12 (aP.refl BE _) rfl aj (by kernel_rfl) (by kernel_rfl) (by kernel_rfl) (fun w hk => XN _ _ _ _ _ _ _ _ _ rfl rfl) (eG 13 (aP.refl BE _) rfl aj (by kernel_rfl) (by kernel_rfl) (by kernel_rfl) (fun w hk => have h := h.grow hk; jc (k := 0) (vs := [(I6 aU.op), (I6 aU.a), (I6 aU.b), (I6 aU.c), nU]) h 153 rfl oF rfl rfl rfl (bD rfl)) ?_)
 obtain ⟨ws11, ws11e⟩ : ∃ x, x = w := ⟨_, rfl⟩
 have UN : Grow ws11 w := ws11e ▸ aP.refl BE w
 refine CP ws11e.symm (mg 14 (by kernel_rfl) rfl aj (xc h 177 oF fun w O9 h UO UQ => ?_))
 have UR : ws11.heap.size ≤ O9 := Nat.le_trans UN.size UQ
 replace UN := UN.trans UO
 refine aA (iU UN (mg 15 (by kernel_rfl) rfl aj (vX (vs := [(I6 aU.op), (I6 aU.a), (I6 aU.b), (I6 aU.c), nU]) h 177 [(I6 aU.op), (I6 aU.a), (I6 aU.b), (I6 aU.c), nU] rfl oF rfl rfl rfl rfl rfl (ai rfl (ai rfl (ai rfl (ai rfl (ai (h.iN 154 rfl).one aS))))) fun w h XP => ?_)))
 replace UN := UN.fresh XP (fun x hx => hx ▸ UR)
 refine aA (iU UN (qQ (by kernel_rfl) (ak (aM (mZ 19 mixed (by kernel_rfl) h fun w h => aG (ah (v := (.pointer (some ⟨b6, (((sx.frames.length : Int) - 1)).toNat * 4, none⟩))) rfl) (aG (ah (v := (.pointer (some ⟨b6, (((sx.frames.length : Int) - 1)).toNat * 4, none⟩))) rfl) (aG (aX rfl) (aG (ag nO rfl) ?_))))))))
 obtain ⟨cs13, m14, r15⟩ := h.uQ 2 rfl q7 (eU (aC e4).2 e9)
 obtain ⟨rfl, -⟩ := r15
 refine aG (lh (k := 1) m14 aR rfl rfl) ?_
 obtain ⟨a16, hs⟩ := bG hs
 refine aG (dQ rfl rfl a16) (aG (ah (v := va) rfl) (aG (ah (v := (.pointer (some ⟨b6, (((sx.frames.length : Int) - 1)).toNat * 4, none⟩))) rfl) (aG (aX rfl) (aG (ag tq rfl) ?_))))
 obtain ⟨cs17, m18, r19⟩ := h.uQ 2 rfl q7 (eU (aC e4).2 e9)
 obtain ⟨rfl, -⟩ := r19
 refine aG (lh (k := 0) m18 aR rfl rfl) ?_
 obtain ⟨IE, o22, cs23, h, r24, i20⟩ := h.Cn 6 213 rfl gU rfl (aC Jg).1 (aC Jg).2
 obtain ⟨u25, rfl, g26⟩ := jN r24
 replace h := h.dh 214 g26.up
 refine aG (i20 _ _ _ _ _ _ _ _ _ rfl rfl) (aG (ag nP rfl) (aG (fo (k := 2) h 213 rfl xh rfl rfl) (aG (bM iD rfl (h.kL 214 rfl)) ?_)))
 obtain ⟨a27, hs⟩ := bG hs
 refine aG (oh rfl rfl a27) (aG (r_min rfl rfl) (aG (aX rfl) (aG (ag nO rfl) (wz (IM (a' := (({ x3 with at_ := (min (x3.at_ + 1) ((bJ.code.length : Int) - 1)) }), u8)) h 2 rfl q7 rfl (eU (aC e4).2 e9) aR rfl rfl rfl rfl (by rintro _ ⟨rfl, hq⟩; exact ⟨rfl, hq⟩) fun w h => ?_)))))
 rw [CR e9] at h
 replace h := h.WO 3 ({ x3 with at_ := (min (x3.at_ + 1) ((bJ.code.length : Int) - 1)) }) rfl
 refine nJ (aa (ah (v := (.pointer (some ⟨b6, (((sx.frames.length : Int) - 1)).toNat * 4, none⟩))) rfl) (aa (aX rfl) (aa (ag jJ rfl) ?_)))
 obtain ⟨cs28, m29, r30⟩ := h.uQ 2 rfl q7 (eU (mh (aC e4).2) e9)
 obtain ⟨rfl, -⟩ := r30
 refine aa (lh (k := 2) m29 jH rfl rfl) (aa (ae (v := u8) rfl) (nN (cu (σ := Bool × Value × List Value × List LX.Frame × Value × List Value × List (List Val) × Int × Int) (inl ([5, 10] ++ rg 60 156)) (fun ⟨y31, v32, XQ, y34, v35, XR, y37, y38, y39⟩ => []) (fun ⟨y31, v32, XQ, y34, v35, XR, y37, y38, y39⟩ w => SH w0 M K0 w (hset [(1, .blk sb [v32, v35, (I6 y38), (I6 y39)]), (2, .own bB.raw 49 v32 (List.zip y34 XQ)), (3, .iJ (ek bz 51 hn XQ (List.map bB.sub y34))), (4, .own (eD Val).raw 47 v35 (List.zip y37 XR)), (5, .iJ (ek bz 51 hn XR (List.map (eD Val).sub y37))), (7, .blk b1 [(.bool (false)), (I6 0), (.bool (y31))])]) ∧ og y31 y34 y37 y38 y39 = some r) ?_ ?_)))
 rintro ⟨y31, v32, XQ, y34, v35, XR, y37, y38, y39⟩ w dR ⟨h, hs⟩
 refine nG (aa (bU (vs := [(.bool (false)), (I6 0), (.bool (y31))]) h 7 rfl jm rfl rfl rfl) (dK (vs := [(.bool (false)), (I6 0), (.bool (y31))]) h 7 [(.bool (false)), (I6 0), (.bool (y31))] rfl jm rfl rfl rfl rfl rfl (ai rfl (ai rfl (ai rfl aS))) fun w h => aa (ae (v := (.bool (true))) rfl) (nR (lV (vs := [(.bool (false)), (I6 0), (.bool (y31))]) (v2 := (.bool (true))) Tryz.results65 rfl rfl h 7 rfl jm rfl ?_))))
 replace h := h.pair 1 2 (by decide)
 replace h := h.pair 1 3 (by decide)
 replace h := h.pair 1 4 (by decide)
 replace h := h.pair 1 5 (by decide)
 obtain rfl := fM hs
 subst wE
 obtain ⟨o1, o2, o3⟩ := h.lu 1 (C := (cT sb v32 v35 (y38) (y39) y34 XQ y37 XR)) rfl ⟨⟨⟨⟨trivial, trivial⟩, trivial⟩, trivial⟩, trivial⟩
 exact ⟨o2, v32, v35, XQ, XR, rfl, o1, o3⟩
 refine nG (aa (ag ni rfl) (aa (az h 177 rfl aR rfl rfl) (nN (aN (nG (aa (bu rfl rfl) (aa (ae (v := (.bool (decide ((aU.op : Int) = 1)))) rfl) (nN (aI hs rfl (fun c40 hs => ?_) (fun c40 hs => ?_))))))))))
 refine aD (aa (ah (v := u8) rfl) (aa (ag jy rfl) (aa (az h 177 rfl aR rfl rfl) (aa (ag gN rfl) (aa (az h 177 rfl aR rfl rfl) (aa (fe (pv := [(0, (I6 1)), (1, (I6 aU.b))]) (out := [(I6 1), (I6 aU.b)]) qV rfl ⟨0, 1, [(I6 1)], rfl, rfl, rfl, bD rfl, ⟨1, 1, [(I6 aU.b)], rfl, rfl, rfl, bD rfl, rfl⟩⟩) ?_))))))
 obtain ⟨x41, e42, hs⟩ := aL hs
 obtain ⟨QK, q45, i43⟩ := h.rO 8 rfl aZ rfl (aC e42).1 (aC e42).2
 refine aa (i43 _ _ _ _ _ _ _ _ _ rfl rfl) (rX (a' := (⟨1, aU.b⟩ : Val)) (vs := [(I6 1), (I6 aU.b)]) h 8 rfl q45 rfl (aC e42).2 aY rfl rfl rfl rfl rfl fun w h k46 => aA (ax ?_))
 replace h := h.mo 2 3 8 ({ x3 with at_ := (min (x3.at_ + 1) ((bJ.code.length : Int) - 1)), regs := (x3.regs.set (aU.a).toNat (⟨1, aU.b⟩ : Val)) }) rfl rfl rfl (by decide) (by decide) (by decide) (mh (aC e4).2) e9 rfl
 refine au ?_
 exact bS (false, iA, iW, ((sx.frames.set (((sx.frames.length : Int) - 1)).toNat ({ x3 with at_ := (min (x3.at_ + 1) ((bJ.code.length : Int) - 1)) })).set (((sx.frames.length : Int) - 1)).toNat ({ x3 with at_ := (min (x3.at_ + 1) ((bJ.code.length : Int) - 1)), regs := (x3.regs.set (aU.a).toNat (⟨1, aU.b⟩ : Val)) })), vs1, iI, sx.cells, sx.status, sx.aK) ⟨h.cn _, hs⟩
 refine nG (aa (bu rfl rfl) (aa (ae (v := (.bool (decide ((aU.op : Int) = 2)))) rfl) (nN (aI hs rfl (fun Uh hs => ?_) (fun Uh hs => ?_)))))
 refine mZ 9 mixed (by kernel_rfl) h fun w h => aG (ah (v := u8) rfl) (aG (ag jy rfl) (aG (az h 177 rfl aR rfl rfl) (aG (ah (v := u8) rfl) (aG (ag gN rfl) (aG (az h 177 rfl aR rfl rfl) ?_)))))
 obtain ⟨x48, e49, hs⟩ := aL hs
 obtain ⟨b51, q52, i50⟩ := h.rO 8 rfl aZ rfl (aC e49).1 (aC e49).2
 refine aG (i50 _ _ _ _ _ _ _ _ _ rfl rfl) ?_
 obtain ⟨cs53, m54, r55⟩ := h.uQ 8 rfl q52 (aC e49).2
 obtain rfl := r55
 refine aG (kS (k := 0) (vs := [(I6 x48.kind), (I6 x48.n)]) m54 aY rfl rfl rfl (bD rfl)) ?_
 obtain ⟨Q8, e57, hs⟩ := aL hs
 obtain ⟨b59, q60, i58⟩ := h.rO 8 rfl aZ rfl (aC e57).1 (aC e57).2
 refine aG (i58 _ _ _ _ _ _ _ _ _ rfl rfl) (wz (rX (a' := x48) (vs := [(I6 x48.kind), (I6 x48.n)]) h 8 rfl q60 rfl (aC e57).2 aY rfl rfl rfl rfl rfl fun w h k61 => aA (ax ?_)))
 replace h := h.mo 2 3 8 ({ x3 with at_ := (min (x3.at_ + 1) ((bJ.code.length : Int) - 1)), regs := (x3.regs.set (aU.a).toNat x48) }) rfl rfl rfl (by decide) (by decide) (by decide) (mh (aC e4).2) e9 rfl
 refine au ?_
 exact bS (false, iA, iW, ((sx.frames.set (((sx.frames.length : Int) - 1)).toNat ({ x3 with at_ := (min (x3.at_ + 1) ((bJ.code.length : Int) - 1)) })).set (((sx.frames.length : Int) - 1)).toNat ({ x3 with at_ := (min (x3.at_ + 1) ((bJ.code.length : Int) - 1)), regs := (x3.regs.set (aU.a).toNat x48) })), vs1, iI, sx.cells, sx.status, sx.aK) ⟨h.cn _, hs⟩
 refine nG (aa (bu rfl rfl) (aa (ae (v := (.bool (decide ((aU.op : Int) = 3)))) rfl) (nN (aI hs rfl (fun c62 hs => ?_) (fun c62 hs => ?_)))))
 refine cu (σ := Bool × List LX.Frame) (inl ([5] ++ rg 84 22)) (fun ⟨u6, J7⟩ => [(5, (.bool (u6)))]) (fun ⟨u6, J7⟩ w => SH w0 M K0 w (hset [(1, .blk sb [iA, vs1, (I6 sx.status), (I6 sx.aK)]), (2, .own bB.raw 49 iA (List.zip J7 iW)), (3, .iJ (ek bz 51 hn iW (List.map bB.sub J7))), (4, .own (eD Val).raw 47 vs1 (List.zip sx.cells iI)), (5, .iJ (ek bz 51 hn iI (List.map (eD Val).sub sx.cells))), (7, .blk b1 [(.bool (false)), (I6 0), (.bool (false))])]) ∧ Et sx u6 J7 = some r) ?_ ?_
 rintro ⟨u6, J7⟩ w dR ⟨h, hs⟩
 refine nG (aa (bU (vs := [(.bool (false)), (I6 0), (.bool (false))]) h 7 rfl jm rfl rfl rfl) (aa (ah (v := (.bool (u6))) rfl) (dK (vs := [(.bool (false)), (I6 0), (.bool (false))]) h 7 [(.bool (false)), (I6 0), (.bool (false))] rfl jm rfl rfl rfl rfl rfl (ai rfl (ai rfl (ai rfl aS))) fun w h => aa (ae (v := (.bool (u6))) rfl) (nR (aB (ay (lV (vs := [(.bool (false)), (I6 0), (.bool (false))]) (v2 := (.bool (u6))) Tryz.results65 rfl rfl h 7 rfl jm rfl ?_)))))))
 replace h := h.pair 1 2 (by decide)
 replace h := h.pair 1 3 (by decide)
 replace h := h.pair 1 4 (by decide)
 replace h := h.pair 1 5 (by decide)
 obtain rfl := fM hs
 subst wE
 obtain ⟨o1, o2, o3⟩ := h.lu 1 (C := (cT sb iA vs1 (sx.status) (sx.aK) J7 iW sx.cells iI)) rfl ⟨⟨⟨⟨trivial, trivial⟩, trivial⟩, trivial⟩, trivial⟩
 exact ⟨o2, iA, vs1, iW, iI, rfl, o1, o3⟩
 refine lq (L := (ob u8)) mixed h fun w h => bH 0 (aP.refl _ _) rfl aj (by kernel_rfl) (by kernel_rfl) (by kernel_rfl) (fun w hk => ah (v := u8) rfl) (bH 1 (aP.refl _ _) rfl aj (by kernel_rfl) (by kernel_rfl) (by kernel_rfl) (fun w hk => ag jy rfl) (bH 2 (aP.refl _ _) rfl aj (by kernel_rfl) (by kernel_rfl) (by kernel_rfl) (fun w hk => have h := h.qR 8 rfl hk; az h 177 rfl aR rfl rfl) (bH 3 (aP.refl _ _) rfl aj (by kernel_rfl) (by kernel_rfl) (by kernel_rfl) (fun w hk => ag rQ rfl) (bH 4 (aP.refl _ _) rfl aj (by kernel_rfl) (by kernel_rfl) (by kernel_rfl) (fun w hk => have h := h.qR 8 rfl hk; az h 177 rfl qU rfl rfl) ?_))))
 obtain ⟨Jf, Sg, hs⟩ := aL hs
 obtain ⟨bq70x5_4, oq70x5_5, csq70x5_6, h, rq70x5_7, iq70x5_3⟩ := h.Cn 154 275 rfl bZ rfl (aC Sg).1 (aC Sg).2
 obtain rfl := rq70x5_7
 refine bH 5 (aP.refl _ _) rfl aj (by kernel_rfl) (by kernel_rfl) (by kernel_rfl) (fun w hk => iq70x5_3 _ _ _ _ _ _ _ _ _ rfl rfl) (bH 6 (aP.refl _ _) rfl aj (by kernel_rfl) (by kernel_rfl) (by kernel_rfl) (fun w hk => have h := h.qR 8 rfl hk; fo (k := 0) h 275 rfl aR rfl rfl) (bH 7 (aP.refl _ _) rfl aj (by kernel_rfl) (by kernel_rfl) (by kernel_rfl) (fun w hk => ah (v := u8) rfl) (bH 8 (aP.refl _ _) rfl aj (by kernel_rfl) (by kernel_rfl) (by kernel_rfl) (fun w hk => ag gN rfl) (bH 9 (aP.refl _ _) rfl aj (by kernel_rfl) (by kernel_rfl) (by kernel_rfl) (fun w hk => have h := h.qR 8 rfl hk; az h 177 rfl aR rfl rfl) ?_))))
 obtain ⟨xy, Gq, hs⟩ := aL hs
 obtain ⟨bq70x10_4, Pb, XT⟩ := h.rO 8 rfl aZ rfl (aC Gq).1 (aC Gq).2
 refine bH 10 (aP.refl _ _) rfl aj (by kernel_rfl) (by kernel_rfl) (by kernel_rfl) (fun w hk => XT _ _ _ _ _ _ _ _ _ rfl rfl) (bH 12 (aP.refl _ _) rfl aj (by kernel_rfl) (by kernel_rfl) (by kernel_rfl) (fun w hk => ah (v := u8) rfl) (bH 13 (aP.refl _ _) rfl aj (by kernel_rfl) (by kernel_rfl) (by kernel_rfl) (fun w hk => ag nk rfl) (bH 14 (aP.refl _ _) rfl aj (by kernel_rfl) (by kernel_rfl) (by kernel_rfl) (fun w hk => have h := h.qR 8 rfl hk; az h 177 rfl aR rfl rfl) ?_)))
 obtain ⟨xz, Gr, hs⟩ := aL hs
 obtain ⟨bq70x15_4, Pf, XU⟩ := h.rO 8 rfl aZ rfl (aC Gr).1 (aC Gr).2
 refine bH 15 (aP.refl _ _) rfl aj (by kernel_rfl) (by kernel_rfl) (by kernel_rfl) (fun w hk => XU _ _ _ _ _ _ _ _ _ rfl rfl) ?_
 obtain ⟨jf, Pg, hs⟩ := aL hs
 obtain ⟨XI, AY, hs⟩ := aL hs
 obtain ⟨ws71, ws71e⟩ : ∃ x, x = w := ⟨_, rfl⟩
 have zQ : aP (ob u8) ws71 w := ws71e ▸ aP.refl (ob u8) w
 refine rU ws71e.symm (om 11 16 (by kernel_rfl) rfl aj rfl aj ?_ ?_)
 obtain ⟨UT, Ko, Kq⟩ := h.uQ 8 rfl Pb (aC Gq).2
 obtain rfl := Kq
 refine aa (kS (k := 0) (vs := [(I6 xy.kind), (I6 xy.n)]) Ko aY rfl rfl rfl (bD rfl)) (aA (aT zQ (bE 16 (by kernel_rfl) rfl aj ?_)))
 obtain ⟨UU, Kr, Kt⟩ := h.uQ 8 rfl Pf (aC Gr).2
 obtain rfl := Kt
 refine aa (kS (k := 0) (vs := [(I6 xz.kind), (I6 xz.n)]) Kr aY rfl rfl rfl (bD rfl)) (aA (aT zQ (bE 17 (by kernel_rfl) rfl aj (aW ZW rfl rfl (V8 _ _ h.lt Jf xy xz _ Pg) ?_))))
 rintro _ w ⟨Dy, rfl⟩
 refine ⟨_, rfl, ?_⟩
 replace h := h.grow Dy
 replace zQ := zQ.grow Dy
 refine aA (aT zQ (dN 18 zQ rfl (by kernel_rfl) (fun w hk => ah (v := (.tuple #[(.agg #[(I6 jf.1.kind), (I6 jf.1.n)]), (.bool (jf.2))])) rfl) (dN 19 zQ rfl (by kernel_rfl) (fun w hk => bg rfl rfl) (dN 20 zQ rfl (by kernel_rfl) (fun w hk => bg rfl rfl) ?_))))
 obtain ⟨XV, Ku, Kv⟩ := h.rO 8 rfl aZ rfl (aC AY).1 (aC AY).2
 refine dN 21 zQ rfl (by kernel_rfl) (fun w hk => Kv _ _ _ _ _ _ _ _ _ rfl rfl) (bE 22 (by kernel_rfl) rfl aj (rX (a' := jf.1) (vs := [(I6 jf.1.kind), (I6 jf.1.n)]) h 8 rfl Ku rfl (aC AY).2 aY rfl rfl rfl rfl rfl fun w h Kw => ?_))
 replace zQ := zQ.same Kw
 refine aA (aT zQ (dN 23 zQ rfl (by kernel_rfl) (fun w hk => ae (v := (.bool (jf.2))) rfl) (gG (by kernel_rfl) ?_)))
 replace h := h.mo 2 3 8 ({ x3 with at_ := (min (x3.at_ + 1) ((bJ.code.length : Int) - 1)), regs := (x3.regs.set (aU.a).toNat jf.1) }) rfl rfl rfl (by decide) (by decide) (by decide) (mh (aC e4).2) e9 rfl
 refine au ?_
 exact bS (jf.2, ((sx.frames.set (((sx.frames.length : Int) - 1)).toNat ({ x3 with at_ := (min (x3.at_ + 1) ((bJ.code.length : Int) - 1)) })).set (((sx.frames.length : Int) - 1)).toNat ({ x3 with at_ := (min (x3.at_ + 1) ((bJ.code.length : Int) - 1)), regs := (x3.regs.set (aU.a).toNat jf.1) }))) ⟨h.cn _, hs⟩
 obtain ⟨UU, Kr, Kt⟩ := h.uQ 8 rfl Pf (aC Gr).2
 obtain rfl := Kt
 refine aa (kS (k := 0) (vs := [(I6 xz.kind), (I6 xz.n)]) Kr aY rfl rfl rfl (bD rfl)) (aA (aT zQ (bE 11 (by kernel_rfl) rfl aj ?_)))
 obtain ⟨UT, Ko, Kq⟩ := h.uQ 8 rfl Pb (aC Gq).2
 obtain rfl := Kq
 refine aa (kS (k := 0) (vs := [(I6 xy.kind), (I6 xy.n)]) Ko aY rfl rfl rfl (bD rfl)) (aA (aT zQ (bE 17 (by kernel_rfl) rfl aj (aW ZW rfl rfl (V8 _ _ h.lt Jf xy xz _ Pg) ?_))))
 rintro _ w ⟨Dy, rfl⟩
 refine ⟨_, rfl, ?_⟩
 replace h := h.grow Dy
 replace zQ := zQ.grow Dy
 refine aA (aT zQ (dN 18 zQ rfl (by kernel_rfl) (fun w hk => ah (v := (.tuple #[(.agg #[(I6 jf.1.kind), (I6 jf.1.n)]), (.bool (jf.2))])) rfl) (dN 19 zQ rfl (by kernel_rfl) (fun w hk => bg rfl rfl) (dN 20 zQ rfl (by kernel_rfl) (fun w hk => bg rfl rfl) ?_))))
 obtain ⟨XV, Ku, Kv⟩ := h.rO 8 rfl aZ rfl (aC AY).1 (aC AY).2
 refine dN 21 zQ rfl (by kernel_rfl) (fun w hk => Kv _ _ _ _ _ _ _ _ _ rfl rfl) (bE 22 (by kernel_rfl) rfl aj (rX (a' := jf.1) (vs := [(I6 jf.1.kind), (I6 jf.1.n)]) h 8 rfl Ku rfl (aC AY).2 aY rfl rfl rfl rfl rfl fun w h Kw => ?_))
 replace zQ := zQ.same Kw
 refine aA (aT zQ (dN 23 zQ rfl (by kernel_rfl) (fun w hk => ae (v := (.bool (jf.2))) rfl) (gG (by kernel_rfl) ?_)))
 replace h := h.mo 2 3 8 ({ x3 with at_ := (min (x3.at_ + 1) ((bJ.code.length : Int) - 1)), regs := (x3.regs.set (aU.a).toNat jf.1) }) rfl rfl rfl (by decide) (by decide) (by decide) (mh (aC e4).2) e9 rfl
 refine au ?_
 exact bS (jf.2, ((sx.frames.set (((sx.frames.length : Int) - 1)).toNat ({ x3 with at_ := (min (x3.at_ + 1) ((bJ.code.length : Int) - 1)) })).set (((sx.frames.length : Int) - 1)).toNat ({ x3 with at_ := (min (x3.at_ + 1) ((bJ.code.length : Int) - 1)), regs := (x3.regs.set (aU.a).toNat jf.1) }))) ⟨h.cn _, hs⟩
 refine cu (σ := Bool) (inl [108, 109, 110]) (fun x73 => [(108, (.bool (x73)))]) (fun x73 w => SH w0 M K0 w (hset [(1, .blk sb [iA, vs1, (I6 sx.status), (I6 sx.aK)]), (2, .own bB.raw 49 iA (List.zip (sx.frames.set (((sx.frames.length : Int) - 1)).toNat ({ x3 with at_ := (min (x3.at_ + 1) ((bJ.code.length : Int) - 1)) })) iW)), (3, .iJ (ek bz 51 (hat (((sx.frames.length : Int) - 1)).toNat) iW (List.map bB.sub (sx.frames.set (((sx.frames.length : Int) - 1)).toNat ({ x3 with at_ := (min (x3.at_ + 1) ((bJ.code.length : Int) - 1)) }))))), (4, .own (eD Val).raw 47 vs1 (List.zip sx.cells iI)), (5, .iJ (ek bz 51 hn iI (List.map (eD Val).sub sx.cells))), (6, .rd jE va a), (7, .blk b1 [(.bool (false)), (I6 0), (.bool (false))]), (8, .own bz 51 u8 x3.regs), (154, .rd eY nU aU.args), (177, .blk O9 [(I6 aU.op), (I6 aU.a), (I6 aU.b), (I6 aU.c), nU])]) ∧ kZ N sx x3 bJ aU a x73 = some r) ?_ ?_
 rintro x73 w dR ⟨h, hs⟩
 refine aI hs rfl (fun c74 hs => ?_) (fun c74 hs => ?_)
 refine aM ?_
 replace h := h.eP 3 8 rfl rfl (by decide) (mh (aC e4).2) e9 rfl
 refine lq (L := (fun b => Chunk.own' (cT sb iA vs1 (sx.status) (sx.aK) (sx.frames.set (((sx.frames.length : Int) - 1)).toNat ({ x3 with at_ := (min (x3.at_ + 1) ((bJ.code.length : Int) - 1)) })) iW sx.cells iI) b ∨ b = b1)) mixed h fun w h => bH 1 (aP.refl _ _) rfl aj (by kernel_rfl) (by kernel_rfl) (by kernel_rfl) (fun w hk => ah (v := (.pointer (some ⟨sb, 0, none⟩))) rfl) (bH 2 (aP.refl _ _) rfl aj (by kernel_rfl) (by kernel_rfl) (by kernel_rfl) (fun w hk => have h := ((((h.pair 1 2 (by decide)).pair 1 3 (by decide)).pair 1 4 (by decide)).pair 1 5 (by decide)).wN 1 7 (by decide) rfl rfl hk; bU (vs := [(I6 aU.op), (I6 aU.a), (I6 aU.b), (I6 aU.c), nU]) h 177 rfl oF rfl rfl rfl) (bH 3 (aP.refl _ _) rfl aj (by kernel_rfl) (by kernel_rfl) (by kernel_rfl) (fun w hk => ah (v := u8) rfl) ?_))
 obtain ⟨ku, Si, hs⟩ := aL hs
 obtain ⟨ws86, ws86e⟩ : ∃ x, x = w := ⟨_, rfl⟩
 have GH : aP (fun b => Chunk.own' (cT sb iA vs1 (sx.status) (sx.aK) (sx.frames.set (((sx.frames.length : Int) - 1)).toNat ({ x3 with at_ := (min (x3.at_ + 1) ((bJ.code.length : Int) - 1)) })) iW sx.cells iI) b ∨ b = b1) ws86 w := ws86e ▸ aP.refl (fun b => Chunk.own' (cT sb iA vs1 (sx.status) (sx.aK) (sx.frames.set (((sx.frames.length : Int) - 1)).toNat ({ x3 with at_ := (min (x3.at_ + 1) ((bJ.code.length : Int) - 1)) })) iW sx.cells iI) b ∨ b = b1) w
 refine rU ws86e.symm (om 0 4 (by kernel_rfl) rfl aj rfl aj ?_ ?_)
 refine aa (bU (vs := [(.bool (false)), (I6 0), (.bool (false))]) h 7 rfl jm rfl rfl rfl) (aA (aT GH (bE 4 (by kernel_rfl) rfl aj ?_)))
 replace h := h.pair 1 2 (by decide)
 replace h := h.pair 1 3 (by decide)
 replace h := h.pair 1 4 (by decide)
 replace h := h.pair 1 5 (by decide)
 obtain ⟨Ky, Kz, KA⟩ := h.Aj 1 (C := (cT sb iA vs1 (sx.status) (sx.aK) (sx.frames.set (((sx.frames.length : Int) - 1)).toNat ({ x3 with at_ := (min (x3.at_ + 1) ((bJ.code.length : Int) - 1)) })) iW sx.cells iI)) rfl ⟨⟨⟨⟨trivial, trivial⟩, trivial⟩, trivial⟩, trivial⟩
 refine aW ZX rfl rfl (M6 _ _ KA sb (⟨(sx.frames.set (((sx.frames.length : Int) - 1)).toNat ({ x3 with at_ := (min (x3.at_ + 1) ((bJ.code.length : Int) - 1)) })), sx.cells, sx.status, sx.aK⟩ : LX.State) iA vs1 iW iI Ky Kz aU nU (h.TU 1 154 rfl rfl) ((sx.frames.length : Int) - 1) ({ x3 with at_ := (min (x3.at_ + 1) ((bJ.code.length : Int) - 1)) }) (aC e4).1 (mh (aC e4).2) u8 e9 _ Si) ?_
 rintro _ w ⟨FD, Bq, Br, yP, yQ, rfl, Nk, KC⟩
 refine ⟨_, rfl, ?_⟩
 replace h := h.back 1 (C := (cT sb iA vs1 (sx.status) (sx.aK) (sx.frames.set (((sx.frames.length : Int) - 1)).toNat ({ x3 with at_ := (min (x3.at_ + 1) ((bJ.code.length : Int) - 1)) })) iW sx.cells iI)) (C' := (cT sb Bq Br (ku.2.status) (ku.2.aK) ku.2.frames yP ku.2.cells yQ)) rfl ⟨⟨⟨⟨trivial, trivial⟩, trivial⟩, trivial⟩, trivial⟩ Nk FD KC
 replace h := h.cK 1 5 (by decide) rfl rfl
 replace h := h.cK 1 4 (by decide) rfl rfl
 replace h := h.cK 1 3 (by decide) rfl rfl
 replace h := h.cK 1 2 (by decide) rfl rfl
 replace GH := aP.step GH FD (fun _ hx _ => .inl (hx))
 refine aA (aT GH (bE 5 (by kernel_rfl) rfl aj (vX (vs := [(.bool (false)), (I6 0), (.bool (false))]) h 7 [(.bool (false)), (I6 0), (.bool (false))] rfl jm rfl rfl rfl rfl rfl (ai rfl (ai rfl (ai rfl aS))) fun w h Nl => ?_)))
 replace GH := aP.step GH Nl (fun _ hx _ => .inr (hx))
 refine aA (aT GH (dN 6 GH rfl (by kernel_rfl) (fun w hk => ae (v := (.bool (ku.1))) rfl) (gG (by kernel_rfl) (ak (Cm (aB (ay (lV (vs := [(.bool (false)), (I6 0), (.bool (false))]) (v2 := (.bool (ku.1))) Tryz.results65 rfl rfl h 7 rfl jm rfl ?_))))))))
 replace h := h.pair 1 2 (by decide)
 replace h := h.pair 1 3 (by decide)
 replace h := h.pair 1 4 (by decide)
 replace h := h.pair 1 5 (by decide)
 obtain rfl := fM hs
 subst wE
 obtain ⟨o1, o2, o3⟩ := h.lu 1 (C := (cT sb Bq Br (ku.2.status) (ku.2.aK) ku.2.frames yP ku.2.cells yQ)) rfl ⟨⟨⟨⟨trivial, trivial⟩, trivial⟩, trivial⟩, trivial⟩
 exact ⟨o2, Bq, Br, yP, yQ, rfl, o1, o3⟩
 replace h := h.pair 1 2 (by decide)
 replace h := h.pair 1 3 (by decide)
 replace h := h.pair 1 4 (by decide)
 replace h := h.pair 1 5 (by decide)
 obtain ⟨Ky, Kz, KA⟩ := h.Aj 1 (C := (cT sb iA vs1 (sx.status) (sx.aK) (sx.frames.set (((sx.frames.length : Int) - 1)).toNat ({ x3 with at_ := (min (x3.at_ + 1) ((bJ.code.length : Int) - 1)) })) iW sx.cells iI)) rfl ⟨⟨⟨⟨trivial, trivial⟩, trivial⟩, trivial⟩, trivial⟩
 refine aW ZX rfl rfl (M6 _ _ KA sb (⟨(sx.frames.set (((sx.frames.length : Int) - 1)).toNat ({ x3 with at_ := (min (x3.at_ + 1) ((bJ.code.length : Int) - 1)) })), sx.cells, sx.status, sx.aK⟩ : LX.State) iA vs1 iW iI Ky Kz aU nU (h.TU 1 154 rfl rfl) ((sx.frames.length : Int) - 1) ({ x3 with at_ := (min (x3.at_ + 1) ((bJ.code.length : Int) - 1)) }) (aC e4).1 (mh (aC e4).2) u8 e9 _ Si) ?_
 rintro _ w ⟨FD, Bq, Br, yP, yQ, rfl, Nk, KC⟩
 refine ⟨_, rfl, ?_⟩
 replace h := h.back 1 (C := (cT sb iA vs1 (sx.status) (sx.aK) (sx.frames.set (((sx.frames.length : Int) - 1)).toNat ({ x3 with at_ := (min (x3.at_ + 1) ((bJ.code.length : Int) - 1)) })) iW sx.cells iI)) (C' := (cT sb Bq Br (ku.2.status) (ku.2.aK) ku.2.frames yP ku.2.cells yQ)) rfl ⟨⟨⟨⟨trivial, trivial⟩, trivial⟩, trivial⟩, trivial⟩ Nk FD KC
 replace h := h.cK 1 5 (by decide) rfl rfl
 replace h := h.cK 1 4 (by decide) rfl rfl
 replace h := h.cK 1 3 (by decide) rfl rfl
 replace h := h.cK 1 2 (by decide) rfl rfl
 replace GH := aP.step GH FD (fun _ hx _ => .inl (hx))
 refine aA (aT GH (bE 0 (by kernel_rfl) rfl aj (aa (bU (vs := [(.bool (false)), (I6 0), (.bool (false))]) h 7 rfl jm rfl rfl rfl) (aA (aT GH (bE 5 (by kernel_rfl) rfl aj (vX (vs := [(.bool (false)), (I6 0), (.bool (false))]) h 7 [(.bool (false)), (I6 0), (.bool (false))] rfl jm rfl rfl rfl rfl rfl (ai rfl (ai rfl (ai rfl aS))) fun w h Nl => ?_)))))))
 replace GH := aP.step GH Nl (fun _ hx _ => .inr (hx))
 refine aA (aT GH (dN 6 GH rfl (by kernel_rfl) (fun w hk => ae (v := (.bool (ku.1))) rfl) (gG (by kernel_rfl) (ak (Cm (aB (ay (lV (vs := [(.bool (false)), (I6 0), (.bool (false))]) (v2 := (.bool (ku.1))) Tryz.results65 rfl rfl h 7 rfl jm rfl ?_))))))))
 replace h := h.pair 1 2 (by decide)
 replace h := h.pair 1 3 (by decide)
 replace h := h.pair 1 4 (by decide)
 replace h := h.pair 1 5 (by decide)
 obtain rfl := fM hs
 subst wE
 obtain ⟨o1, o2, o3⟩ := h.lu 1 (C := (cT sb Bq Br (ku.2.status) (ku.2.aK) ku.2.frames yP ku.2.cells yQ)) rfl ⟨⟨⟨⟨trivial, trivial⟩, trivial⟩, trivial⟩, trivial⟩
 exact ⟨o2, Bq, Br, yP, yQ, rfl, o1, o3⟩
 refine nG (aa (bu rfl rfl) (aa (ae (v := (.bool (decide ((aU.op : Int) = 5)))) rfl) (nN (aI hs rfl (fun c88 hs => ?_) (fun c88 hs => ?_)))))
 refine aM ?_
 replace h := h.eP 3 8 rfl rfl (by decide) (mh (aC e4).2) e9 rfl
 refine lq (L := (fun b => Chunk.own' (cT sb iA vs1 (sx.status) (sx.aK) (sx.frames.set (((sx.frames.length : Int) - 1)).toNat ({ x3 with at_ := (min (x3.at_ + 1) ((bJ.code.length : Int) - 1)) })) iW sx.cells iI) b ∨ b = b1)) mixed h fun w h => bH 1 (aP.refl _ _) rfl aj (by kernel_rfl) (by kernel_rfl) (by kernel_rfl) (fun w hk => ah (v := (.pointer (some ⟨sb, 0, none⟩))) rfl) (bH 2 (aP.refl _ _) rfl aj (by kernel_rfl) (by kernel_rfl) (by kernel_rfl) (fun w hk => have h := ((((h.pair 1 2 (by decide)).pair 1 3 (by decide)).pair 1 4 (by decide)).pair 1 5 (by decide)).wN 1 7 (by decide) rfl rfl hk; bU (vs := [(I6 aU.op), (I6 aU.a), (I6 aU.b), (I6 aU.c), nU]) h 177 rfl oF rfl rfl rfl) ?_)
 obtain ⟨kv, Sj, hs⟩ := aL hs
 obtain ⟨ws100, ws100e⟩ : ∃ x, x = w := ⟨_, rfl⟩
 have Am : aP (fun b => Chunk.own' (cT sb iA vs1 (sx.status) (sx.aK) (sx.frames.set (((sx.frames.length : Int) - 1)).toNat ({ x3 with at_ := (min (x3.at_ + 1) ((bJ.code.length : Int) - 1)) })) iW sx.cells iI) b ∨ b = b1) ws100 w := ws100e ▸ aP.refl (fun b => Chunk.own' (cT sb iA vs1 (sx.status) (sx.aK) (sx.frames.set (((sx.frames.length : Int) - 1)).toNat ({ x3 with at_ := (min (x3.at_ + 1) ((bJ.code.length : Int) - 1)) })) iW sx.cells iI) b ∨ b = b1) w
 refine rU ws100e.symm (om 0 3 (by kernel_rfl) rfl aj rfl aj ?_ ?_)
 refine aa (bU (vs := [(.bool (false)), (I6 0), (.bool (false))]) h 7 rfl jm rfl rfl rfl) (aA (aT Am (bE 3 (by kernel_rfl) rfl aj ?_)))
 replace h := h.pair 1 2 (by decide)
 replace h := h.pair 1 3 (by decide)
 replace h := h.pair 1 4 (by decide)
 replace h := h.pair 1 5 (by decide)
 obtain ⟨KD, KE, KF⟩ := h.Aj 1 (C := (cT sb iA vs1 (sx.status) (sx.aK) (sx.frames.set (((sx.frames.length : Int) - 1)).toNat ({ x3 with at_ := (min (x3.at_ + 1) ((bJ.code.length : Int) - 1)) })) iW sx.cells iI)) rfl ⟨⟨⟨⟨trivial, trivial⟩, trivial⟩, trivial⟩, trivial⟩
 refine aW ZY rfl rfl (Nb N _ _ KF sb (⟨(sx.frames.set (((sx.frames.length : Int) - 1)).toNat ({ x3 with at_ := (min (x3.at_ + 1) ((bJ.code.length : Int) - 1)) })), sx.cells, sx.status, sx.aK⟩ : LX.State) iA vs1 iW iI KD KE aU nU (h.TU 1 154 rfl rfl) _ Sj) ?_
 rintro _ w ⟨FE, Bt, Bu, yR, yS, rfl, Nn, KG⟩
 refine ⟨_, rfl, ?_⟩
 replace h := h.back 1 (C := (cT sb iA vs1 (sx.status) (sx.aK) (sx.frames.set (((sx.frames.length : Int) - 1)).toNat ({ x3 with at_ := (min (x3.at_ + 1) ((bJ.code.length : Int) - 1)) })) iW sx.cells iI)) (C' := (cT sb Bt Bu (kv.2.status) (kv.2.aK) kv.2.frames yR kv.2.cells yS)) rfl ⟨⟨⟨⟨trivial, trivial⟩, trivial⟩, trivial⟩, trivial⟩ Nn FE KG
 replace h := h.cK 1 5 (by decide) rfl rfl
 replace h := h.cK 1 4 (by decide) rfl rfl
 replace h := h.cK 1 3 (by decide) rfl rfl
 replace h := h.cK 1 2 (by decide) rfl rfl
 replace Am := aP.step Am FE (fun _ hx _ => .inl (hx))
 refine aA (aT Am (bE 4 (by kernel_rfl) rfl aj (vX (vs := [(.bool (false)), (I6 0), (.bool (false))]) h 7 [(.bool (false)), (I6 0), (.bool (false))] rfl jm rfl rfl rfl rfl rfl (ai rfl (ai rfl (ai rfl aS))) fun w h Np => ?_)))
 replace Am := aP.step Am Np (fun _ hx _ => .inr (hx))
 refine aA (aT Am (dN 5 Am rfl (by kernel_rfl) (fun w hk => ae (v := (.bool (kv.1))) rfl) (gG (by kernel_rfl) (ak (Cm (aB (ay (lV (vs := [(.bool (false)), (I6 0), (.bool (false))]) (v2 := (.bool (kv.1))) Tryz.results65 rfl rfl h 7 rfl jm rfl ?_))))))))
 replace h := h.pair 1 2 (by decide)
 replace h := h.pair 1 3 (by decide)
 replace h := h.pair 1 4 (by decide)
 replace h := h.pair 1 5 (by decide)
 obtain rfl := fM hs
 subst wE
 obtain ⟨o1, o2, o3⟩ := h.lu 1 (C := (cT sb Bt Bu (kv.2.status) (kv.2.aK) kv.2.frames yR kv.2.cells yS)) rfl ⟨⟨⟨⟨trivial, trivial⟩, trivial⟩, trivial⟩, trivial⟩
 exact ⟨o2, Bt, Bu, yR, yS, rfl, o1, o3⟩
 replace h := h.pair 1 2 (by decide)
 replace h := h.pair 1 3 (by decide)
 replace h := h.pair 1 4 (by decide)
 replace h := h.pair 1 5 (by decide)
 obtain ⟨KD, KE, KF⟩ := h.Aj 1 (C := (cT sb iA vs1 (sx.status) (sx.aK) (sx.frames.set (((sx.frames.length : Int) - 1)).toNat ({ x3 with at_ := (min (x3.at_ + 1) ((bJ.code.length : Int) - 1)) })) iW sx.cells iI)) rfl ⟨⟨⟨⟨trivial, trivial⟩, trivial⟩, trivial⟩, trivial⟩
 refine aW ZY rfl rfl (Nb N _ _ KF sb (⟨(sx.frames.set (((sx.frames.length : Int) - 1)).toNat ({ x3 with at_ := (min (x3.at_ + 1) ((bJ.code.length : Int) - 1)) })), sx.cells, sx.status, sx.aK⟩ : LX.State) iA vs1 iW iI KD KE aU nU (h.TU 1 154 rfl rfl) _ Sj) ?_
 rintro _ w ⟨FE, Bt, Bu, yR, yS, rfl, Nn, KG⟩
 refine ⟨_, rfl, ?_⟩
 replace h := h.back 1 (C := (cT sb iA vs1 (sx.status) (sx.aK) (sx.frames.set (((sx.frames.length : Int) - 1)).toNat ({ x3 with at_ := (min (x3.at_ + 1) ((bJ.code.length : Int) - 1)) })) iW sx.cells iI)) (C' := (cT sb Bt Bu (kv.2.status) (kv.2.aK) kv.2.frames yR kv.2.cells yS)) rfl ⟨⟨⟨⟨trivial, trivial⟩, trivial⟩, trivial⟩, trivial⟩ Nn FE KG
 replace h := h.cK 1 5 (by decide) rfl rfl
 replace h := h.cK 1 4 (by decide) rfl rfl
 replace h := h.cK 1 3 (by decide) rfl rfl
 replace h := h.cK 1 2 (by decide) rfl rfl
 replace Am := aP.step Am FE (fun _ hx _ => .inl (hx))
 refine aA (aT Am (bE 0 (by kernel_rfl) rfl aj (aa (bU (vs := [(.bool (false)), (I6 0), (.bool (false))]) h 7 rfl jm rfl rfl rfl) (aA (aT Am (bE 4 (by kernel_rfl) rfl aj (vX (vs := [(.bool (false)), (I6 0), (.bool (false))]) h 7 [(.bool (false)), (I6 0), (.bool (false))] rfl jm rfl rfl rfl rfl rfl (ai rfl (ai rfl (ai rfl aS))) fun w h Np => ?_)))))))
 replace Am := aP.step Am Np (fun _ hx _ => .inr (hx))
 refine aA (aT Am (dN 5 Am rfl (by kernel_rfl) (fun w hk => ae (v := (.bool (kv.1))) rfl) (gG (by kernel_rfl) (ak (Cm (aB (ay (lV (vs := [(.bool (false)), (I6 0), (.bool (false))]) (v2 := (.bool (kv.1))) Tryz.results65 rfl rfl h 7 rfl jm rfl ?_))))))))
 replace h := h.pair 1 2 (by decide)
 replace h := h.pair 1 3 (by decide)
 replace h := h.pair 1 4 (by decide)
 replace h := h.pair 1 5 (by decide)
 obtain rfl := fM hs
 subst wE
 obtain ⟨o1, o2, o3⟩ := h.lu 1 (C := (cT sb Bt Bu (kv.2.status) (kv.2.aK) kv.2.frames yR kv.2.cells yS)) rfl ⟨⟨⟨⟨trivial, trivial⟩, trivial⟩, trivial⟩, trivial⟩
 exact ⟨o2, Bt, Bu, yR, yS, rfl, o1, o3⟩
 refine nG (aa (bu rfl rfl) (aa (ae (v := (.bool (decide ((aU.op : Int) = 7)))) rfl) (nN (aI hs rfl (fun Ff hs => ?_) (fun Ff hs => ?_)))))
 refine aM ?_
 replace h := h.eP 3 8 rfl rfl (by decide) (mh (aC e4).2) e9 rfl
 refine lq (L := (fun b => Chunk.own' (cT sb iA vs1 (sx.status) (sx.aK) (sx.frames.set (((sx.frames.length : Int) - 1)).toNat ({ x3 with at_ := (min (x3.at_ + 1) ((bJ.code.length : Int) - 1)) })) iW sx.cells iI) b ∨ b = b1)) mixed h fun w h => bH 1 (aP.refl _ _) rfl aj (by kernel_rfl) (by kernel_rfl) (by kernel_rfl) (fun w hk => ah (v := va) rfl) (bH 2 (aP.refl _ _) rfl aj (by kernel_rfl) (by kernel_rfl) (by kernel_rfl) (fun w hk => ah (v := (.pointer (some ⟨sb, 0, none⟩))) rfl) (bH 3 (aP.refl _ _) rfl aj (by kernel_rfl) (by kernel_rfl) (by kernel_rfl) (fun w hk => have h := ((((h.pair 1 2 (by decide)).pair 1 3 (by decide)).pair 1 4 (by decide)).pair 1 5 (by decide)).wN 1 7 (by decide) rfl rfl hk; bU (vs := [(I6 aU.op), (I6 aU.a), (I6 aU.b), (I6 aU.c), nU]) h 177 rfl oF rfl rfl rfl) ?_))
 obtain ⟨je, Ph, hs⟩ := aL hs
 obtain ⟨ws114, ws114e⟩ : ∃ x, x = w := ⟨_, rfl⟩
 have Ao : aP (fun b => Chunk.own' (cT sb iA vs1 (sx.status) (sx.aK) (sx.frames.set (((sx.frames.length : Int) - 1)).toNat ({ x3 with at_ := (min (x3.at_ + 1) ((bJ.code.length : Int) - 1)) })) iW sx.cells iI) b ∨ b = b1) ws114 w := ws114e ▸ aP.refl (fun b => Chunk.own' (cT sb iA vs1 (sx.status) (sx.aK) (sx.frames.set (((sx.frames.length : Int) - 1)).toNat ({ x3 with at_ := (min (x3.at_ + 1) ((bJ.code.length : Int) - 1)) })) iW sx.cells iI) b ∨ b = b1) w
 refine rU ws114e.symm (om 0 4 (by kernel_rfl) rfl aj rfl aj ?_ ?_)
 refine aa (bU (vs := [(.bool (false)), (I6 0), (.bool (false))]) h 7 rfl jm rfl rfl rfl) (aA (aT Ao (bE 4 (by kernel_rfl) rfl aj ?_)))
 replace h := h.pair 1 2 (by decide)
 replace h := h.pair 1 3 (by decide)
 replace h := h.pair 1 4 (by decide)
 replace h := h.pair 1 5 (by decide)
 obtain ⟨H6, H7, H8⟩ := h.Aj 1 (C := (cT sb iA vs1 (sx.status) (sx.aK) (sx.frames.set (((sx.frames.length : Int) - 1)).toNat ({ x3 with at_ := (min (x3.at_ + 1) ((bJ.code.length : Int) - 1)) })) iW sx.cells iI)) rfl ⟨⟨⟨⟨trivial, trivial⟩, trivial⟩, trivial⟩, trivial⟩
 refine aW ZZ rfl rfl (O7 _ _ H8 sb (⟨(sx.frames.set (((sx.frames.length : Int) - 1)).toNat ({ x3 with at_ := (min (x3.at_ + 1) ((bJ.code.length : Int) - 1)) })), sx.cells, sx.status, sx.aK⟩ : LX.State) iA vs1 iW iI H6 H7 va a (h.TU 1 6 rfl rfl) aU nU (h.TU 1 154 rfl rfl) _ Ph) ?_
 rintro _ w ⟨Dz, yT, yU, wS, wT, rfl, KH, H9⟩
 refine ⟨_, rfl, ?_⟩
 replace h := h.back 1 (C := (cT sb iA vs1 (sx.status) (sx.aK) (sx.frames.set (((sx.frames.length : Int) - 1)).toNat ({ x3 with at_ := (min (x3.at_ + 1) ((bJ.code.length : Int) - 1)) })) iW sx.cells iI)) (C' := (cT sb yT yU (je.2.status) (je.2.aK) je.2.frames wS je.2.cells wT)) rfl ⟨⟨⟨⟨trivial, trivial⟩, trivial⟩, trivial⟩, trivial⟩ KH Dz H9
 replace h := h.cK 1 5 (by decide) rfl rfl
 replace h := h.cK 1 4 (by decide) rfl rfl
 replace h := h.cK 1 3 (by decide) rfl rfl
 replace h := h.cK 1 2 (by decide) rfl rfl
 replace Ao := aP.step Ao Dz (fun _ hx _ => .inl (hx))
 refine aA (aT Ao (bE 5 (by kernel_rfl) rfl aj (vX (vs := [(.bool (false)), (I6 0), (.bool (false))]) h 7 [(.bool (false)), (I6 0), (.bool (false))] rfl jm rfl rfl rfl rfl rfl (ai rfl (ai rfl (ai rfl aS))) fun w h KI => ?_)))
 replace Ao := aP.step Ao KI (fun _ hx _ => .inr (hx))
 refine aA (aT Ao (dN 6 Ao rfl (by kernel_rfl) (fun w hk => ae (v := (.bool (je.1))) rfl) (gG (by kernel_rfl) (ak (Cm (aB (ay (lV (vs := [(.bool (false)), (I6 0), (.bool (false))]) (v2 := (.bool (je.1))) Tryz.results65 rfl rfl h 7 rfl jm rfl ?_))))))))
 replace h := h.pair 1 2 (by decide)
 replace h := h.pair 1 3 (by decide)
 replace h := h.pair 1 4 (by decide)
 replace h := h.pair 1 5 (by decide)
 obtain rfl := fM hs
 subst wE
 obtain ⟨o1, o2, o3⟩ := h.lu 1 (C := (cT sb yT yU (je.2.status) (je.2.aK) je.2.frames wS je.2.cells wT)) rfl ⟨⟨⟨⟨trivial, trivial⟩, trivial⟩, trivial⟩, trivial⟩
 exact ⟨o2, yT, yU, wS, wT, rfl, o1, o3⟩
 replace h := h.pair 1 2 (by decide)
 replace h := h.pair 1 3 (by decide)
 replace h := h.pair 1 4 (by decide)
 replace h := h.pair 1 5 (by decide)
 obtain ⟨H6, H7, H8⟩ := h.Aj 1 (C := (cT sb iA vs1 (sx.status) (sx.aK) (sx.frames.set (((sx.frames.length : Int) - 1)).toNat ({ x3 with at_ := (min (x3.at_ + 1) ((bJ.code.length : Int) - 1)) })) iW sx.cells iI)) rfl ⟨⟨⟨⟨trivial, trivial⟩, trivial⟩, trivial⟩, trivial⟩
 refine aW ZZ rfl rfl (O7 _ _ H8 sb (⟨(sx.frames.set (((sx.frames.length : Int) - 1)).toNat ({ x3 with at_ := (min (x3.at_ + 1) ((bJ.code.length : Int) - 1)) })), sx.cells, sx.status, sx.aK⟩ : LX.State) iA vs1 iW iI H6 H7 va a (h.TU 1 6 rfl rfl) aU nU (h.TU 1 154 rfl rfl) _ Ph) ?_
 rintro _ w ⟨Dz, yT, yU, wS, wT, rfl, KH, H9⟩
 refine ⟨_, rfl, ?_⟩
 replace h := h.back 1 (C := (cT sb iA vs1 (sx.status) (sx.aK) (sx.frames.set (((sx.frames.length : Int) - 1)).toNat ({ x3 with at_ := (min (x3.at_ + 1) ((bJ.code.length : Int) - 1)) })) iW sx.cells iI)) (C' := (cT sb yT yU (je.2.status) (je.2.aK) je.2.frames wS je.2.cells wT)) rfl ⟨⟨⟨⟨trivial, trivial⟩, trivial⟩, trivial⟩, trivial⟩ KH Dz H9
 replace h := h.cK 1 5 (by decide) rfl rfl
 replace h := h.cK 1 4 (by decide) rfl rfl
 replace h := h.cK 1 3 (by decide) rfl rfl
 replace h := h.cK 1 2 (by decide) rfl rfl
 replace Ao := aP.step Ao Dz (fun _ hx _ => .inl (hx))
 refine aA (aT Ao (bE 0 (by kernel_rfl) rfl aj (aa (bU (vs := [(.bool (false)), (I6 0), (.bool (false))]) h 7 rfl jm rfl rfl rfl) (aA (aT Ao (bE 5 (by kernel_rfl) rfl aj (vX (vs := [(.bool (false)), (I6 0), (.bool (false))]) h 7 [(.bool (false)), (I6 0), (.bool (false))] rfl jm rfl rfl rfl rfl rfl (ai rfl (ai rfl (ai rfl aS))) fun w h KI => ?_)))))))
 replace Ao := aP.step Ao KI (fun _ hx _ => .inr (hx))
 refine aA (aT Ao (dN 6 Ao rfl (by kernel_rfl) (fun w hk => ae (v := (.bool (je.1))) rfl) (gG (by kernel_rfl) (ak (Cm (aB (ay (lV (vs := [(.bool (false)), (I6 0), (.bool (false))]) (v2 := (.bool (je.1))) Tryz.results65 rfl rfl h 7 rfl jm rfl ?_))))))))
 replace h := h.pair 1 2 (by decide)
 replace h := h.pair 1 3 (by decide)
 replace h := h.pair 1 4 (by decide)
 replace h := h.pair 1 5 (by decide)
 obtain rfl := fM hs
 subst wE
 obtain ⟨o1, o2, o3⟩ := h.lu 1 (C := (cT sb yT yU (je.2.status) (je.2.aK) je.2.frames wS je.2.cells wT)) rfl ⟨⟨⟨⟨trivial, trivial⟩, trivial⟩, trivial⟩, trivial⟩
 exact ⟨o2, yT, yU, wS, wT, rfl, o1, o3⟩
 refine nG (aa (bu rfl rfl) (aa (ae (v := (.bool (decide ((aU.op : Int) = 8)))) rfl) (nN (aI hs rfl (fun c116 hs => ?_) (fun c116 hs => ?_)))))
 refine mZ 10 mixed (by kernel_rfl) h fun w h => aG (ah (v := (.pointer (some ⟨sb, 0, none⟩))) rfl) (aG (ah (v := u8) rfl) (aG (ag jy rfl) (aG (az h 177 rfl aR rfl rfl) ?_)))
 obtain ⟨Oh, e118, hs⟩ := aL hs
 obtain ⟨b120, q121, i119⟩ := h.rO 8 rfl aZ rfl (aC e118).1 (aC e118).2
 refine aG (i119 _ _ _ _ _ _ _ _ _ rfl rfl) ?_
 obtain ⟨cs122, m123, r124⟩ := h.uQ 8 rfl q121 (aC e118).2
 obtain rfl := r124
 refine aG (kS (k := 0) (vs := [(I6 Oh.kind), (I6 Oh.n)]) m123 aY rfl rfl rfl (bD rfl)) (aG (ah (v := (.pointer (some ⟨b6, (((sx.frames.length : Int) - 1)).toNat * 4, none⟩))) rfl) (aG (aX rfl) (aG (ag zg rfl) ?_)))
 obtain ⟨cs125, m126, r127⟩ := h.uQ 2 rfl q7 (eU (mh (aC e4).2) e9)
 obtain ⟨rfl, -⟩ := r127
 refine aG (lh (k := 3) m126 aR rfl rfl) (wz ?_)
 replace h := h.eP 3 8 rfl rfl (by decide) (mh (aC e4).2) e9 rfl
 replace h := h.pair 1 2 (by decide)
 replace h := h.pair 1 3 (by decide)
 replace h := h.pair 1 4 (by decide)
 replace h := h.pair 1 5 (by decide)
 obtain ⟨l128a, l128b, l128c⟩ := h.Aj 1 (C := (cT sb iA vs1 (sx.status) (sx.aK) (sx.frames.set (((sx.frames.length : Int) - 1)).toNat ({ x3 with at_ := (min (x3.at_ + 1) ((bJ.code.length : Int) - 1)) })) iW sx.cells iI)) rfl ⟨⟨⟨⟨trivial, trivial⟩, trivial⟩, trivial⟩, trivial⟩
 obtain ⟨Kn, e130, hs⟩ := aL hs
 refine aW fnOk91 rfl rfl (XH _ _ l128c sb (⟨(sx.frames.set (((sx.frames.length : Int) - 1)).toNat ({ x3 with at_ := (min (x3.at_ + 1) ((bJ.code.length : Int) - 1)) })), sx.cells, sx.status, sx.aK⟩ : LX.State) iA vs1 iW iI l128a l128b Oh x3.kD _ e130) ?_
 rintro _ w ⟨k135, u131, u133, us132, us134, rfl, h136, h137⟩
 refine ⟨_, rfl, ?_⟩
 replace h := h.back 1 (C := (cT sb iA vs1 (sx.status) (sx.aK) (sx.frames.set (((sx.frames.length : Int) - 1)).toNat ({ x3 with at_ := (min (x3.at_ + 1) ((bJ.code.length : Int) - 1)) })) iW sx.cells iI)) (C' := (cT sb u131 u133 (Kn.status) (Kn.aK) Kn.frames us132 Kn.cells us134)) rfl ⟨⟨⟨⟨trivial, trivial⟩, trivial⟩, trivial⟩, trivial⟩ h136 k135 h137
 replace h := h.cK 1 5 (by decide) rfl rfl
 replace h := h.cK 1 4 (by decide) rfl rfl
 replace h := h.cK 1 3 (by decide) rfl rfl
 replace h := h.cK 1 2 (by decide) rfl rfl
 refine aA (ax (au ?_))
 exact bS (false, u131, us132, Kn.frames, u133, us134, Kn.cells, Kn.status, Kn.aK) ⟨h.cn _, hs⟩
 refine nG (aa (bu rfl rfl) (aa (ae (v := (.bool (decide ((aU.op : Int) = 9)))) rfl) (nN (aI hs rfl (fun c138 hs => ?_) (fun c138 hs => ?_)))))
 refine aM (lq (L := (fun x => x = b1)) mixed h fun w h => bH 0 (aP.refl _ _) rfl aj (by kernel_rfl) (by kernel_rfl) (by kernel_rfl) (fun w hk => ah (v := u8) rfl) (bH 1 (aP.refl _ _) rfl aj (by kernel_rfl) (by kernel_rfl) (by kernel_rfl) (fun w hk => ag jy rfl) (bH 2 (aP.refl _ _) rfl aj (by kernel_rfl) (by kernel_rfl) (by kernel_rfl) (fun w hk => have h := h.qR 7 rfl hk; az h 177 rfl aR rfl rfl) ?_)))
 obtain ⟨sI, AZ, hs⟩ := aL hs
 obtain ⟨bq142x3_4, Pj, XW⟩ := h.rO 8 rfl aZ rfl (aC AZ).1 (aC AZ).2
 refine bH 3 (aP.refl _ _) rfl aj (by kernel_rfl) (by kernel_rfl) (by kernel_rfl) (fun w hk => XW _ _ _ _ _ _ _ _ _ rfl rfl) (bH 4 (aP.refl _ _) rfl aj (by kernel_rfl) (by kernel_rfl) (by kernel_rfl) (fun w hk => ag fu rfl) ?_)
 obtain ⟨csq142x5_1, XX, XY⟩ := h.uQ 8 rfl Pj (aC AZ).2
 obtain rfl := XY
 have XZ : ¬ (_ = b1) := (h.apart 8 7 (by decide) _ Pj)
 refine bH 5 (aP.refl _ _) rfl aj (by kernel_rfl) (by kernel_rfl) (by kernel_rfl) (fun w hk => have h := h.qR 7 rfl hk; lh (k := 1) (XX.hold hk XZ) aR rfl rfl) (bH 6 (aP.refl _ _) rfl aj (by kernel_rfl) (by kernel_rfl) (by kernel_rfl) (fun w hk => fe (pv := [(0, (.bool (true))), (1, (I6 sI.n))]) (out := [(.bool (true)), (I6 sI.n), (.bool (false))]) WW rfl ⟨0, 1, [(.bool (true))], rfl, rfl, rfl, bD rfl, ⟨1, 1, [(I6 sI.n)], rfl, rfl, rfl, bD rfl, rfl⟩⟩) (bH 7 (aP.refl _ _) rfl aj (by kernel_rfl) (by kernel_rfl) (by kernel_rfl) (fun w hk => ah (v := u8) rfl) (bH 8 (aP.refl _ _) rfl aj (by kernel_rfl) (by kernel_rfl) (by kernel_rfl) (fun w hk => ag jy rfl) (bH 9 (aP.refl _ _) rfl aj (by kernel_rfl) (by kernel_rfl) (by kernel_rfl) (fun w hk => have h := h.qR 7 rfl hk; az h 177 rfl aR rfl rfl) ?_))))
 obtain ⟨bq142x10_2, Nq, UW⟩ := h.rO 8 rfl aZ rfl (aC AZ).1 (aC AZ).2
 refine bH 10 (aP.refl _ _) rfl aj (by kernel_rfl) (by kernel_rfl) (by kernel_rfl) (fun w hk => UW _ _ _ _ _ _ _ _ _ rfl rfl) (bH 11 (aP.refl _ _) rfl aj (by kernel_rfl) (by kernel_rfl) (by kernel_rfl) (fun w hk => ag lJ rfl) ?_)
 obtain ⟨csq142x12_1, UX, UY⟩ := h.uQ 8 rfl Nq (aC AZ).2
 obtain rfl := UY
 have UZ : ¬ (_ = b1) := (h.apart 8 7 (by decide) _ Nq)
 refine bH 12 (aP.refl _ _) rfl aj (by kernel_rfl) (by kernel_rfl) (by kernel_rfl) (fun w hk => have h := h.qR 7 rfl hk; lh (k := 0) (UX.hold hk UZ) aR rfl rfl) (bH 13 (aP.refl _ _) rfl aj (by kernel_rfl) (by kernel_rfl) (by kernel_rfl) (fun w hk => bu rfl rfl) ?_)
 obtain ⟨ws143, ws143e⟩ : ∃ x, x = w := ⟨_, rfl⟩
 have We : aP (fun x => x = b1) ws143 w := ws143e ▸ aP.refl (fun x => x = b1) w
 refine rU ws143e.symm (bE 14 (by kernel_rfl) rfl aj (vX (vs := [(.bool (true)), (I6 sI.n), (.bool (false))]) h 7 [(.bool (true)), (I6 sI.n), (.bool (false))] rfl jm rfl rfl rfl rfl rfl (ai rfl (ai rfl (ai rfl aS))) fun w h U0 => ?_))
 replace We := We.same U0
 refine aA (aT We (dN 15 We rfl (by kernel_rfl) (fun w hk => ae (v := (.bool (decide ((sI.kind : Int) = 1)))) rfl) (gG (by kernel_rfl) (ak (Cm (aB (ay (lV (vs := [(.bool (true)), (I6 sI.n), (.bool (false))]) (v2 := (.bool (decide ((sI.kind : Int) = 1)))) Tryz.results65 rfl rfl h 7 rfl jm rfl ?_))))))))
 replace h := h.eP 3 8 rfl rfl (by decide) (mh (aC e4).2) e9 rfl
 replace h := h.pair 1 2 (by decide)
 replace h := h.pair 1 3 (by decide)
 replace h := h.pair 1 4 (by decide)
 replace h := h.pair 1 5 (by decide)
 obtain rfl := fM hs
 subst wE
 obtain ⟨o1, o2, o3⟩ := h.lu 1 (C := (cT sb iA vs1 (sx.status) (sx.aK) (sx.frames.set (((sx.frames.length : Int) - 1)).toNat ({ x3 with at_ := (min (x3.at_ + 1) ((bJ.code.length : Int) - 1)) })) iW sx.cells iI)) rfl ⟨⟨⟨⟨trivial, trivial⟩, trivial⟩, trivial⟩, trivial⟩
 exact ⟨o2, iA, vs1, iW, iI, rfl, o1, o3⟩
 refine nG (aa (bu rfl rfl) (aa (ae (v := (.bool (decide ((aU.op : Int) = 10)))) rfl) (nN (aI hs rfl (fun c145 hs => ?_) (fun c145 hs => ?_)))))
 refine aD (aa (ag MH rfl) (gP h 7 [(.bool (false)), (I6 0), (.bool (true))] rfl BQ rfl rfl rfl rfl rfl fun w h => aA (ax ?_)))
 replace h := h.eP 3 8 rfl rfl (by decide) (mh (aC e4).2) e9 rfl
 refine au ?_
 exact bS (true, iA, iW, (sx.frames.set (((sx.frames.length : Int) - 1)).toNat ({ x3 with at_ := (min (x3.at_ + 1) ((bJ.code.length : Int) - 1)) })), vs1, iI, sx.cells, sx.status, sx.aK) ⟨h.cn _, hs⟩
 refine nG (aa (bu rfl rfl) (aa (ae (v := (.bool (decide ((aU.op : Int) = 11)))) rfl) (nN (aI hs rfl (fun c146 hs => ?_) (fun c146 hs => ?_)))))
 refine aM (nG (aa (ah (v := u8) rfl) (aa (ag jy rfl) (aa (az h 177 rfl aR rfl rfl) ?_))))
 obtain ⟨x147, X0, hs⟩ := aL hs
 obtain ⟨b150, q151, i149⟩ := h.rO 8 rfl aZ rfl (aC X0).1 (aC X0).2
 refine aa (i149 _ _ _ _ _ _ _ _ _ rfl rfl) (aa (ag lJ rfl) ?_)
 obtain ⟨cs152, m153, r154⟩ := h.uQ 8 rfl q151 (aC X0).2
 obtain rfl := r154
 refine aa (lh (k := 0) m153 aR rfl rfl) (aa (gM rfl rfl) (nN (aI hs rfl (fun c155 hs => ?_) (fun c155 hs => ?_))))
 refine nG (aa (bU (vs := [(.bool (false)), (I6 0), (.bool (false))]) h 7 rfl jm rfl rfl rfl) (dK (vs := [(.bool (false)), (I6 0), (.bool (false))]) h 7 [(.bool (false)), (I6 0), (.bool (false))] rfl jm rfl rfl rfl rfl rfl (ai rfl (ai rfl (ai rfl aS))) fun w h => aa (ae (v := (.bool (false))) rfl) (nR (ay (aB (ay (lV (vs := [(.bool (false)), (I6 0), (.bool (false))]) (v2 := (.bool (false))) Tryz.results65 rfl rfl h 7 rfl jm rfl ?_)))))))
 replace h := h.eP 3 8 rfl rfl (by decide) (mh (aC e4).2) e9 rfl
 replace h := h.pair 1 2 (by decide)
 replace h := h.pair 1 3 (by decide)
 replace h := h.pair 1 4 (by decide)
 replace h := h.pair 1 5 (by decide)
 obtain rfl := fM hs
 subst wE
 obtain ⟨o1, o2, o3⟩ := h.lu 1 (C := (cT sb iA vs1 (sx.status) (sx.aK) (sx.frames.set (((sx.frames.length : Int) - 1)).toNat ({ x3 with at_ := (min (x3.at_ + 1) ((bJ.code.length : Int) - 1)) })) iW sx.cells iI)) rfl ⟨⟨⟨⟨trivial, trivial⟩, trivial⟩, trivial⟩, trivial⟩
 exact ⟨o2, iA, vs1, iW, iI, rfl, o1, o3⟩
 refine aH (ak (aD (aa (ah (v := (.pointer (some ⟨sb, 0, none⟩))) rfl) (aa (ah (v := (.pointer (some ⟨sb, 0, none⟩))) rfl) (aa (ah (v := u8) rfl) (aa (ag jy rfl) (aa (az h 177 rfl aR rfl rfl) ?_)))))))
 obtain ⟨b157, q158, i156⟩ := h.rO 8 rfl aZ rfl (aC X0).1 (aC X0).2
 refine aa (i156 _ _ _ _ _ _ _ _ _ rfl rfl) (aa (ag fu rfl) ?_)
 obtain ⟨cs159, m160, r161⟩ := h.uQ 8 rfl q158 (aC X0).2
 obtain rfl := r161
 refine aa (lh (k := 1) m160 aR rfl rfl) (aa (aX rfl) (aa (ag kN rfl) (gP h 1 [iA, vs1, (I6 3), (I6 sx.aK)] rfl aR rfl rfl rfl rfl rfl fun w h => aa (aX rfl) (aa (ag vJ rfl) (gP h 1 [iA, vs1, (I6 3), (I6 x147.n)] rfl aR rfl rfl rfl rfl rfl fun w h => aa (ag MH rfl) (gP h 7 [(.bool (false)), (I6 0), (.bool (true))] rfl BQ rfl rfl rfl rfl rfl fun w h => aA (ax ?_)))))))
 replace h := h.eP 3 8 rfl rfl (by decide) (mh (aC e4).2) e9 rfl
 refine au ?_
 exact bS (true, iA, iW, (sx.frames.set (((sx.frames.length : Int) - 1)).toNat ({ x3 with at_ := (min (x3.at_ + 1) ((bJ.code.length : Int) - 1)) })), vs1, iI, sx.cells, 3, x147.n) ⟨h.cn _, hs⟩
 refine nG (aa (bu rfl rfl) (aa (ae (v := (.bool (decide ((aU.op : Int) = 12)))) rfl) (nN (aI hs rfl (fun c162 hs => ?_) (fun c162 hs => ?_)))))
 refine aD (aa (ah (v := (.pointer (some ⟨b6, (((sx.frames.length : Int) - 1)).toNat * 4, none⟩))) rfl) (aa (ag gN rfl) (aa (az h 177 rfl aR rfl rfl) (aa (aX rfl) (aa (ag nO rfl) (IM (a' := (({ x3 with at_ := aU.b }), u8)) h 2 rfl q7 rfl (eU (mh (aC e4).2) e9) aR rfl rfl rfl rfl (by rintro _ ⟨rfl, hq⟩; exact ⟨rfl, hq⟩) fun w h => ?_))))))
 rw [CR e9] at h
 replace h := h.WO 3 ({ x3 with at_ := aU.b }) rfl
 refine aA (ax ?_)
 replace h := h.eP 3 8 rfl rfl (by decide) (mh (mh (aC e4).2)) e9 rfl
 refine au ?_
 exact bS (false, iA, iW, ((sx.frames.set (((sx.frames.length : Int) - 1)).toNat ({ x3 with at_ := (min (x3.at_ + 1) ((bJ.code.length : Int) - 1)) })).set (((sx.frames.length : Int) - 1)).toNat ({ x3 with at_ := aU.b })), vs1, iI, sx.cells, sx.status, sx.aK) ⟨h.cn _, hs⟩
 refine nG (aa (bu rfl rfl) (aa (ae (v := (.bool (decide ((aU.op : Int) = 13)))) rfl) (nN (aI hs rfl (fun c163 hs => ?_) (fun c163 hs => ?_)))))
 refine nG (aa (ah (v := u8) rfl) (aa (ag jy rfl) (aa (az h 177 rfl aR rfl rfl) ?_)))
 obtain ⟨H5, e165, hs⟩ := aL hs
 obtain ⟨b167, q168, i166⟩ := h.rO 8 rfl aZ rfl (aC e165).1 (aC e165).2
 refine aa (i166 _ _ _ _ _ _ _ _ _ rfl rfl) ?_
 obtain ⟨cs169, m170, r171⟩ := h.uQ 8 rfl q168 (aC e165).2
 obtain rfl := r171
 refine aa (kS (k := 0) (vs := [(I6 H5.kind), (I6 H5.n)]) m170 aY rfl rfl rfl (bD rfl)) (bI h 995 aY fun w b172 h => dK (vs := [(I6 H5.kind), (I6 H5.n)]) h 995 [(I6 H5.kind), (I6 H5.n)] rfl aY rfl rfl rfl rfl rfl (ai rfl (ai rfl aS)) fun w h => nJ (aa (ag lJ rfl) (aa (az h 995 rfl aR rfl rfl) (aa (bu rfl rfl) (aa (ah (v := (.bool (decide ((H5.kind : Int) = 0)))) rfl) (aF rfl rfl (fun q => ag lJ rfl) (aF rfl rfl (fun q => az h 995 rfl aR (eu q) rfl) (aF rfl rfl (fun q => bu (eu q) rfl) (aF rfl rfl (fun q => ah (v := (.bool (decide ((H5.kind : Int) = 1)))) (eu q)) (lS (decide ((H5.kind : Int) = 0) == false) rfl rfl (fun q => ag fu rfl) (lS (decide ((H5.kind : Int) = 0) == false) rfl rfl (fun q => az h 995 rfl aR (eu q) rfl) (lS (decide ((H5.kind : Int) = 0) == false) rfl rfl (fun q => bu (eu q) rfl) (aF rfl rfl (fun q => fZ (eu q) (TP q) mY) (aa (jD rfl rfl mY) (nN (aI hs rfl (fun c173 hs => ?_) (fun c173 hs => ?_)))))))))))))))))
 refine aD (aa (ah (v := (.pointer (some ⟨b6, (((sx.frames.length : Int) - 1)).toNat * 4, none⟩))) rfl) (aa (ag gN rfl) (aa (az h 177 rfl aR rfl rfl) (aa (aX rfl) (aa (ag nO rfl) (IM (a' := (({ x3 with at_ := aU.b }), u8)) h 2 rfl q7 rfl (eU (mh (aC e4).2) e9) aR rfl rfl rfl rfl (by rintro _ ⟨rfl, hq⟩; exact ⟨rfl, hq⟩) fun w h => ?_))))))
 rw [CR e9] at h
 replace h := h.WO 3 ({ x3 with at_ := aU.b }) rfl
 refine aA (ax ?_)
 replace h := h.eP 3 8 rfl rfl (by decide) (mh (mh (aC e4).2)) e9 rfl
 refine au ?_
 exact bS (false, iA, iW, ((sx.frames.set (((sx.frames.length : Int) - 1)).toNat ({ x3 with at_ := (min (x3.at_ + 1) ((bJ.code.length : Int) - 1)) })).set (((sx.frames.length : Int) - 1)).toNat ({ x3 with at_ := aU.b })), vs1, iI, sx.cells, sx.status, sx.aK) ⟨h.cn _, hs⟩
 refine aH (ax ?_)
 replace h := h.eP 3 8 rfl rfl (by decide) (mh (aC e4).2) e9 rfl
 refine au ?_
 exact bS (false, iA, iW, (sx.frames.set (((sx.frames.length : Int) - 1)).toNat ({ x3 with at_ := (min (x3.at_ + 1) ((bJ.code.length : Int) - 1)) })), vs1, iI, sx.cells, sx.status, sx.aK) ⟨h.cn _, hs⟩
 refine aH (ax ?_)
 replace h := h.eP 3 8 rfl rfl (by decide) (mh (aC e4).2) e9 rfl
 refine au ?_
 exact bS (false, iA, iW, (sx.frames.set (((sx.frames.length : Int) - 1)).toNat ({ x3 with at_ := (min (x3.at_ + 1) ((bJ.code.length : Int) - 1)) })), vs1, iI, sx.cells, sx.status, sx.aK) ⟨h.cn _, hs⟩
 refine nG (aa (bu rfl rfl) (aa (ae (v := (.bool (decide ((aU.op : Int) = 4)))) rfl) (nN (aI hs rfl (fun c174 hs => ?_) (fun c174 hs => ?_)))))
 refine aH (au ?_)
 exact bS (decide ((aU.op : Int) = 4)) ⟨h.cn _, hs⟩
 refine aD (aa (bu rfl rfl) (aa (ae (v := (.bool (decide ((aU.op : Int) = 6)))) rfl) (aA (au ?_))))
 exact bS (decide ((aU.op : Int) = 6)) ⟨h.cn _, hs⟩
def xA (El : List Int) (x20 : Int) (y23 : List LX.Frame) (Q6 : List (List Val)) (y27 : Int) (y28 : Int) : Option (LX.State × List Int × Int × Int) :=
  some ((⟨y23, Q6, y27, y28⟩ : LX.State), El, x20, 0)
def Bv (jK : GZ × Bool × LX.State) (IG : Int) (Oi : (List Int × Int × List LX.Frame × List (List Val) × Int × Int) → Option (LX.State × List Int × Int × Int)) (Bw : List Int) : Option (LX.State × List Int × Int × Int) :=
  bif jK.1.JK then xA Bw (IG + 1) jK.2.2.frames jK.2.2.cells jK.2.2.status jK.2.2.aK else Oi (Bw, (IG + 1), jK.2.2.frames, jK.2.2.cells, jK.2.2.status, jK.2.2.aK)
def Bz (N : Nat) (u6 : List Int) (IG : Int) (wu : List LX.Frame) (BP : List (List Val)) (LG : Int) (L6 : Int) (a : List bX) (Oi : (List Int × Int × List LX.Frame × List (List Val) × Int × Int) → Option (LX.State × List Int × Int × Int)) (x93 : Bool) : Option (LX.State × List Int × Int × Int) :=
  bif x93 then xA u6 IG wu BP LG L6 else (Ep (⟨wu, BP, LG, L6⟩ : LX.State)).bind fun y95 => (ug N y95 a).bind fun jK => iK (kJ (IG + 1)) (bif (!jK.2.1) then xA u6 (IG + 1) wu BP 2 L6 else bif jK.1.said then iK (Room 8 u6 [jK.1.n]) (Bv jK IG Oi (u6 ++ [jK.1.n])) else Bv jK IG Oi u6)
def wU (N : Nat) (c : Int) (a : List bX) (s : List Int × Int × List LX.Frame × List (List Val) × Int × Int) (Oi : List Int × Int × List LX.Frame × List (List Val) × Int × Int → Option (LX.State × List Int × Int × Int)) : Option (LX.State × List Int × Int × Int) :=
  match s with | (u6, IG, wu, BP, LG, L6) => bif (decide ((IG : Int) < c) && decide ((LG : Int) = 0)) then iK (kJ ((wu.length : Int) - 1)) ((idx wu ((wu.length : Int) - 1)).bind fun x82 => bif decide (((u6.length : Int) : Int) = 40) then (idx a x82.proc).bind fun MS => (idx MS.code x82.at_).bind fun zR => Bz N u6 IG wu BP LG L6 a Oi (decide ((zR.op : Int) = 9)) else Bz N u6 IG wu BP LG L6 a Oi false) else xA u6 IG wu BP LG L6
def Ia (N : Nat) (a : List bX) (b : LX.State) (c : Int) : Option (LX.State × List Int × Int × Int) :=
  (Bi a b).bind fun y3 => bif decide ((y3 : Int) ≠ 0) then some ((⟨[], [], 0, 0⟩ : LX.State), [], 0, y3) else bif (decide ((c : Int) < 0) || decide ((2000 : Int) < c)) then some ((⟨[], [], 0, 0⟩ : LX.State), [], 0, 3) else bif decide ((b.status : Int) ≠ 0) then some ((⟨[], [], 0, 0⟩ : LX.State), [], 0, 7) else (Ep b).bind fun y9 => again (wU N c a) N ([], 0, y9.frames, y9.cells, y9.status, y9.aK)
theorem Jh (N : Nat) (w0 : World) (M : BS) (hM : ∀ b, M b → b < w0.heap.size) (va : Value) (a : List bX) (ha : iL jE w0 M va a) (b : LX.State) (vb0 vb1 : Value) (hb0 : gB dL w0 BE M vb0 b.frames) (hb1 : gB (l9 bz) w0 BE M vb1 b.cells) (c : Int) (r : LX.State × List Int × Int × Int) (hs : Ia N a b c = some r) :
    Calls Tryz.prog 28 #[va, (.agg #[vb0, vb1, (I6 b.status), (I6 b.aK)]), (I6 c)] w0 (fun e w' => Grow w0 w' ∧ ∃ uN, ∃ wR, ∃ u1, e = .returned (.tuple #[.agg #[uN, wR, .int .i64 r.1.status, .int .i64 r.1.aK], u1, .int .i64 r.2.2.1, .int .i64 r.2.2.2]) ∧ iL dL w' (fun b => M b ∨ ob u1 b) uN r.1.frames ∧ iL (l9 bz) w' (fun b => M b ∨ ob u1 b) wR r.1.cells ∧ gW eY 3 w' M u1 r.2.1 ∧ (∀ b, ob u1 b → w0.heap.size ≤ b)) := by
 refine aQ (args := [va, (.agg #[vb0, vb1, (I6 b.status), (I6 b.aK)]), (I6 c)]) Tryz.func28 rfl Tryz.ntmps28 (bD rfl) ?_
 have h := SH.init hM
 replace h := h.Y9 1 ha bA
 replace h := h.fE 2 hb0 (sP bA)
 replace h := h.fE 3 hb1 (bN (sP bA))
 have uU := ha.bT
 refine nG (kM (cs := [vb0, vb1, (I6 b.status), (I6 b.aK)]) h 4 rfl rfl fun w b1 h => bI h 5 bC fun w b2 h => aa (ae (v := (.slice none 0 0)) rfl) (aa (ae (v := (I6 0)) rfl) (aa (ae (v := (I6 0)) rfl) (nK (aa (ah (v := va) rfl) (aa (bU (vs := [vb0, vb1, (I6 b.status), (I6 b.aK)]) h 4 rfl bC rfl rfl rfl) ?_))))))
 obtain ⟨y3, e4, hs⟩ := aL hs
 refine aW Qo rfl rfl (Em _ _ h.lt va a (h.kL 1 rfl) b vb0 vb1 (h.gV 2 rfl) (h.gV 3 rfl) _ e4) ?_
 rintro _ w ⟨k5, rfl⟩
 refine ⟨_, rfl, ?_⟩
 replace h := h.grow k5
 refine aa (ae (v := (I6 y3)) rfl) (nJ (aa (ah (v := (I6 y3)) rfl) (aa (gM rfl rfl) (nN (aI hs rfl (fun c6 hs => ?_) (fun c6 hs => ?_))))))
 refine nG (aa (fe (pv := []) (out := [(.slice none 0 0), (.slice none 0 0), (I6 0), (I6 0)]) wB rfl rfl) (aa (ah (v := (I6 y3)) rfl) (dK (vs := [(.slice none 0 0), (.slice none 0 0), (I6 0), (I6 0)]) h 5 [(.slice none 0 0), (.slice none 0 0), (I6 0), (I6 0)] rfl bC rfl rfl rfl rfl rfl (ai rfl (ai rfl (ai rfl (ai rfl aS)))) fun w h => aa (ae (v := (.slice none 0 0)) rfl) (aa (ae (v := (I6 0)) rfl) (aa (ae (v := (I6 y3)) rfl) (nR (ay (IY (vs := [(.slice none 0 0), (.slice none 0 0), (I6 0), (I6 0)]) (v2 := (.slice none 0 0)) (v3 := (I6 0)) (v4 := (I6 y3)) Tryz.results28 rfl rfl rfl rfl h 5 rfl bC rfl ?_))))))))
 obtain rfl := fM hs
 exact ⟨h.grown, _, _, _, rfl, gB.nil, gB.nil, gW.nil, qO⟩
 refine aH (ak (aM (nG (aa (ah (v := (I6 c)) rfl) (aa (eO rfl rfl) (aa (ah (v := (.bool (decide ((c : Int) < 0)))) rfl) (aF rfl rfl (fun q => ah (v := (I6 c)) rfl) (aF rfl rfl (fun q => mV (eu q) rfl) (aa (jD rfl rfl mY) (nN (aI hs rfl (fun c7 hs => ?_) (fun c7 hs => ?_))))))))))))
 refine nG (aa (fe (pv := []) (out := [(.slice none 0 0), (.slice none 0 0), (I6 0), (I6 0)]) wB rfl rfl) (dK (vs := [(.slice none 0 0), (.slice none 0 0), (I6 0), (I6 0)]) h 5 [(.slice none 0 0), (.slice none 0 0), (I6 0), (I6 0)] rfl bC rfl rfl rfl rfl rfl (ai rfl (ai rfl (ai rfl (ai rfl aS)))) fun w h => aa (ae (v := (.slice none 0 0)) rfl) (aa (ae (v := (I6 0)) rfl) (aa (ae (v := (I6 3)) rfl) (nR (ay (IY (vs := [(.slice none 0 0), (.slice none 0 0), (I6 0), (I6 0)]) (v2 := (.slice none 0 0)) (v3 := (I6 0)) (v4 := (I6 3)) Tryz.results28 rfl rfl rfl rfl h 5 rfl bC rfl ?_)))))))
 obtain rfl := fM hs
 exact ⟨h.grown, _, _, _, rfl, gB.nil, gB.nil, gW.nil, qO⟩
 refine aH (ak (aM (nG (aa (ag kN rfl) (aa (az h 4 rfl aR rfl rfl) (aa (gM rfl rfl) (nN (aI hs rfl (fun c8 hs => ?_) (fun c8 hs => ?_)))))))))
 refine nG (aa (fe (pv := []) (out := [(.slice none 0 0), (.slice none 0 0), (I6 0), (I6 0)]) wB rfl rfl) (dK (vs := [(.slice none 0 0), (.slice none 0 0), (I6 0), (I6 0)]) h 5 [(.slice none 0 0), (.slice none 0 0), (I6 0), (I6 0)] rfl bC rfl rfl rfl rfl rfl (ai rfl (ai rfl (ai rfl (ai rfl aS)))) fun w h => aa (ae (v := (.slice none 0 0)) rfl) (aa (ae (v := (I6 0)) rfl) (aa (ae (v := (I6 7)) rfl) (nR (ay (IY (vs := [(.slice none 0 0), (.slice none 0 0), (I6 0), (I6 0)]) (v2 := (.slice none 0 0)) (v3 := (I6 0)) (v4 := (I6 7)) Tryz.results28 rfl rfl rfl rfl h 5 rfl bC rfl ?_)))))))
 obtain rfl := fM hs
 exact ⟨h.grown, _, _, _, rfl, gB.nil, gB.nil, gW.nil, qO⟩
 refine nS (aa (bU (vs := [vb0, vb1, (I6 b.status), (I6 b.aK)]) h 4 rfl bC rfl rfl rfl) ?_)
 obtain ⟨y9, e10, hs⟩ := aL hs
 refine aW Qr rfl rfl (Gj _ _ h.lt b vb0 vb1 (h.gV 2 rfl) (h.gV 3 rfl) _ e10) ?_
 rintro _ w ⟨k17, u11, DX, J3, us14, rfl, h15, h16⟩
 refine ⟨_, rfl, ?_⟩
 replace h := h.Mx 6 (C := (cU u11 DX y9.frames J3 y9.cells us14)) k17 ⟨⟨⟨trivial, trivial⟩, trivial⟩, trivial⟩ h15 h16
 replace h := h.cK 6 9 (by decide) rfl rfl
 replace h := h.cK 6 8 (by decide) rfl rfl
 replace h := h.cK 6 7 (by decide) rfl rfl
 refine dK (vs := [u11, DX, (I6 y9.status), (I6 y9.aK)]) h 4 [u11, DX, (I6 y9.status), (I6 y9.aK)] rfl bC rfl rfl rfl rfl rfl (ai (h.dD 6 rfl).one (ai (h.dD 8 rfl).one (ai rfl (ai rfl aS)))) fun w h => nJ (aa (ae (v := (.slice none 0 0)) rfl) (nJ (aa (ae (v := (I6 0)) rfl) (nN (cu (σ := Value × List Int × Int × Value × List Value × List LX.Frame × Value × List Value × List (List Val) × Int × Int) (inl (rg 11 6 ++ rg 37 55)) (fun ⟨v18, El, x20, v21, us22, y23, v24, us25, Q6, y27, y28⟩ => [(11, v18), (12, (I6 x20))]) (fun ⟨v18, El, x20, v21, us22, y23, v24, us25, Q6, y27, y28⟩ w => SH w0 M BE w (hset [(4, .blk b1 [v21, v24, (I6 y27), (I6 y28)]), (5, .blk b2 [(.slice none 0 0), (.slice none 0 0), (I6 0), (I6 0)]), (10, .own bB.raw 49 v21 (List.zip y23 us22)), (11, .iJ (ek bz 51 hn us22 (List.map bB.sub y23))), (12, .own (eD Val).raw 47 v24 (List.zip Q6 us25)), (13, .iJ (ek bz 51 hn us25 (List.map (eD Val).sub Q6))), (25, .own eY 3 v18 El)]) ∧ xA El x20 y23 Q6 y27 y28 = some r) ?_ ?_)))))
 rintro ⟨v18, El, x20, v21, us22, y23, v24, us25, Q6, y27, y28⟩ w dR ⟨h, hs⟩
 refine nG (aa (bU (vs := [v21, v24, (I6 y27), (I6 y28)]) h 4 rfl bC rfl rfl rfl) (aa (ah (v := v18) rfl) (aa (ah (v := (I6 x20)) rfl) (dK (vs := [v21, v24, (I6 y27), (I6 y28)]) h 5 [v21, v24, (I6 y27), (I6 y28)] rfl bC rfl rfl rfl rfl rfl (ai (h.dD 10 rfl).one (ai (h.dD 12 rfl).one (ai rfl (ai rfl aS)))) fun w h => aa (ae (v := v18) rfl) (aa (ae (v := (I6 x20)) rfl) (aa (ae (v := (I6 0)) rfl) (nR (IY (vs := [v21, v24, (I6 y27), (I6 y28)]) (v2 := v18) (v3 := (I6 x20)) (v4 := (I6 0)) Tryz.results28 rfl rfl rfl rfl h 5 rfl bC rfl ?_))))))))
 replace h := h.rW (N := bB) (R' := dL) 10 11 rfl rfl (by decide) rfl qP
 replace h := h.rW (N := (eD Val)) (R' := (l9 bz)) 12 13 rfl rfl (by decide) rfl wJ
 obtain rfl := fM hs
 exact ⟨h.grown, _, _, _, rfl, h.Co 10 25 rfl rfl, h.Co 12 25 rfl rfl, (h.lQ 25 rfl).1, (h.lQ 25 rfl).2⟩
 refine aN ?_
 replace h := h.yH (R := eY) (E := 3) 41
 replace h := (h.fV 42).moveC 6 42 rfl rfl (by decide)
 replace h := (h.fV 43).moveC 7 43 rfl rfl (by decide)
 replace h := (h.fV 44).moveC 8 44 rfl rfl (by decide)
 replace h := (h.fV 45).moveC 9 45 rfl rfl (by decide)
 refine gD (σ := Nat × Value × List Int × Int × Value × List Value × List LX.Frame × Value × List Value × List (List Val) × Int × Int) (inl (rg 11 6 ++ rg 37 55)) (fun ⟨m76, v62, u6, IG, v65, Oj, wu, v68, Ol, BP, LG, L6⟩ => [(11, v62), (12, (I6 IG))]) (fun ⟨m76, v62, u6, IG, v65, Oj, wu, v68, Ol, BP, LG, L6⟩ w => SH w0 M BE w (hset [(1, .rd jE va a), (4, .blk b1 [v65, v68, (I6 LG), (I6 L6)]), (5, .blk b2 [(.slice none 0 0), (.slice none 0 0), (I6 0), (I6 0)]), (41, .own eY 3 v62 u6), (42, .own bB.raw 49 v65 (List.zip wu Oj)), (43, .iJ (ek bz 51 hn Oj (List.map bB.sub wu))), (44, .own (eD Val).raw 47 v68 (List.zip BP Ol)), (45, .iJ (ek bz 51 hn Ol (List.map (eD Val).sub BP)))]) ∧ again (wU N c a) m76 (u6, IG, wu, BP, LG, L6) = some r) (fun ⟨m76, v62, u6, IG, v65, Oj, wu, v68, Ol, BP, LG, L6⟩ => m76) ⟨N, (.slice none 0 0), [], 0, u11, J3, y9.frames, DX, us14, y9.cells, y9.status, y9.aK⟩ ⟨rfl, rfl, trivial⟩ ?_ ?_
 exact ⟨h.cn _, hs⟩
 rintro ⟨m76, v62, u6, IG, v65, Oj, wu, v68, Ol, BP, LG, L6⟩ w dR ⟨h, hs⟩
 obtain ⟨m761, m76e, m76h⟩ := uq hs
 subst m76e
 replace hs := m76h
 generalize hnx77 : again (wU N c a) m761 = Oi at hs
 refine aM (nG (aa (ah (v := (I6 IG)) rfl) (aa (ah (v := (I6 c)) rfl) (aa (eO rfl rfl) (aa (ah (v := (.bool (decide ((IG : Int) < c)))) rfl) (aF rfl rfl (fun q => ag kN rfl) (aF rfl rfl (fun q => az h 4 rfl aR (eu q) rfl) (aF rfl rfl (fun q => bu (eu q) rfl) (aa (fZ rfl rfl mY) (nN (aI hs rfl (fun c80 hs => ?_) (fun c80 hs => ?_))))))))))))
 refine aH (ak (aN (nG (aa (ag dP rfl) (aa (az h 4 rfl gL rfl rfl) (aa (ag dP rfl) (aa (az h 4 rfl gL rfl rfl) (aa (nA (N := bB) bV rfl (h.eT 42 rfl) (h.gm 43 rfl)) ?_))))))))
 obtain ⟨a81, hs⟩ := bG hs
 refine aa (oh rfl rfl a81) ?_
 obtain ⟨x82, e83, hs⟩ := aL hs
 obtain ⟨u87, e88, h⟩ := h.mq 43 46 x82.regs rfl rfl (by decide) (aC e83).2 rfl
 obtain ⟨MN, q86, i84⟩ := h.rO 42 rfl bV rfl (aC e83).1 (eU (aC e83).2 e88)
 refine aa (i84 _ _ _ _ _ _ _ _ _ rfl rfl) ?_
 obtain ⟨cs89, m90, r91⟩ := h.uQ 42 rfl q86 (eU (aC e83).2 e88)
 obtain ⟨rfl, -⟩ := r91
 refine aa (kS (k := 0) (vs := [(I6 x82.proc), (I6 x82.at_), u87, (I6 x82.kD)]) m90 gz rfl rfl rfl (bD rfl)) (bI h 47 gz fun w b92 h => dK (vs := [(I6 x82.proc), (I6 x82.at_), u87, (I6 x82.kD)]) h 47 [(I6 x82.proc), (I6 x82.at_), u87, (I6 x82.kD)] rfl gz rfl rfl rfl rfl rfl (ai rfl (ai rfl (ai (h.dD 46 rfl).one (ai rfl aS)))) fun w h => nN (aM (cu (σ := Bool) (inl (rg 53 17)) (fun x93 => [(69, (.bool (x93)))]) (fun x93 w => SH w0 M BE w (hset [(1, .rd jE va a), (4, .blk b1 [v65, v68, (I6 LG), (I6 L6)]), (5, .blk b2 [(.slice none 0 0), (.slice none 0 0), (I6 0), (I6 0)]), (41, .own eY 3 v62 u6), (42, .own bB.raw 49 v65 (List.zip wu Oj)), (43, .iJ (ek bz 51 hn Oj (List.map bB.sub wu))), (44, .own (eD Val).raw 47 v68 (List.zip BP Ol)), (45, .iJ (ek bz 51 hn Ol (List.map (eD Val).sub BP)))]) ∧ Bz N u6 IG wu BP LG L6 a Oi x93 = some r) ?_ ?_)))
 rintro x93 w dR ⟨h, hs⟩
 refine aI hs rfl (fun c94 hs => ?_) (fun c94 hs => ?_)
 refine jl (bQ (Bb (by decide) (bQ (fq (au ?_)))))
 replace h := h.GQ 41 25 rfl rfl (by decide)
 replace h := (h.fV 10).moveC 42 10 rfl rfl (by decide)
 replace h := (h.fV 11).moveC 43 11 rfl rfl (by decide)
 replace h := (h.fV 12).moveC 44 12 rfl rfl (by decide)
 replace h := (h.fV 13).moveC 45 13 rfl rfl (by decide)
 exact bS (v62, u6, IG, v65, Oj, wu, v68, Ol, BP, LG, L6) ⟨h.cn _, hs⟩
 refine nS (aa (bU (vs := [v65, v68, (I6 LG), (I6 L6)]) h 4 rfl bC rfl rfl rfl) ?_)
 obtain ⟨y95, e96, hs⟩ := aL hs
 refine aW Qr rfl rfl (Gj _ BE (fun _ h => h.elim) (⟨wu, BP, LG, L6⟩ : LX.State) v65 v68 (h.zV (N := bB) (R' := dL) 42 43 rfl rfl (by decide) rfl qP) (h.zV (N := (eD Val)) (R' := (l9 bz)) 44 45 rfl rfl (by decide) rfl wJ) _ e96) ?_
 rintro _ w ⟨k103, Uy, u99, us98, Wh, rfl, h101, h102⟩
 refine ⟨_, rfl, ?_⟩
 replace h := h.VR 48 (C := (cU Uy u99 y95.frames us98 y95.cells Wh)) k103 ⟨⟨⟨trivial, trivial⟩, trivial⟩, trivial⟩ ⟨⟨⟨(fun _ _ _ _ _ h => h), (xg (fun _ _ _ _ _ h => h))⟩, (fun _ _ _ _ _ h => h)⟩, (xg (fun _ _ _ _ _ h => h))⟩ h101 h102
 replace h := h.cK 48 51 (by decide) rfl rfl
 replace h := h.cK 48 50 (by decide) rfl rfl
 replace h := h.cK 48 49 (by decide) rfl rfl
 refine bI h 52 bC fun w b104 h => dK (vs := [Uy, u99, (I6 y95.status), (I6 y95.aK)]) h 52 [Uy, u99, (I6 y95.status), (I6 y95.aK)] rfl bC rfl rfl rfl rfl rfl (ai (h.dD 48 rfl).one (ai (h.dD 50 rfl).one (ai rfl (ai rfl aS)))) fun w h => nJ (aa (ah (v := va) rfl) ?_)
 replace h := h.pair 52 48 (by decide)
 replace h := h.pair 52 49 (by decide)
 replace h := h.pair 52 50 (by decide)
 replace h := h.pair 52 51 (by decide)
 obtain ⟨l105a, l105b, l105c⟩ := h.Aj 52 (C := (cT b104 Uy u99 (y95.status) (y95.aK) y95.frames us98 y95.cells Wh)) rfl ⟨⟨⟨⟨trivial, trivial⟩, trivial⟩, trivial⟩, trivial⟩
 obtain ⟨jK, e107, hs⟩ := aL hs
 refine aW fnOk65 rfl rfl (XJ N _ _ l105c b104 y95 Uy u99 us98 Wh l105a l105b va a (h.TU 52 1 rfl rfl) _ e107) ?_
 rintro _ w ⟨k112, Sk, GG, Sl, Sm, rfl, h113, h114⟩
 refine ⟨_, rfl, ?_⟩
 replace h := h.back 52 (C := (cT b104 Uy u99 (y95.status) (y95.aK) y95.frames us98 y95.cells Wh)) (C' := (cT b104 Sk GG (jK.2.2.status) (jK.2.2.aK) jK.2.2.frames Sl jK.2.2.cells Sm)) rfl ⟨⟨⟨⟨trivial, trivial⟩, trivial⟩, trivial⟩, trivial⟩ h113 k112 h114
 replace h := h.cK 52 51 (by decide) rfl rfl
 replace h := h.cK 52 50 (by decide) rfl rfl
 replace h := h.cK 52 49 (by decide) rfl rfl
 replace h := h.cK 52 48 (by decide) rfl rfl
 refine aa (ah (v := (.tuple #[(.agg #[(.bool (jK.1.said)), (I6 jK.1.n), (.bool (jK.1.JK))]), (.bool (jK.2.1))])) rfl) (aa (bg rfl rfl) (aa (bg rfl rfl) (bI h 53 jm fun w b115 h => dK (vs := [(.bool (jK.1.said)), (I6 jK.1.n), (.bool (jK.1.JK))]) h 53 [(.bool (jK.1.said)), (I6 jK.1.n), (.bool (jK.1.JK))] rfl jm rfl rfl rfl rfl rfl (ai rfl (ai rfl (ai rfl aS))) fun w h => aa (ae (v := (.bool (jK.2.1))) rfl) (nJ (aa (ah (v := (I6 IG)) rfl) ?_)))))
 obtain ⟨a116, hs⟩ := bG hs
 refine aa (dQ rfl rfl a116) (aa (ae (v := (I6 ((IG + 1)))) rfl) (nK (aa (ah (v := (.bool (jK.2.1))) rfl) (aa (fw rfl) (nN (aI hs rfl (fun c117 hs => ?_) (fun c117 hs => ?_)))))))
 refine nG (aa (ag kN rfl) (gP h 4 [v65, v68, (I6 2), (I6 L6)] rfl aR rfl rfl rfl rfl rfl fun w h => nN (jl (bQ (Bb (by decide) (bQ (fq (au ?_))))))))
 replace h := h.GQ 41 25 rfl rfl (by decide)
 replace h := (h.fV 10).moveC 42 10 rfl rfl (by decide)
 replace h := (h.fV 11).moveC 43 11 rfl rfl (by decide)
 replace h := (h.fV 12).moveC 44 12 rfl rfl (by decide)
 replace h := (h.fV 13).moveC 45 13 rfl rfl (by decide)
 exact bS (v62, u6, (IG + 1), v65, Oj, wu, v68, Ol, BP, 2, L6) ⟨h.cn _, hs⟩
 refine aH (ak (cu (σ := Value × List Int) (inl ([11] ++ rg 82 8)) (fun ⟨X3, Bw⟩ => [(11, X3)]) (fun ⟨X3, Bw⟩ w => SH w0 M BE w (hset [(1, .rd jE va a), (4, .blk b1 [Sk, GG, (I6 jK.2.2.status), (I6 jK.2.2.aK)]), (5, .blk b2 [(.slice none 0 0), (.slice none 0 0), (I6 0), (I6 0)]), (41, .own eY 3 X3 Bw), (48, .own bB.raw 49 Sk (List.zip jK.2.2.frames Sl)), (49, .iJ (ek bz 51 hn Sl (List.map bB.sub jK.2.2.frames))), (50, .own (eD Val).raw 47 GG (List.zip jK.2.2.cells Sm)), (51, .iJ (ek bz 51 hn Sm (List.map (eD Val).sub jK.2.2.cells))), (53, .blk b115 [(.bool (jK.1.said)), (I6 jK.1.n), (.bool (jK.1.JK))])]) ∧ Bv jK IG Oi Bw = some r) ?_ ?_))
 rintro ⟨X3, Bw⟩ w dR ⟨h, hs⟩
 refine nG (aa (ag MH rfl) (aa (az h 53 rfl BQ rfl rfl) (nN (aI hs rfl (fun c120 hs => ?_) (fun c120 hs => ?_)))))
 refine jl (Bb (by decide) (bQ (fq (au ?_))))
 replace h := h.GQ 41 25 rfl rfl (by decide)
 replace h := (h.fV 10).moveC 48 10 rfl rfl (by decide)
 replace h := (h.fV 11).moveC 49 11 rfl rfl (by decide)
 replace h := (h.fV 12).moveC 50 12 rfl rfl (by decide)
 replace h := (h.fV 13).moveC 51 13 rfl rfl (by decide)
 exact bS (X3, Bw, (IG + 1), Sk, Sl, jK.2.2.frames, GG, Sm, jK.2.2.cells, jK.2.2.status, jK.2.2.aK) ⟨h.cn _, hs⟩
 refine aH (ax (au ?_))
 replace h := (h.fV 42).moveC 48 42 rfl rfl (by decide)
 replace h := (h.fV 43).moveC 49 43 rfl rfl (by decide)
 replace h := (h.fV 44).moveC 50 44 rfl rfl (by decide)
 replace h := (h.fV 45).moveC 51 45 rfl rfl (by decide)
 subst hnx77
 exact jM ⟨m761, X3, Bw, (IG + 1), Sk, Sl, jK.2.2.frames, GG, Sm, jK.2.2.cells, jK.2.2.status, jK.2.2.aK⟩ ⟨h.cn _, hs⟩
 refine nG (aa (bU (vs := [Sk, GG, (I6 jK.2.2.status), (I6 jK.2.2.aK)]) h 52 rfl bC rfl rfl rfl) (dK (vs := [Sk, GG, (I6 jK.2.2.status), (I6 jK.2.2.aK)]) h 4 [Sk, GG, (I6 jK.2.2.status), (I6 jK.2.2.aK)] rfl bC rfl rfl rfl rfl rfl (ai (h.dD 48 rfl).one (ai (h.dD 50 rfl).one (ai rfl (ai rfl aS)))) fun w h => nJ (aa (ag ZH rfl) (aa (az h 53 rfl BQ rfl rfl) (nN (aI hs rfl (fun c121 hs => ?_) (fun c121 hs => ?_)))))))
 refine aD (aa (ah (v := v62) rfl) (aa (ag ZI rfl) (aa (az h 53 rfl aR rfl rfl) (sV (R := eY) (vs := [(I6 jK.1.n)]) (xs := [jK.1.n]) h 54 kI rfl rfl rfl ⟨rfl, trivial⟩ rfl fun w u122 h => ?_))))
 obtain ⟨a123, hs⟩ := bG hs
 refine mW (R := eY) (m := [jK.1.n]) h 41 rfl (h.eT 54 rfl) kI rfl rfl rfl a123.1 a123.2 fun w u124 h => aa (ae (v := u124) rfl) (aA (au ?_))
 exact bS (u124, (u6 ++ [jK.1.n])) ⟨h.cn _, hs⟩
 refine aH (au ?_)
 exact bS (v62, u6) ⟨h.cn _, hs⟩
 refine uS mixed (by kernel_rfl) h fun w h => aG (ah (v := v62) rfl) (aG (bM bZ rfl (h.eT 41 rfl)) (aG (bu rfl rfl) (aG (ah (v := (.bool (decide (((u6.length : Int) : Int) = 40)))) rfl) (gT (b := decide (((u6.length : Int) : Int) = 40)) hs (fun wQ hs => ?_) (fun wQ hs => ?_)))))
 refine fU rfl (cB wQ) (aG (ah (v := va) rfl) (fU rfl (cB wQ) (aG (ag tq rfl) (fU rfl (cB wQ) (aG (az h 47 rfl aR rfl rfl) (fU rfl (cB wQ) ?_))))))
 obtain ⟨MS, e127, hs⟩ := aL hs
 obtain ⟨b129, o130, cs131, h, r132, i128⟩ := h.Cn 1 55 rfl gU rfl (aC e127).1 (aC e127).2
 obtain ⟨u133, rfl, g134⟩ := jN r132
 replace h := h.dh 56 g134.up
 refine aG (i128 _ _ _ _ _ _ _ _ _ rfl rfl) (fU rfl (cB wQ) (aG (ag nP rfl) (fU rfl (cB wQ) (aG (fo (k := 2) h 55 rfl xh rfl rfl) (fU rfl (cB wQ) (aG (ag nO rfl) (fU rfl (cB wQ) (aG (az h 47 rfl aR rfl rfl) (fU rfl (cB wQ) ?_)))))))))
 obtain ⟨zR, e136, hs⟩ := aL hs
 obtain ⟨b138, o139, cs140, h, r141, i137⟩ := h.Cn 56 57 rfl iD rfl (aC e136).1 (aC e136).2
 obtain ⟨u142, rfl, g143⟩ := xe r141
 replace h := h.dh 58 g143.up
 refine aG (i137 _ _ _ _ _ _ _ _ _ rfl rfl) (fU rfl (cB wQ) (aG (ag ni rfl) (fU rfl (cB wQ) (aG (fo (k := 0) h 57 rfl aR rfl rfl) (fU rfl (cB wQ) (aG (bu rfl rfl) (aG (bY (b := true) (v := (.bool (decide ((zR.op : Int) = 9)))) (cB wQ) rfl) (uy ?_))))))))
 replace h := h.eP 43 46 rfl rfl (by decide) (aC e83).2 e88 rfl
 refine au ?_
 exact bS (decide ((zR.op : Int) = 9)) ⟨h.cn _, hs⟩
 refine ed (b' := false) rfl (cB wQ) rfl (ed (b' := false) rfl (cB wQ) rfl (ed (b' := false) rfl (cB wQ) rfl (ed (b' := false) rfl (cB wQ) rfl (ed (b' := false) rfl (cB wQ) rfl (ed (b' := false) rfl (cB wQ) rfl (ed (b' := false) rfl (cB wQ) rfl (ed (b' := false) rfl (cB wQ) rfl (ed (b' := false) rfl (cB wQ) rfl (ed (b' := false) rfl (cB wQ) rfl (ed (b' := false) rfl (cB wQ) rfl (ed (b' := false) rfl (cB wQ) rfl (aG (bY (b := false) (v := (.bool (false))) (cB wQ) rfl) (uy ?_)))))))))))))
 replace h := h.eP 43 46 rfl rfl (by decide) (aC e83).2 e88 rfl
 refine au ?_
 exact bS false ⟨h.cn _, hs⟩
 refine jl (bQ (bQ (fq (au ?_))))
 replace h := h.GQ 41 25 rfl rfl (by decide)
 replace h := (h.fV 10).moveC 42 10 rfl rfl (by decide)
 replace h := (h.fV 11).moveC 43 11 rfl rfl (by decide)
 replace h := (h.fV 12).moveC 44 12 rfl rfl (by decide)
 replace h := (h.fV 13).moveC 45 13 rfl rfl (by decide)
 exact bS (v62, u6, IG, v65, Oj, wu, v68, Ol, BP, LG, L6) ⟨h.cn _, hs⟩
def Ji (a : List bX) (b : LX.State) : Option (LX.State × Int) :=
  (Bi a b).bind fun y3 => bif decide ((y3 : Int) ≠ 0) then some ((⟨[], [], 0, 0⟩ : LX.State), y3) else bif decide ((b.status : Int) ≠ 3) then some ((⟨[], [], 0, 0⟩ : LX.State), 7) else (Ep b).bind fun y8 => some ((⟨y8.frames, y8.cells, 0, 0⟩ : LX.State), 0)
theorem Pk (w0 : World) (M : BS) (hM : ∀ b, M b → b < w0.heap.size) (va : Value) (a : List bX) (ha : gB jE w0 BE M va a) (b : LX.State) (vb0 vb1 : Value) (hb0 : gB dL w0 BE M vb0 b.frames) (hb1 : gB (l9 bz) w0 BE M vb1 b.cells) (r : LX.State × Int) (hs : Ji a b = some r) :
    Calls Tryz.prog 30 #[va, (.agg #[vb0, vb1, (I6 b.status), (I6 b.aK)])] w0 (fun e w' => Grow w0 w' ∧ ∃ uN, ∃ wR, e = .returned (.tuple #[.agg #[uN, wR, .int .i64 r.1.status, .int .i64 r.1.aK], .int .i64 r.2]) ∧ iL dL w' M uN r.1.frames ∧ iL (l9 bz) w' M wR r.1.cells) := by
 refine aQ (args := [va, (.agg #[vb0, vb1, (I6 b.status), (I6 b.aK)])]) Tryz.func30 rfl Tryz.ntmps30 (bD rfl) ?_
 have h := SH.init hM
 replace h := h.fE 1 ha bA
 replace h := h.fE 2 hb0 (bN bA)
 replace h := h.fE 3 hb1 (bN (bN bA))
 have uU := ha.bT
 refine nG (kM (cs := [vb0, vb1, (I6 b.status), (I6 b.aK)]) h 4 rfl rfl fun w b1 h => bI h 5 bC fun w b2 h => aa (ae (v := (I6 0)) rfl) (nK (aa (ah (v := va) rfl) (aa (bU (vs := [vb0, vb1, (I6 b.status), (I6 b.aK)]) h 4 rfl bC rfl rfl rfl) ?_))))
 obtain ⟨y3, e4, hs⟩ := aL hs
 refine aW Qo rfl rfl (Em _ _ h.lt va a (h.gV 1 rfl) b vb0 vb1 (h.gV 2 rfl) (h.gV 3 rfl) _ e4) ?_
 rintro _ w ⟨k5, rfl⟩
 refine ⟨_, rfl, ?_⟩
 replace h := h.grow k5
 refine aa (ae (v := (I6 y3)) rfl) (nJ (aa (ah (v := (I6 y3)) rfl) (aa (gM rfl rfl) (nN (aI hs rfl (fun c6 hs => ?_) (fun c6 hs => ?_))))))
 refine nG (aa (fe (pv := []) (out := [(.slice none 0 0), (.slice none 0 0), (I6 0), (I6 0)]) wB rfl rfl) (aa (ah (v := (I6 y3)) rfl) (dK (vs := [(.slice none 0 0), (.slice none 0 0), (I6 0), (I6 0)]) h 5 [(.slice none 0 0), (.slice none 0 0), (I6 0), (I6 0)] rfl bC rfl rfl rfl rfl rfl (ai rfl (ai rfl (ai rfl (ai rfl aS)))) fun w h => aa (ae (v := (I6 y3)) rfl) (nR (ay (lV (vs := [(.slice none 0 0), (.slice none 0 0), (I6 0), (I6 0)]) (v2 := (I6 y3)) Tryz.results30 rfl rfl h 5 rfl bC rfl ?_))))))
 obtain rfl := fM hs
 exact ⟨h.grown, _, _, rfl, gB.nil, gB.nil⟩
 refine aH (ak (aM (nG (aa (ag kN rfl) (aa (az h 4 rfl aR rfl rfl) (aa (gM rfl rfl) (nN (aI hs rfl (fun c7 hs => ?_) (fun c7 hs => ?_)))))))))
 refine nG (aa (fe (pv := []) (out := [(.slice none 0 0), (.slice none 0 0), (I6 0), (I6 0)]) wB rfl rfl) (dK (vs := [(.slice none 0 0), (.slice none 0 0), (I6 0), (I6 0)]) h 5 [(.slice none 0 0), (.slice none 0 0), (I6 0), (I6 0)] rfl bC rfl rfl rfl rfl rfl (ai rfl (ai rfl (ai rfl (ai rfl aS)))) fun w h => aa (ae (v := (I6 7)) rfl) (nR (ay (lV (vs := [(.slice none 0 0), (.slice none 0 0), (I6 0), (I6 0)]) (v2 := (I6 7)) Tryz.results30 rfl rfl h 5 rfl bC rfl ?_)))))
 obtain rfl := fM hs
 exact ⟨h.grown, _, _, rfl, gB.nil, gB.nil⟩
 refine nS (aa (bU (vs := [vb0, vb1, (I6 b.status), (I6 b.aK)]) h 4 rfl bC rfl rfl rfl) ?_)
 obtain ⟨y8, e9, hs⟩ := aL hs
 refine aW Qr rfl rfl (Gj _ _ h.lt b vb0 vb1 (h.gV 2 rfl) (h.gV 3 rfl) _ e9) ?_
 rintro _ w ⟨k16, u10, u12, M4, LH, rfl, h14, h15⟩
 refine ⟨_, rfl, ?_⟩
 replace h := h.Mx 6 (C := (cU u10 u12 y8.frames M4 y8.cells LH)) k16 ⟨⟨⟨trivial, trivial⟩, trivial⟩, trivial⟩ h14 h15
 replace h := h.cK 6 9 (by decide) rfl rfl
 replace h := h.cK 6 8 (by decide) rfl rfl
 replace h := h.cK 6 7 (by decide) rfl rfl
 refine dK (vs := [u10, u12, (I6 y8.status), (I6 y8.aK)]) h 4 [u10, u12, (I6 y8.status), (I6 y8.aK)] rfl bC rfl rfl rfl rfl rfl (ai (h.dD 6 rfl).one (ai (h.dD 8 rfl).one (ai rfl (ai rfl aS)))) fun w h => nJ (aa (ag kN rfl) (gP h 4 [u10, u12, (I6 0), (I6 y8.aK)] rfl aR rfl rfl rfl rfl rfl fun w h => aa (ag vJ rfl) (gP h 4 [u10, u12, (I6 0), (I6 0)] rfl aR rfl rfl rfl rfl rfl fun w h => nJ (aa (bU (vs := [u10, u12, (I6 0), (I6 0)]) h 4 rfl bC rfl rfl rfl) (dK (vs := [u10, u12, (I6 0), (I6 0)]) h 5 [u10, u12, (I6 0), (I6 0)] rfl bC rfl rfl rfl rfl rfl (ai (h.dD 6 rfl).one (ai (h.dD 8 rfl).one (ai rfl (ai rfl aS)))) fun w h => aa (ae (v := (I6 0)) rfl) (nR (lV (vs := [u10, u12, (I6 0), (I6 0)]) (v2 := (I6 0)) Tryz.results30 rfl rfl h 5 rfl bC rfl ?_)))))))
 replace h := h.rW (N := bB) (R' := dL) 6 7 rfl rfl (by decide) rfl qP
 replace h := h.rW (N := (eD Val)) (R' := (l9 bz)) 8 9 rfl rfl (by decide) rfl wJ
 obtain rfl := fM hs
 exact ⟨h.grown, _, _, rfl, h.Zf 6 rfl, h.Zf 8 rfl⟩
def rT (a : List Int) (b : List Int) (i3 : Int) (s : Unit) (G5 : Unit → Option Bool) : Option Bool :=
  (idx a i3).bind fun x9 => (idx b i3).bind fun rR => bif decide ((x9 : Int) ≠ rR) then some false else G5 ()
def wm (s : Unit) : Option Bool :=
  some true
def slices_Equal_int (a : List Int) (b : List Int) : Option Bool :=
  bif decide (((a.length : Int) : Int) ≠ (b.length : Int)) then some false else upto (rT a b) wm 0 ((a.length : Int)).toNat ()
theorem wV (w0 : World) (M : BS) (hM : ∀ b, M b → b < w0.heap.size) (va : Value) (a : List Int) (ha : gB eY w0 BE M va a) (vb : Value) (b : List Int) (hb : gB eY w0 BE M vb b) (r : Bool) (hs : slices_Equal_int a b = some r) :
    Calls Tryz.prog 18 #[va, vb] w0 (fun e w' => Grow w0 w' ∧ e = .returned (.bool r)) := by
 refine aQ (args := [va, vb]) Tryz.func18 rfl Tryz.ntmps18 (bD rfl) ?_
 have h := SH.init hM
 replace h := h.fE 1 ha bA
 replace h := h.fE 2 hb (bN bA)
 have uU := ha.bT
 have ML := hb.bT
 refine nG (aa (ae (v := (.bool (false))) rfl) (nK (aa (ah (v := va) rfl) (aa (bM bZ rfl (h.gV 1 rfl)) (aa (ah (v := vb) rfl) (aa (bM bZ rfl (h.gV 2 rfl)) (aa (gM rfl rfl) (nN (aI hs rfl (fun c1 hs => ?_) (fun c1 hs => ?_))))))))))
 refine nG (aa (ae (v := (.bool (false))) rfl) (nR (ay (bR (v := (.bool (false))) Tryz.results18 rfl ?_))))
 obtain rfl := fM hs
 exact ⟨h.grown, rfl⟩
 refine aH (ak (aM (nG (aa (ah (v := va) rfl) (aa (bM bZ rfl (h.gV 1 rfl)) (aa (ah (v := (I6 0)) rfl) (nN (aN ?_))))))))
 have hli3 := (h.gV 1 rfl).bT
 refine gD (σ := Nat × Int) (inl ([4, 5] ++ rg 13 13)) (fun ⟨k2, i3⟩ => [(13, (I6 i3))]) (fun ⟨k2, i3⟩ w => SH w0 M BE w (hset [(1, .sr eY va a), (2, .sr eY vb b)]) ∧ i3 = (k2 : Int) ∧ upto (rT a b) wm i3 (((a.length : Int)).toNat - k2) () = some r) (fun ⟨k2, i3⟩ => ((a.length : Int)).toNat - k2) ⟨0, 0⟩ ⟨rfl, trivial⟩ ?_ ?_
 exact ⟨h.cn _, rfl, hs⟩
 rintro ⟨k2, i3⟩ w dR ⟨h, hik, hs⟩
 refine nG ?_
 refine aa (eO rfl rfl) (nN ?_)
 refine aM (gQ rfl (fun e7 => ?_) (fun e7 => ?_))
 refine aH (ak ?_)
 rw [sW (by have := oD e7; omega)] at hs
 generalize G6 : upto (rT a b) wm (i3 + 1) (((a.length : Int)).toNat - (k2 + 1)) = G5 at hs
 have Ug : kJ (i3 + 1) := (by have := oD e7; have := hli3; exact kJ.mk (by omega) (by omega))
 refine aM (aN (nG (aa (ah (v := (I6 i3)) rfl) (aa (ae (v := (I6 i3)) rfl) (nN (aM (uS mixed (by kernel_rfl) h fun w h => aG (ah (v := va) rfl) (aG (ah (v := (I6 i3)) rfl) ?_))))))))
 obtain ⟨x9, e10, hs⟩ := aL hs
 obtain ⟨b12, o13, cs14, h, r15, i11⟩ := h.xI 1 3 rfl bZ rfl (aC e10).1 (aC e10).2
 obtain rfl := r15
 refine aG (i11 _ _ _ _ _ _ _ _ _ rfl rfl) (aG (fo (k := 0) h 3 rfl aR rfl rfl) (aG (ah (v := vb) rfl) (aG (ah (v := (I6 i3)) rfl) ?_)))
 obtain ⟨rR, e17, hs⟩ := aL hs
 obtain ⟨b19, o20, cs21, h, r22, i18⟩ := h.xI 2 4 rfl bZ rfl (aC e17).1 (aC e17).2
 obtain rfl := r22
 refine aG (i18 _ _ _ _ _ _ _ _ _ rfl rfl) (aG (fo (k := 0) h 4 rfl aR rfl rfl) (aG (gM rfl rfl) (uy (ak (aI hs rfl (fun c23 hs => ?_) (fun c23 hs => ?_))))))
 refine nG (aa (ae (v := (.bool (false))) rfl) (nR (aB (ay (ay (aB (ay (bR (v := (.bool (false))) Tryz.results18 rfl ?_))))))))
 obtain rfl := fM hs
 exact ⟨h.grown, rfl⟩
 refine aH (ax (ak (aD (aa (dQ rfl rfl Ug) (aa (ah (v := (I6 ((i3 + 1)))) rfl) (aA (au ?_)))))))
 subst G6
 exact jM ⟨k2 + 1, i3 + 1⟩ ⟨h.cn _, by omega, hs⟩ (by have := oD e7; dsimp only; omega)
 rw [sZ (by have := of_decide_eq_false e7; omega)] at hs
 refine nE (aa (ae (v := (.bool (true))) rfl) (nR (bR (v := (.bool (true))) Tryz.results18 rfl ?_)))
 obtain rfl := fM hs
 exact ⟨h.grown, rfl⟩
def wL (N : Nat) : Option Bool :=
  (oo N).bind fun y1 => (Ce N y1).bind fun y7 => (M0 y7).bind fun y13 => (Ia N y7 y13.1 100).bind fun y21 => (Ji y7 y21.1).bind fun y31 => (Ia N y7 y31.1 1).bind fun y38 => (Ia N y7 y38.1 100).bind fun qj => bif ((((decide ((y13.2 : Int) = 0) && decide ((y21.2.2.2 : Int) = 0)) && decide ((y31.2 : Int) = 0)) && decide ((y38.2.2.2 : Int) = 0)) && decide ((qj.2.2.2 : Int) = 0)) then (slices_Equal_int y21.2.1 [9]).bind fun y61 => bif ((y61 && decide (((y38.2.1.length : Int) : Int) = 0)) && decide ((y38.2.2.1 : Int) = 1)) then (slices_Equal_int qj.2.1 [4]).bind fun N8 => bif N8 then (Bi y7 y38.1).bind fun BP => some (decide ((BP : Int) = 0)) else some false else some false else some false
theorem Jj (N : Nat) (w0 : World) (M : BS) (hM : ∀ b, M b → b < w0.heap.size) (hT : zo Tryz.prog 4 w0)  (r : Bool) (hs : wL N = some r) :
    Calls Tryz.prog 26 #[] w0 (fun e w' => Grow w0 w' ∧ e = .returned (.bool r)) := by
 refine aQ (args := []) Tryz.func26 rfl Tryz.ntmps26 (bD rfl) ?_
 have h := SH.init hM
 refine nG (aa (ae (v := (.bool (false))) rfl) (nJ ?_))
 obtain ⟨y1, e2, hs⟩ := aL hs
 refine aW fnOk40 rfl rfl (EL N _ _ h.lt (hT.go h.keep)  _ e2) ?_
 rintro _ w ⟨k6, u3, rfl, g4, g5⟩
 refine ⟨_, rfl, ?_⟩
 replace h := h.nz 1 k6 g4 g5
 obtain ⟨y7, e8, hs⟩ := aL hs
 refine aW fnOk39 rfl rfl (GD N _ _ h.lt u3 y1 (h.eT 1 rfl) _ e8) ?_
 rintro _ w ⟨k12, u9, rfl, g10, g11⟩
 refine ⟨_, rfl, ?_⟩
 replace h := h.nz 2 k12 g10 g11
 refine aa (ae (v := u9) rfl) (nJ (aa (ah (v := u9) rfl) ?_))
 obtain ⟨y13, e14, hs⟩ := aL hs
 refine aW ZK rfl rfl (R3 _ _ h.lt u9 y7 (h.eT 2 rfl) _ e14) ?_
 rintro _ w ⟨k19, zA, EF, rfl, g16, g18⟩
 refine ⟨_, rfl, ?_⟩
 replace h := h.KX 3 k19 g16
 replace h := h.dh 4 g18.up
 refine aa (ah (v := (.tuple #[(.agg #[zA, EF, (I6 y13.1.status), (I6 y13.1.aK)]), (I6 y13.2)])) rfl) (aa (bg rfl rfl) (aa (bg rfl rfl) (bI h 5 bC fun w b20 h => dK (vs := [zA, EF, (I6 y13.1.status), (I6 y13.1.aK)]) h 5 [zA, EF, (I6 y13.1.status), (I6 y13.1.aK)] rfl bC rfl rfl rfl rfl rfl (ai (h.iN 3 rfl).one (ai (h.iN 4 rfl).one (ai rfl (ai rfl aS)))) fun w h => aa (ae (v := (I6 y13.2)) rfl) (nJ (aa (ah (v := u9) rfl) (aa (bU (vs := [zA, EF, (I6 y13.1.status), (I6 y13.1.aK)]) h 5 rfl bC rfl rfl rfl) ?_))))))
 replace h := h.freeze 2 rfl
 obtain ⟨y21, e22, hs⟩ := aL hs
 refine aW Qp rfl rfl (Jh N _ _ h.lt u9 y7 (h.iN 2 rfl) y13.1 zA EF (h.kL 3 rfl) (h.kL 4 rfl) 100 _ e22) ?_
 rintro _ w ⟨k30, u23, u25, u27, rfl, g24, g26, g28, g29⟩
 refine ⟨_, rfl, ?_⟩
 replace h := h.nz 8 k30 g28 g29
 replace h := h.dh 6 g24.upO
 replace h := h.dh 7 g26.upO.up
 refine aa (ah (v := (.tuple #[(.agg #[u23, u25, (I6 y21.1.status), (I6 y21.1.aK)]), u27, (I6 y21.2.2.1), (I6 y21.2.2.2)])) rfl) (aa (bg rfl rfl) (aa (bg rfl rfl) (aa (bg rfl rfl) (aa (bg rfl rfl) (dK (vs := [u23, u25, (I6 y21.1.status), (I6 y21.1.aK)]) h 5 [u23, u25, (I6 y21.1.status), (I6 y21.1.aK)] rfl bC rfl rfl rfl rfl rfl (ai (h.iN 6 rfl).one (ai (h.iN 7 rfl).one (ai rfl (ai rfl aS)))) fun w h => aa (ae (v := u27) rfl) (aa (ae (v := (I6 y21.2.2.1)) rfl) (aa (ae (v := (I6 y21.2.2.2)) rfl) (nJ (aa (ah (v := u9) rfl) (aa (bU (vs := [u23, u25, (I6 y21.1.status), (I6 y21.1.aK)]) h 5 rfl bC rfl rfl rfl) ?_))))))))))
 obtain ⟨y31, e32, hs⟩ := aL hs
 refine aW ZL rfl rfl (Pk _ _ h.lt u9 y7 (h.kL 2 rfl) y21.1 u23 u25 (h.kL 6 rfl) (h.kL 7 rfl) _ e32) ?_
 rintro _ w ⟨k37, u33, u35, rfl, g34, g36⟩
 refine ⟨_, rfl, ?_⟩
 replace h := h.KX 9 k37 g34
 replace h := h.dh 10 g36.up
 refine aa (ah (v := (.tuple #[(.agg #[u33, u35, (I6 y31.1.status), (I6 y31.1.aK)]), (I6 y31.2)])) rfl) (aa (bg rfl rfl) (aa (bg rfl rfl) (dK (vs := [u33, u35, (I6 y31.1.status), (I6 y31.1.aK)]) h 5 [u33, u35, (I6 y31.1.status), (I6 y31.1.aK)] rfl bC rfl rfl rfl rfl rfl (ai (h.iN 9 rfl).one (ai (h.iN 10 rfl).one (ai rfl (ai rfl aS)))) fun w h => aa (ae (v := (I6 y31.2)) rfl) (nJ (aa (ah (v := u9) rfl) (aa (bU (vs := [u33, u35, (I6 y31.1.status), (I6 y31.1.aK)]) h 5 rfl bC rfl rfl rfl) ?_))))))
 obtain ⟨y38, e39, hs⟩ := aL hs
 refine aW Qp rfl rfl (Jh N _ _ h.lt u9 y7 (h.iN 2 rfl) y31.1 u33 u35 (h.kL 9 rfl) (h.kL 10 rfl) 1 _ e39) ?_
 rintro _ w ⟨k47, u40, u42, u44, rfl, g41, g43, g45, g46⟩
 refine ⟨_, rfl, ?_⟩
 replace h := h.nz 13 k47 g45 g46
 replace h := h.dh 11 g41.upO
 replace h := h.dh 12 g43.upO.up
 refine aa (ah (v := (.tuple #[(.agg #[u40, u42, (I6 y38.1.status), (I6 y38.1.aK)]), u44, (I6 y38.2.2.1), (I6 y38.2.2.2)])) rfl) (aa (bg rfl rfl) (aa (bg rfl rfl) (aa (bg rfl rfl) (aa (bg rfl rfl) (dK (vs := [u40, u42, (I6 y38.1.status), (I6 y38.1.aK)]) h 5 [u40, u42, (I6 y38.1.status), (I6 y38.1.aK)] rfl bC rfl rfl rfl rfl rfl (ai (h.iN 11 rfl).one (ai (h.iN 12 rfl).one (ai rfl (ai rfl aS)))) fun w h => aa (ae (v := u44) rfl) (aa (ae (v := (I6 y38.2.2.1)) rfl) (aa (ae (v := (I6 y38.2.2.2)) rfl) (nJ (aa (ah (v := u9) rfl) (aa (bU (vs := [u40, u42, (I6 y38.1.status), (I6 y38.1.aK)]) h 5 rfl bC rfl rfl rfl) ?_))))))))))
 obtain ⟨qj, e49, hs⟩ := aL hs
 refine aW Qp rfl rfl (Jh N _ _ h.lt u9 y7 (h.iN 2 rfl) y38.1 u40 u42 (h.kL 11 rfl) (h.kL 12 rfl) 100 _ e49) ?_
 rintro _ w ⟨k57, u50, u52, u54, rfl, g51, g53, g55, g56⟩
 refine ⟨_, rfl, ?_⟩
 replace h := h.nz 16 k57 g55 g56
 replace h := h.dh 14 g51.upO
 replace h := h.dh 15 g53.upO.up
 refine aa (ah (v := (.tuple #[(.agg #[u50, u52, (I6 qj.1.status), (I6 qj.1.aK)]), u54, (I6 qj.2.2.1), (I6 qj.2.2.2)])) rfl) (aa (bg rfl rfl) (aa (bg rfl rfl) (aa (bg rfl rfl) (aa (bg rfl rfl) (bI h 17 bC fun w b58 h => dK (vs := [u50, u52, (I6 qj.1.status), (I6 qj.1.aK)]) h 17 [u50, u52, (I6 qj.1.status), (I6 qj.1.aK)] rfl bC rfl rfl rfl rfl rfl (ai (h.iN 14 rfl).one (ai (h.iN 15 rfl).one (ai rfl (ai rfl aS)))) fun w h => aa (ae (v := u54) rfl) (aa (ae (v := (I6 qj.2.2.1)) rfl) (aa (ae (v := (I6 qj.2.2.2)) rfl) (nJ (aa (ah (v := (I6 y13.2)) rfl) (aa (bu rfl rfl) (aa (ah (v := (.bool (decide ((y13.2 : Int) = 0)))) rfl) (aF rfl rfl (fun q => ah (v := (I6 y21.2.2.2)) rfl) (aF rfl rfl (fun q => bu (eu q) rfl) (aa (fZ rfl rfl mY) (aa (ah (v := (.bool ((decide ((y13.2 : Int) = 0) && decide ((y21.2.2.2 : Int) = 0))))) rfl) (aF rfl rfl (fun q => ah (v := (I6 y31.2)) rfl) (aF rfl rfl (fun q => bu (eu q) rfl) (aa (fZ rfl rfl mY) ?_))))))))))))))))))
 refine aa (ah (v := (.bool (((decide ((y13.2 : Int) = 0) && decide ((y21.2.2.2 : Int) = 0)) && decide ((y31.2 : Int) = 0))))) rfl) (aF rfl rfl (fun q => ah (v := (I6 y38.2.2.2)) rfl) (aF rfl rfl (fun q => bu (eu q) rfl) (aa (fZ rfl rfl mY) (aa (ah (v := (.bool ((((decide ((y13.2 : Int) = 0) && decide ((y21.2.2.2 : Int) = 0)) && decide ((y31.2 : Int) = 0)) && decide ((y38.2.2.2 : Int) = 0))))) rfl) (aF rfl rfl (fun q => ah (v := (I6 qj.2.2.2)) rfl) (aF rfl rfl (fun q => bu (eu q) rfl) (aa (fZ rfl rfl mY) (aa (ah (v := (.bool (((((decide ((y13.2 : Int) = 0) && decide ((y21.2.2.2 : Int) = 0)) && decide ((y31.2 : Int) = 0)) && decide ((y38.2.2.2 : Int) = 0)) && decide ((qj.2.2.2 : Int) = 0))))) rfl) (gT (b := ((((decide ((y13.2 : Int) = 0) && decide ((y21.2.2.2 : Int) = 0)) && decide ((y31.2 : Int) = 0)) && decide ((y38.2.2.2 : Int) = 0)) && decide ((qj.2.2.2 : Int) = 0))) hs (fun c59 hs => ?_) (fun c59 hs => ?_))))))))))
 refine cz rfl (cB c59) (aa (ah (v := u27) rfl) (cz rfl (cB c59) (sV (R := eY) (vs := [(I6 9)]) (xs := [9]) h 18 kI rfl rfl rfl ⟨rfl, trivial⟩ rfl fun w u60 h => cz rfl (cB c59) ?_)))
 obtain ⟨y61, e62, hs⟩ := aL hs
 refine aW Ua rfl rfl (wV _ _ h.lt u27 y21.2.1 (h.eT 8 rfl) u60 [9] (h.eT 18 rfl) _ e62) ?_
 rintro _ w ⟨k63, rfl⟩
 refine ⟨_, rfl, ?_⟩
 replace h := h.grow k63
 refine aa (bY (b := true) (v := (.bool (y61))) (cB c59) rfl) (aa (ah (v := (.bool (y61))) rfl) (aF rfl rfl (fun q => ah (v := u44) rfl) (aF rfl rfl (fun q => bM bZ (eu q) (h.eT 13 rfl)) (aF rfl rfl (fun q => bu (eu q) rfl) (aa (fZ rfl rfl mY) (aa (ah (v := (.bool ((y61 && decide (((y38.2.1.length : Int) : Int) = 0))))) rfl) (aF rfl rfl (fun q => ah (v := (I6 y38.2.2.1)) rfl) (aF rfl rfl (fun q => bu (eu q) rfl) (aa (fZ rfl rfl mY) (aa (ah (v := (.bool (((y61 && decide (((y38.2.1.length : Int) : Int) = 0)) && decide ((y38.2.2.1 : Int) = 1))))) rfl) (gT (b := ((y61 && decide (((y38.2.1.length : Int) : Int) = 0)) && decide ((y38.2.2.1 : Int) = 1))) hs (fun c64 hs => ?_) (fun c64 hs => ?_))))))))))))
 refine cz rfl (cB c64) (aa (ah (v := u54) rfl) (cz rfl (cB c64) (sV (R := eY) (vs := [(I6 4)]) (xs := [4]) h 19 kI rfl rfl rfl ⟨rfl, trivial⟩ rfl fun w u65 h => cz rfl (cB c64) ?_)))
 obtain ⟨N8, e67, hs⟩ := aL hs
 refine aW Ua rfl rfl (wV _ _ h.lt u54 qj.2.1 (h.eT 16 rfl) u65 [4] (h.eT 19 rfl) _ e67) ?_
 rintro _ w ⟨k68, rfl⟩
 refine ⟨_, rfl, ?_⟩
 replace h := h.grow k68
 refine aa (bY (b := true) (v := (.bool (N8))) (cB c64) rfl) (aa (ah (v := (.bool (N8))) rfl) (gT (b := N8) hs (fun Xy hs => ?_) (fun Xy hs => ?_)))
 refine cz rfl (cB Xy) (aa (ah (v := u9) rfl) (cz rfl (cB Xy) (aa (bU (vs := [u40, u42, (I6 y38.1.status), (I6 y38.1.aK)]) h 5 rfl bC rfl rfl rfl) (cz rfl (cB Xy) ?_))))
 obtain ⟨BP, TG, hs⟩ := aL hs
 refine aW Qo rfl rfl (Em _ _ h.lt u9 y7 (h.kL 2 rfl) y38.1 u40 u42 (h.kL 11 rfl) (h.kL 12 rfl) _ TG) ?_
 rintro _ w ⟨k72, rfl⟩
 refine ⟨_, rfl, ?_⟩
 replace h := h.grow k72
 refine cz rfl (cB Xy) (aa (bu rfl rfl) (aa (bY (b := true) (v := (.bool (decide ((BP : Int) = 0)))) (cB Xy) rfl) (aa (ae (v := (.bool (decide ((BP : Int) = 0)))) rfl) (nR (bR (v := (.bool (decide ((BP : Int) = 0)))) Tryz.results26 rfl ?_)))))
 obtain rfl := fM hs
 exact ⟨h.grown, rfl⟩
 refine mO rfl (cB Xy) rfl (mO rfl (cB Xy) rfl (mO rfl (cB Xy) rfl (mO rfl (cB Xy) rfl (aa (bY (b := false) (v := (.bool (false))) (cB Xy) rfl) (aa (ae (v := (.bool (false))) rfl) (nR (bR (v := (.bool (false))) Tryz.results26 rfl ?_)))))))
 obtain rfl := fM hs
 exact ⟨h.grown, rfl⟩
 refine mO rfl (cB c64) rfl (mO rfl (cB c64) rfl (mO rfl (cB c64) rfl (aa (bY (b := false) (v := (.bool (false))) (cB c64) rfl) (aa (ah (v := (.bool (false))) rfl) (fK (b' := false) rfl rfl rfl (fK (b' := false) rfl rfl rfl (fK (b' := false) rfl rfl rfl (fK (b' := false) rfl rfl rfl (aa (bY (b := false) (v := (.bool (false))) rfl rfl) (aa (ae (v := (.bool (false))) rfl) (nR (bR (v := (.bool (false))) Tryz.results26 rfl ?_))))))))))))
 obtain rfl := fM hs
 exact ⟨h.grown, rfl⟩
 refine mO rfl (cB c59) rfl (mO rfl (cB c59) rfl (mO rfl (cB c59) rfl (aa (bY (b := false) (v := (.bool (false))) (cB c59) rfl) (aa (ah (v := (.bool (false))) rfl) (fK (b' := false) rfl rfl rfl (fK (b' := false) rfl rfl rfl (fK (b' := false) rfl rfl rfl (aa (bY (b := false) (v := (.bool (false))) rfl rfl) (aa (ah (v := (.bool (false))) rfl) (fK (b' := false) rfl rfl rfl (fK (b' := false) rfl rfl rfl (aa (bY (b := false) (v := (.bool (false))) rfl rfl) (aa (ah (v := (.bool (false))) rfl) (fK (b' := false) rfl rfl rfl (fK (b' := false) rfl rfl rfl (fK (b' := false) rfl rfl rfl (aa (bY (b := false) (v := (.bool (false))) rfl rfl) (aa (ah (v := (.bool (false))) rfl) (fK (b' := false) rfl rfl rfl (fK (b' := false) rfl rfl rfl (fK (b' := false) rfl rfl rfl (fK (b' := false) rfl rfl rfl (aa (bY (b := false) (v := (.bool (false))) rfl rfl) ?_)))))))))))))))))))))))
 refine aa (ae (v := (.bool (false))) rfl) (nR (bR (v := (.bool (false))) Tryz.results26 rfl ?_))
 obtain rfl := fM hs
 exact ⟨h.grown, rfl⟩
def qm (a : List Val) (b : List Val) (i3 : Int) (s : Unit) (G5 : Unit → Option Bool) : Option Bool :=
  (idx a i3).bind fun x9 => (idx b i3).bind fun rR => bif !(decide (x9.kind = rR.kind) && decide (x9.n = rR.n)) then some false else G5 ()
def uF (s : Unit) : Option Bool :=
  some true
def ky (a : List Val) (b : List Val) : Option Bool :=
  bif decide (((a.length : Int) : Int) ≠ (b.length : Int)) then some false else upto (qm a b) uF 0 ((a.length : Int)).toNat ()
theorem rq (w0 : World) (M : BS) (hM : ∀ b, M b → b < w0.heap.size) (va : Value) (a : List Val) (ha : gB bz w0 BE M va a) (vb : Value) (b : List Val) (hb : gB bz w0 BE M vb b) (r : Bool) (hs : ky a b = some r) :
    Calls Tryz.prog 47 #[va, vb] w0 (fun e w' => Grow w0 w' ∧ e = .returned (.bool r)) := by
 refine aQ (args := [va, vb]) Tryz.func47 rfl Tryz.ntmps47 (bD rfl) ?_
 have h := SH.init hM
 replace h := h.fE 1 ha bA
 replace h := h.fE 2 hb (bN bA)
 have uU := ha.bT
 have ML := hb.bT
 refine nG (aa (ae (v := (.bool (false))) rfl) (nK (aa (ah (v := va) rfl) (aa (bM aZ rfl (h.gV 1 rfl)) (aa (ah (v := vb) rfl) (aa (bM aZ rfl (h.gV 2 rfl)) (aa (gM rfl rfl) (nN (aI hs rfl (fun c1 hs => ?_) (fun c1 hs => ?_))))))))))
 refine nG (aa (ae (v := (.bool (false))) rfl) (nR (ay (bR (v := (.bool (false))) Tryz.results47 rfl ?_))))
 obtain rfl := fM hs
 exact ⟨h.grown, rfl⟩
 refine aH (ak (aM (nG (aa (ah (v := va) rfl) (aa (bM aZ rfl (h.gV 1 rfl)) (aa (ah (v := (I6 0)) rfl) (nN (aN ?_))))))))
 have hli3 := (h.gV 1 rfl).bT
 refine gD (σ := Nat × Int) (inl ([4, 5] ++ rg 13 13)) (fun ⟨k2, i3⟩ => [(13, (I6 i3))]) (fun ⟨k2, i3⟩ w => SH w0 M BE w (hset [(1, .sr bz va a), (2, .sr bz vb b)]) ∧ i3 = (k2 : Int) ∧ upto (qm a b) uF i3 (((a.length : Int)).toNat - k2) () = some r) (fun ⟨k2, i3⟩ => ((a.length : Int)).toNat - k2) ⟨0, 0⟩ ⟨rfl, trivial⟩ ?_ ?_
 exact ⟨h.cn _, rfl, hs⟩
 rintro ⟨k2, i3⟩ w dR ⟨h, hik, hs⟩
 refine nG ?_
 refine aa (eO rfl rfl) (nN ?_)
 refine aM (gQ rfl (fun e7 => ?_) (fun e7 => ?_))
 refine aH (ak ?_)
 rw [sW (by have := oD e7; omega)] at hs
 generalize G6 : upto (qm a b) uF (i3 + 1) (((a.length : Int)).toNat - (k2 + 1)) = G5 at hs
 have Ug : kJ (i3 + 1) := (by have := oD e7; have := hli3; exact kJ.mk (by omega) (by omega))
 refine aM (aN (nG (aa (ah (v := (I6 i3)) rfl) (aa (ae (v := (I6 i3)) rfl) (nN (aM (uS mixed (by kernel_rfl) h fun w h => aG (ah (v := va) rfl) (aG (ah (v := (I6 i3)) rfl) ?_))))))))
 obtain ⟨x9, e10, hs⟩ := aL hs
 obtain ⟨b12, o13, cs14, h, r15, i11⟩ := h.xI 1 3 rfl aZ rfl (aC e10).1 (aC e10).2
 obtain rfl := r15
 refine aG (i11 _ _ _ _ _ _ _ _ _ rfl rfl) (aG (jc (k := 0) (vs := [(I6 x9.kind), (I6 x9.n)]) h 3 rfl aY rfl rfl rfl (bD rfl)) (aG (ah (v := vb) rfl) (aG (ah (v := (I6 i3)) rfl) ?_)))
 obtain ⟨rR, e17, hs⟩ := aL hs
 obtain ⟨b19, o20, cs21, h, r22, i18⟩ := h.xI 2 4 rfl aZ rfl (aC e17).1 (aC e17).2
 obtain rfl := r22
 refine aG (i18 _ _ _ _ _ _ _ _ _ rfl rfl) (aG (jc (k := 0) (vs := [(I6 rR.kind), (I6 rR.n)]) h 4 rfl aY rfl rfl rfl (bD rfl)) (aG (r_neqP Qu rfl rfl) (uy (ak (aI hs rfl (fun c23 hs => ?_) (fun c23 hs => ?_))))))
 refine nG (aa (ae (v := (.bool (false))) rfl) (nR (aB (ay (ay (aB (ay (bR (v := (.bool (false))) Tryz.results47 rfl ?_))))))))
 obtain rfl := fM hs
 exact ⟨h.grown, rfl⟩
 refine aH (ax (ak (aD (aa (dQ rfl rfl Ug) (aa (ah (v := (I6 ((i3 + 1)))) rfl) (aA (au ?_)))))))
 subst G6
 exact jM ⟨k2 + 1, i3 + 1⟩ ⟨h.cn _, by omega, hs⟩ (by have := oD e7; dsimp only; omega)
 rw [sZ (by have := of_decide_eq_false e7; omega)] at hs
 refine nE (aa (ae (v := (.bool (true))) rfl) (nR (bR (v := (.bool (true))) Tryz.results47 rfl ?_)))
 obtain rfl := fM hs
 exact ⟨h.grown, rfl⟩
def AP (b : List (List Val)) (i3 : Int) (x4 : List Val) (s : Unit) (G5 : Unit → Option Bool) : Option Bool :=
  (idx b i3).bind fun rR => (ky x4 rR).bind fun y25 => bif (!y25) then some false else G5 ()
def Eu (s : Unit) : Option Bool :=
  some true
def Gs (a : List (List Val)) (b : List (List Val)) : Option Bool :=
  bif decide (((a.length : Int) : Int) ≠ (b.length : Int)) then some false else dZ (AP b) Eu 0 a ()
theorem Sn (w0 : World) (M : BS) (hM : ∀ b, M b → b < w0.heap.size) (va : Value) (a : List (List Val)) (ha : gB (l9 bz) w0 BE M va a) (vb : Value) (b : List (List Val)) (hb : gB (l9 bz) w0 BE M vb b) (r : Bool) (hs : Gs a b = some r) :
    Calls Tryz.prog 44 #[va, vb] w0 (fun e w' => Grow w0 w' ∧ e = .returned (.bool r)) := by
 refine aQ (args := [va, vb]) Tryz.func44 rfl Tryz.ntmps44 (bD rfl) ?_
 have h := SH.init hM
 replace h := h.fE 1 ha bA
 replace h := h.fE 2 hb (bN bA)
 have uU := ha.bT
 have ML := hb.bT
 refine nG (aa (ae (v := (.bool (false))) rfl) (nJ (aa (ah (v := va) rfl) (aa (ah (v := vb) rfl) (jY (args := [va, vb, (.func (.func 79) #[] #[])]) fnOk78 rfl rfl (aQ (args := [va, vb, (.func (.func 79) #[] #[])]) Tryz.func78 rfl Tryz.ntmps78 (bD rfl) (nG (aa (ae (v := (.bool (false))) rfl) (nK (aa (ah (v := va) rfl) (aa (bM dV rfl (h.gV 1 rfl)) (aa (ah (v := vb) rfl) (aa (bM dV rfl (h.gV 2 rfl)) (aa (gM rfl rfl) ?_))))))))))))))
 refine nN (aI hs rfl (fun c1 hs => ?_) (fun c1 hs => ?_))
 refine nG (aa (ae (v := (.bool (false))) rfl) (nR (ay (bR (v := (.bool (false))) Tryz.results78 rfl (⟨_, rfl, ?_⟩)))))
 refine aa (ae (v := (.bool (false))) rfl) (nR (bR (v := (.bool (false))) Tryz.results44 rfl ?_))
 obtain rfl := fM hs
 exact ⟨h.grown, rfl⟩
 refine aH (ak (aM (nG (aa (ah (v := va) rfl) (aa (bM dV rfl (h.gV 1 rfl)) (aa (ah (v := (I6 0)) rfl) (nN (aN (gD (σ := Nat × Int) (inl ([6, 7, 8, 9] ++ rg 17 15)) (fun ⟨k2, i3⟩ => [(17, (I6 i3))]) (fun ⟨k2, i3⟩ w => SH w0 M BE w (hset [(1, .sr (l9 bz) va a), (2, .sr (l9 bz) vb b)]) ∧ i3 = (k2 : Int) ∧ dZ (AP b) Eu i3 (a.drop k2) () = some r) (fun ⟨k2, i3⟩ => a.length - k2) ⟨0, 0⟩ ⟨rfl, trivial⟩ ?_ ?_)))))))))
 exact ⟨h.cn _, rfl, hs⟩
 rintro ⟨k2, i3⟩ w dR ⟨h, hik, hs⟩
 refine nG ?_
 refine aa (eO rfl rfl) (nN ?_)
 refine aM (gQ rfl (fun e7 => ?_) (fun e7 => ?_))
 refine aH (ak ?_)
 obtain ⟨x4, e8a, e8b⟩ := fG (hik ▸ e7)
 rw [e8b, iQ] at hs
 generalize G6 : dZ (AP b) Eu (i3 + 1) (a.drop (k2 + 1)) = G5 at hs
 have Ug := fJ ((h.gV 1 rfl)).bT hik e7
 refine aM (aN (nG (aa (ah (v := (I6 i3)) rfl) ?_)))
 obtain ⟨b10, o11, cs12, h, r13, i9⟩ := h.xI 1 3 rfl dV rfl (ig hik) (fI hik e8a)
 obtain ⟨Lu, rfl, g15⟩ := r13
 replace h := h.dh 4 g15.up
 refine aa (i9 _ _ _ _ _ _ _ _ _ rfl rfl) (aa (fo (k := 0) h 3 rfl jH rfl rfl) (aa (ae (v := (I6 i3)) rfl) (aa (ae (v := Lu) rfl) (nJ (aa (ah (v := vb) rfl) (aa (ah (v := (I6 i3)) rfl) ?_))))))
 obtain ⟨rR, e17, hs⟩ := aL hs
 obtain ⟨b19, o20, cs21, h, r22, i18⟩ := h.xI 2 5 rfl dV rfl (aC e17).1 (aC e17).2
 obtain ⟨u23, rfl, g24⟩ := r22
 replace h := h.dh 6 g24.up
 refine aa (i18 _ _ _ _ _ _ _ _ _ rfl rfl) (aa (fo (k := 0) h 5 rfl jH rfl rfl) (aa (ae (v := u23) rfl) (nJ (aa (ah (v := (.func (.func 79) #[] #[])) rfl) (aa (ah (v := Lu) rfl) (aa (ah (v := u23) rfl) (jY (args := [Lu, u23]) fnOk79 rfl rfl (aQ (args := [Lu, u23]) Tryz.func79 rfl Tryz.ntmps79 (bD rfl) (nG (aa (ae (v := (.bool (false))) rfl) (nJ (aa (ah (v := Lu) rfl) (aa (ah (v := u23) rfl) ?_)))))))))))))
 obtain ⟨y25, e26, hs⟩ := aL hs
 refine aW Qq rfl rfl (rq _ _ h.lt Lu x4 (h.kL 4 rfl) u23 rR (h.kL 6 rfl) _ e26) ?_
 rintro _ w ⟨k27, rfl⟩
 refine ⟨_, rfl, ?_⟩
 replace h := h.grow k27
 refine aa (ae (v := (.bool (y25))) rfl) (nR (bR (v := (.bool (y25))) Tryz.results79 rfl (⟨_, rfl, ?_⟩)))
 refine aa (fw rfl) (nN (aI hs rfl (fun c28 hs => ?_) (fun c28 hs => ?_)))
 refine nG (aa (ae (v := (.bool (false))) rfl) (nR (aB (ay (ay (aB (ay (bR (v := (.bool (false))) Tryz.results78 rfl (⟨_, rfl, ?_⟩)))))))))
 refine aa (ae (v := (.bool (false))) rfl) (nR (bR (v := (.bool (false))) Tryz.results44 rfl ?_))
 obtain rfl := fM hs
 exact ⟨h.grown, rfl⟩
 refine aH (ax (ak (aD (aa (dQ rfl rfl Ug) (aa (ah (v := (I6 ((i3 + 1)))) rfl) (aA (au ?_)))))))
 subst G6
 exact jM ⟨k2 + 1, i3 + 1⟩ ⟨h.cn _, by omega, hs⟩ (by have := oD e7; dsimp only; omega)
 rw [fH (hik ▸ e7), ll] at hs
 refine nE (aa (ae (v := (.bool (true))) rfl) (nR (bR (v := (.bool (true))) Tryz.results78 rfl (⟨_, rfl, ?_⟩))))
 refine aa (ae (v := (.bool (true))) rfl) (nR (bR (v := (.bool (true))) Tryz.results44 rfl ?_))
 obtain rfl := fM hs
 exact ⟨h.grown, rfl⟩
def xB (p8 : Unit → Option Bool) (x34 : Bool) : Option Bool :=
  bif x34 then some false else p8 ()
def Cf (b : LX.State) (i10 : Int) (fT : LX.Frame) (s : Unit) (p8 : Unit → Option Bool) : Option Bool :=
  (idx b.frames i10).bind fun x24 => bif ((decide ((fT.proc : Int) = x24.proc) && decide ((fT.at_ : Int) = x24.at_)) && decide ((fT.kD : Int) = x24.kD)) then (ky fT.regs x24.regs).bind fun y39 => xB p8 (!y39) else xB p8 true
def FH (s : Unit) : Option Bool :=
  some true
def Jk (a : LX.State) (b : LX.State) : Option Bool :=
  bif (decide ((a.status : Int) = b.status) && decide ((a.aK : Int) = b.aK)) then (Gs a.cells b.cells).bind fun y4 => bif y4 then bif decide (((a.frames.length : Int) : Int) ≠ (b.frames.length : Int)) then some false else dZ (Cf b) FH 0 a.frames () else some false else some false
theorem X4 (w0 : World) (M : BS) (hM : ∀ b, M b → b < w0.heap.size) (a : LX.State) (vP wF : Value) (ha0 : gB dL w0 BE M vP a.frames) (ha1 : gB (l9 bz) w0 BE M wF a.cells) (b : LX.State) (vb0 vb1 : Value) (hb0 : gB dL w0 BE M vb0 b.frames) (hb1 : gB (l9 bz) w0 BE M vb1 b.cells) (r : Bool) (hs : Jk a b = some r) :
    Calls Tryz.prog 19 #[(.agg #[vP, wF, (I6 a.status), (I6 a.aK)]), (.agg #[vb0, vb1, (I6 b.status), (I6 b.aK)])] w0 (fun e w' => Grow w0 w' ∧ e = .returned (.bool r)) := by
 refine aQ (args := [(.agg #[vP, wF, (I6 a.status), (I6 a.aK)]), (.agg #[vb0, vb1, (I6 b.status), (I6 b.aK)])]) Tryz.func19 rfl Tryz.ntmps19 (bD rfl) ?_
 have h := SH.init hM
 replace h := h.fE 1 ha0 bA
 replace h := h.fE 2 ha1 (bN bA)
 replace h := h.fE 3 hb0 (bN (bN bA))
 replace h := h.fE 4 hb1 (bN (bN (bN bA)))
 refine nG (kM (cs := [vP, wF, (I6 a.status), (I6 a.aK)]) h 5 rfl rfl fun w b1 h => kM (cs := [vb0, vb1, (I6 b.status), (I6 b.aK)]) h 6 rfl rfl fun w b2 h => aa (ae (v := (.bool (false))) rfl) (nJ (aa (ag kN rfl) (aa (az h 5 rfl aR rfl rfl) (aa (ag kN rfl) (aa (az h 6 rfl aR rfl rfl) (aa (bu rfl rfl) (aa (ah (v := (.bool (decide ((a.status : Int) = b.status)))) rfl) (aF rfl rfl (fun q => ag vJ rfl) (aF rfl rfl (fun q => az h 5 rfl aR (eu q) rfl) (aF rfl rfl (fun q => ag vJ rfl) (aF rfl rfl (fun q => az h 6 rfl aR (eu q) rfl) (aF rfl rfl (fun q => bu (eu q) (eu q)) (aa (fZ rfl rfl mY) (aa (ah (v := (.bool ((decide ((a.status : Int) = b.status) && decide ((a.aK : Int) = b.aK))))) rfl) (gT (b := (decide ((a.status : Int) = b.status) && decide ((a.aK : Int) = b.aK))) hs (fun c3 hs => ?_) (fun c3 hs => ?_)))))))))))))))))
 refine cz rfl (cB c3) (aa (ag gJ rfl) (cz rfl (cB c3) (aa (az h 5 rfl jQ rfl rfl) (cz rfl (cB c3) (aa (ag gJ rfl) (cz rfl (cB c3) (aa (az h 6 rfl jQ rfl rfl) (cz rfl (cB c3) ?_))))))))
 obtain ⟨y4, e5, hs⟩ := aL hs
 refine aW fnOk44 rfl rfl (Sn _ _ h.lt wF a.cells (h.gV 2 rfl) vb1 b.cells (h.gV 4 rfl) _ e5) ?_
 rintro _ w ⟨k6, rfl⟩
 refine ⟨_, rfl, ?_⟩
 replace h := h.grow k6
 refine aa (bY (b := true) (v := (.bool (y4))) (cB c3) rfl) (aa (ah (v := (.bool (y4))) rfl) (gT (b := y4) hs (fun c7 hs => ?_) (fun c7 hs => ?_)))
 refine cz rfl (cB c7) (aa (ag dP rfl) (cz rfl (cB c7) (aa (az h 5 rfl gL rfl rfl) (cz rfl (cB c7) (aa (ag dP rfl) (cz rfl (cB c7) (aa (az h 6 rfl gL rfl rfl) (cz rfl (cB c7) (jY (args := [vP, vb0, (.func (.func 46) #[] #[])]) ZN rfl rfl (aQ (args := [vP, vb0, (.func (.func 46) #[] #[])]) Tryz.func45 rfl Tryz.ntmps45 (bD rfl) (nG (aa (ae (v := (.bool (false))) rfl) (nK (aa (ah (v := vP) rfl) (aa (bM bV rfl (h.gV 1 rfl)) (aa (ah (v := vb0) rfl) (aa (bM bV rfl (h.gV 3 rfl)) (aa (gM rfl rfl) ?_))))))))))))))))))
 refine nN (aI hs rfl (fun c8 hs => ?_) (fun c8 hs => ?_))
 refine nG (aa (ae (v := (.bool (false))) rfl) (nR (ay (bR (v := (.bool (false))) Tryz.results45 rfl (⟨_, rfl, ?_⟩)))))
 refine aa (bY (b := true) (v := (.bool (false))) (cB c7) rfl) (aa (ae (v := (.bool (false))) rfl) (nR (bR (v := (.bool (false))) Tryz.results19 rfl ?_)))
 obtain rfl := fM hs
 exact ⟨h.grown, rfl⟩
 refine aH (ak (aM (nG (aa (ah (v := vP) rfl) (aa (bM bV rfl (h.gV 1 rfl)) (aa (ah (v := (I6 0)) rfl) (nN (aN (gD (σ := Nat × Int) (inl ([6, 7, 8, 9] ++ rg 17 15)) (fun ⟨k9, i10⟩ => [(17, (I6 i10))]) (fun ⟨k9, i10⟩ w => SH w0 M BE w (hset [(1, .sr dL vP a.frames), (3, .sr dL vb0 b.frames)]) ∧ i10 = (k9 : Int) ∧ dZ (Cf b) FH i10 (a.frames.drop k9) () = some r) (fun ⟨k9, i10⟩ => a.frames.length - k9) ⟨0, 0⟩ ⟨rfl, trivial⟩ ?_ ?_)))))))))
 exact ⟨h.cn _, rfl, hs⟩
 rintro ⟨k9, i10⟩ w dR ⟨h, hik, hs⟩
 refine nG ?_
 refine aa (eO rfl rfl) (nN ?_)
 refine aM (gQ rfl (fun e14 => ?_) (fun e14 => ?_))
 refine aH (ak ?_)
 obtain ⟨fT, Qx, Qy⟩ := fG (hik ▸ e14)
 rw [Qy, iQ] at hs
 generalize I5 : dZ (Cf b) FH (i10 + 1) (a.frames.drop (k9 + 1)) = p8 at hs
 have Qz := fJ ((h.gV 1 rfl)).bT hik e14
 refine aM (aN (nG (aa (ah (v := (I6 i10)) rfl) ?_)))
 obtain ⟨b17, o18, cs19, h, Xd, i16⟩ := h.xI 1 7 rfl bV rfl (ig hik) (fI hik Qx)
 obtain ⟨u21, rfl, g22⟩ := oQ Xd
 replace h := h.dh 8 g22.up
 refine aa (i16 _ _ _ _ _ _ _ _ _ rfl rfl) (aa (jc (k := 0) (vs := [(I6 fT.proc), (I6 fT.at_), u21, (I6 fT.kD)]) h 7 rfl gz rfl rfl rfl (bD rfl)) (bI h 9 gz fun w Gd h => aa (ae (v := (I6 i10)) rfl) (dK (vs := [(I6 fT.proc), (I6 fT.at_), u21, (I6 fT.kD)]) h 9 [(I6 fT.proc), (I6 fT.at_), u21, (I6 fT.kD)] rfl gz rfl rfl rfl rfl rfl (ai rfl (ai rfl (ai (h.iN 8 rfl).one (ai rfl aS)))) fun w h => nJ (aa (ah (v := vb0) rfl) (aa (ah (v := (I6 i10)) rfl) ?_)))))
 obtain ⟨x24, e25, hs⟩ := aL hs
 obtain ⟨b27, o28, cs29, h, r30, i26⟩ := h.xI 3 10 rfl bV rfl (aC e25).1 (aC e25).2
 obtain ⟨u31, rfl, g32⟩ := oQ r30
 replace h := h.dh 11 g32.up
 refine aa (i26 _ _ _ _ _ _ _ _ _ rfl rfl) (aa (jc (k := 0) (vs := [(I6 x24.proc), (I6 x24.at_), u31, (I6 x24.kD)]) h 10 rfl gz rfl rfl rfl (bD rfl)) (bI h 12 gz fun w b33 h => dK (vs := [(I6 x24.proc), (I6 x24.at_), u31, (I6 x24.kD)]) h 12 [(I6 x24.proc), (I6 x24.at_), u31, (I6 x24.kD)] rfl gz rfl rfl rfl rfl rfl (ai rfl (ai rfl (ai (h.iN 11 rfl).one (ai rfl aS)))) fun w h => nN (cu (σ := Bool) (inl [26, 27, 28, 29, 30]) (fun x34 => [(30, (.bool (x34)))]) (fun x34 w => SH w0 M BE w (hset [(1, .sr dL vP a.frames), (3, .sr dL vb0 b.frames)]) ∧ xB p8 x34 = some r) ?_ ?_)))
 rintro x34 w dR ⟨h, hs⟩
 refine aI hs rfl (fun c35 hs => ?_) (fun c35 hs => ?_)
 refine nG (aa (ae (v := (.bool (false))) rfl) (nR (aB (ay (ay (aB (ay (bR (v := (.bool (false))) Tryz.results45 rfl (⟨_, rfl, ?_⟩)))))))))
 refine aa (bY (b := true) (v := (.bool (false))) (cB c7) rfl) (aa (ae (v := (.bool (false))) rfl) (nR (bR (v := (.bool (false))) Tryz.results19 rfl ?_)))
 obtain rfl := fM hs
 exact ⟨h.grown, rfl⟩
 refine aH (ax (ak (aD (aa (dQ rfl rfl Qz) (aa (ah (v := (I6 ((i10 + 1)))) rfl) (aA (au ?_)))))))
 subst I5
 exact jM ⟨k9 + 1, i10 + 1⟩ ⟨h.cn _, by omega, hs⟩ (by have := oD e14; dsimp only; omega)
 refine aD (aa (ah (v := (.func (.func 46) #[] #[])) rfl) (aa (bU (vs := [(I6 fT.proc), (I6 fT.at_), u21, (I6 fT.kD)]) h 9 rfl gz rfl rfl rfl) (aa (bU (vs := [(I6 x24.proc), (I6 x24.at_), u31, (I6 x24.kD)]) h 12 rfl gz rfl rfl rfl) (jY (args := [(.agg #[(I6 fT.proc), (I6 fT.at_), u21, (I6 fT.kD)]), (.agg #[(I6 x24.proc), (I6 x24.at_), u31, (I6 x24.kD)])]) fnOk46 rfl rfl (aQ (args := [(.agg #[(I6 fT.proc), (I6 fT.at_), u21, (I6 fT.kD)]), (.agg #[(I6 x24.proc), (I6 x24.at_), u31, (I6 x24.kD)])]) Tryz.func46 rfl Tryz.ntmps46 (bD rfl) (nG (kM (cs := [(I6 fT.proc), (I6 fT.at_), u21, (I6 fT.kD)]) h 13 rfl rfl fun w b36 h => kM (cs := [(I6 x24.proc), (I6 x24.at_), u31, (I6 x24.kD)]) h 14 rfl rfl fun w b37 h => aa (ae (v := (.bool (false))) rfl) (nJ (aa (ag tq rfl) (aa (az h 13 rfl aR rfl rfl) (aa (ag tq rfl) (aa (az h 14 rfl aR rfl rfl) (aa (bu rfl rfl) (aa (ah (v := (.bool (decide ((fT.proc : Int) = x24.proc)))) rfl) (aF rfl rfl (fun q => ag nO rfl) (aF rfl rfl (fun q => az h 13 rfl aR (eu q) rfl) (aF rfl rfl (fun q => ag nO rfl) ?_)))))))))))))))))
 refine aF rfl rfl (fun q => az h 14 rfl aR (eu q) rfl) (aF rfl rfl (fun q => bu (eu q) (eu q)) (aa (fZ rfl rfl mY) (aa (ah (v := (.bool ((decide ((fT.proc : Int) = x24.proc) && decide ((fT.at_ : Int) = x24.at_))))) rfl) (aF rfl rfl (fun q => ag zg rfl) (aF rfl rfl (fun q => az h 13 rfl aR (eu q) rfl) (aF rfl rfl (fun q => ag zg rfl) (aF rfl rfl (fun q => az h 14 rfl aR (eu q) rfl) (aF rfl rfl (fun q => bu (eu q) (eu q)) (aa (fZ rfl rfl mY) (aa (ah (v := (.bool (((decide ((fT.proc : Int) = x24.proc) && decide ((fT.at_ : Int) = x24.at_)) && decide ((fT.kD : Int) = x24.kD))))) rfl) (gT (b := ((decide ((fT.proc : Int) = x24.proc) && decide ((fT.at_ : Int) = x24.at_)) && decide ((fT.kD : Int) = x24.kD))) hs (fun G7 hs => ?_) (fun G7 hs => ?_))))))))))))
 refine cz rfl (cB G7) (aa (ag jJ rfl) (cz rfl (cB G7) (aa (az h 13 rfl jH rfl rfl) (cz rfl (cB G7) (aa (ag jJ rfl) (cz rfl (cB G7) (aa (az h 14 rfl jH rfl rfl) (cz rfl (cB G7) ?_))))))))
 obtain ⟨y39, e40, hs⟩ := aL hs
 refine aW Qq rfl rfl (rq _ _ h.lt u21 fT.regs (h.kL 8 rfl) u31 x24.regs (h.kL 11 rfl) _ e40) ?_
 rintro _ w ⟨k41, rfl⟩
 refine ⟨_, rfl, ?_⟩
 replace h := h.grow k41
 refine aa (bY (b := true) (v := (.bool (y39))) (cB G7) rfl) (aa (ae (v := (.bool (y39))) rfl) (nR (bR (v := (.bool (y39))) Tryz.results46 rfl (⟨_, rfl, ?_⟩))))
 refine aa (fw rfl) (aA (au ?_))
 exact bS (!y39) ⟨h.cn _, hs⟩
 refine mO rfl (cB G7) rfl (mO rfl (cB G7) rfl (mO rfl (cB G7) rfl (mO rfl (cB G7) rfl (mO rfl (cB G7) rfl (aa (bY (b := false) (v := (.bool (false))) (cB G7) rfl) (aa (ae (v := (.bool (false))) rfl) (nR (bR (v := (.bool (false))) Tryz.results46 rfl (⟨_, rfl, ?_⟩)))))))))
 refine aa (fw rfl) (aA (au ?_))
 exact bS true ⟨h.cn _, hs⟩
 rw [fH (hik ▸ e14), ll] at hs
 refine nE (aa (ae (v := (.bool (true))) rfl) (nR (bR (v := (.bool (true))) Tryz.results45 rfl (⟨_, rfl, ?_⟩))))
 refine aa (bY (b := true) (v := (.bool (true))) (cB c7) rfl) (aa (ae (v := (.bool (true))) rfl) (nR (bR (v := (.bool (true))) Tryz.results19 rfl ?_)))
 obtain rfl := fM hs
 exact ⟨h.grown, rfl⟩
 refine mO rfl (cB c7) rfl (mO rfl (cB c7) rfl (mO rfl (cB c7) rfl (mO rfl (cB c7) rfl (mO rfl (cB c7) rfl (aa (bY (b := false) (v := (.bool (false))) (cB c7) rfl) (aa (ae (v := (.bool (false))) rfl) (nR (bR (v := (.bool (false))) Tryz.results19 rfl ?_))))))))
 obtain rfl := fM hs
 exact ⟨h.grown, rfl⟩
 refine mO rfl (cB c3) rfl (mO rfl (cB c3) rfl (mO rfl (cB c3) rfl (mO rfl (cB c3) rfl (mO rfl (cB c3) rfl (aa (bY (b := false) (v := (.bool (false))) (cB c3) rfl) (aa (ah (v := (.bool (false))) rfl) (fK (b' := false) rfl rfl rfl (fK (b' := false) rfl rfl rfl (fK (b' := false) rfl rfl rfl (fK (b' := false) rfl rfl rfl (fK (b' := false) rfl rfl rfl (aa (bY (b := false) (v := (.bool (false))) rfl rfl) (aa (ae (v := (.bool (false))) rfl) (nR (bR (v := (.bool (false))) Tryz.results19 rfl ?_)))))))))))))))
 obtain rfl := fM hs
 exact ⟨h.grown, rfl⟩
end
end Go.Proofs.YtfclkapelkhlpaaGreatDoor
