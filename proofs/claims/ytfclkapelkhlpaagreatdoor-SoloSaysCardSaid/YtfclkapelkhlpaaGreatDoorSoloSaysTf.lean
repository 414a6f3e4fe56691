/-
  What the law SoloSays needs of our own library and of the walks, no more.
-/
import Derived.Test.YtfclkapelkhlpaaGreatDoorProg
import Derived.Test.YtfclkapelkhlpaaGreatDoorSoloSaysTe
set_option linter.unusedSimpArgs false
set_option linter.unusedVariables false
set_option maxRecDepth 10000
namespace Go.Proofs.YtfclkapelkhlpaaGreatDoor
open Go Go.Proofs Go.LX
noncomputable section
theorem WN (N : Nat) (w0 : World) (M : BS) (hM : ∀ b, M b → b < w0.heap.size) (sb : Nat) (sx : LX.State) (gT vs1 : Value) (iH ig : List Value) (hC : Chunk.holds w0 M (Chunk.own' (cT sb gT vs1 (sx.status) (sx.aL) sx.frames iH sx.cells ig)) (cT sb gT vs1 (sx.status) (sx.aL) sx.frames iH sx.cells ig)) (hap : ∀ b, Chunk.own' (cT sb gT vs1 (sx.status) (sx.aL) sx.frames iH sx.cells ig) b → ¬ M b) (va : Value) (a : List bL) (ha : gX jk w0 (fun b => M b ∨ (cT sb gT vs1 (sx.status) (sx.aL) sx.frames iH sx.cells ig).own' b) va a) (r : Gu × Bool × LX.State) (hs : tq N sx a = some r) :
    Calls Tryz.prog 65 #[va, (.pointer (some ⟨sb, 0, none⟩))] w0 (fun e w' => aP (Chunk.own' (cT sb gT vs1 (sx.status) (sx.aL) sx.frames iH sx.cells ig)) w0 w' ∧ ∃ Ll, ∃ Lm, ∃ Lp, ∃ Lr, e = .returned (.tuple #[.agg #[.bool r.1.said, .int .i64 r.1.n, .bool r.1.Jl], .bool r.2.1]) ∧ Chunk.holds w' M (Chunk.own' (cT sb Ll Lm r.2.2.status r.2.2.aL r.2.2.frames Lp r.2.2.cells Lr)) (cT sb Ll Lm r.2.2.status r.2.2.aL r.2.2.frames Lp r.2.2.cells Lr) ∧ (∀ b, Chunk.own' (cT sb Ll Lm r.2.2.status r.2.2.aL r.2.2.frames Lp r.2.2.cells Lr) b → b < w0.heap.size → Chunk.own' (cT sb gT vs1 (sx.status) (sx.aL) sx.frames iH sx.cells ig) b)) := by
 refine aQ (args := [va, (.pointer (some ⟨sb, 0, none⟩))]) Tryz.func65 rfl Tryz.ntmps65 (bF rfl) ?_
 have h := SH.Il hM hC hap
 replace h := h.EH 6 ha Dz
 generalize vZ : (cT sb gT vs1 (sx.status) (sx.aL) sx.frames iH sx.cells ig).own' = K0 at h
 replace h := h.bY 1 5 (by decide) rfl rfl
 replace h := h.bY 1 4 (by decide) rfl rfl
 replace h := h.bY 1 3 (by decide) rfl rfl
 replace h := h.bY 1 2 (by decide) rfl rfl
 have vC := ha.bT
 refine nG (bP h 7 iR fun w b1 h => aa (ae (v := (.bool (false))) rfl) (nJ (aa (ah (v := (.pointer (some ⟨sb, 0, none⟩))) rfl) (aa (aW rfl) (aa (ag dQ rfl) (aa (aA h 1 rfl gD rfl rfl) (aa (mM (N := bg) dx rfl (h.eG 2 rfl) (h.fD 3 rfl)) ?_)))))))
 obtain ⟨a2, hs⟩ := bB hs
 refine aa (mV rfl rfl a2) (aa (ae (v := (I6 (((sx.frames.length : Int) - 1)))) rfl) (nJ (aa (ah (v := (.pointer (some ⟨sb, 0, none⟩))) rfl) (aa (aW rfl) (aa (ag dQ rfl) (aa (aA h 1 rfl gD rfl rfl) (aa (ah (v := (I6 (((sx.frames.length : Int) - 1)))) rfl) ?_)))))))
 obtain ⟨x3, e4, hs⟩ := aK hs
 obtain ⟨u8, e9, h⟩ := h.l6 3 8 x3.regs rfl rfl (by decide) (aB e4).2 rfl
 obtain ⟨b6, q7, i5⟩ := h.qY 2 rfl dx rfl (aB e4).1 (eu (aB e4).2 e9)
 refine aa (i5 _ _ _ _ _ _ _ _ _ rfl rfl) (aa (ae (v := (.pointer (some ⟨b6, (((sx.frames.length : Int) - 1)).toNat * 4, none⟩))) rfl) (nN (aM (Dx mixed h fun w h => fT 0 (aP.refl BE _) rfl aj (by kernel_rfl) (by kernel_rfl) (by kernel_rfl) (fun w hk => ah (v := va) rfl) (fT 1 (aP.refl BE _) rfl aj (by kernel_rfl) (by kernel_rfl) (by kernel_rfl) (fun w hk => ah (v := (.pointer (some ⟨b6, (((sx.frames.length : Int) - 1)).toNat * 4, none⟩))) rfl) (fT 2 (aP.refl BE _) rfl aj (by kernel_rfl) (by kernel_rfl) (by kernel_rfl) (fun w hk => aW rfl) (fT 3 (aP.refl BE _) rfl aj (by kernel_rfl) (by kernel_rfl) (by kernel_rfl) (fun w hk => ag yU rfl) ?_)))))))
 obtain ⟨csq10x4_1, aac, aad⟩ := h.uF 2 rfl q7 (eu (aB e4).2 e9)
 obtain ⟨rfl, -⟩ := aad
 refine fT 4 (aP.refl BE _) rfl aj (by kernel_rfl) (by kernel_rfl) (by kernel_rfl) (fun w hk => have h := h.grow hk; kH (k := 0) (aac.grow hk) aU rfl rfl) ?_
 obtain ⟨bG, IL, hs⟩ := aK hs
 obtain ⟨bq10x5_4, oq10x5_5, csq10x5_6, h, aae, aaf⟩ := h.Cm 6 69 rfl gU rfl (aB IL).1 (aB IL).2
 obtain ⟨uq10x5_8, rfl, aag⟩ := jW aae
 replace h := h.dA 70 aag.up
 refine fT 5 (aP.refl BE _) rfl aj (by kernel_rfl) (by kernel_rfl) (by kernel_rfl) (fun w hk => aaf _ _ _ _ _ _ _ _ _ rfl rfl) (fT 6 (aP.refl BE _) rfl aj (by kernel_rfl) (by kernel_rfl) (by kernel_rfl) (fun w hk => ag nQ rfl) (fT 7 (aP.refl BE _) rfl aj (by kernel_rfl) (by kernel_rfl) (by kernel_rfl) (fun w hk => have h := h.grow hk; fq (k := 2) h 69 rfl xy rfl rfl) (fT 8 (aP.refl BE _) rfl aj (by kernel_rfl) (by kernel_rfl) (by kernel_rfl) (fun w hk => ah (v := (.pointer (some ⟨b6, (((sx.frames.length : Int) - 1)).toNat * 4, none⟩))) rfl) (fT 9 (aP.refl BE _) rfl aj (by kernel_rfl) (by kernel_rfl) (by kernel_rfl) (fun w hk => aW rfl) (fT 10 (aP.refl BE _) rfl aj (by kernel_rfl) (by kernel_rfl) (by kernel_rfl) (fun w hk => ag qC rfl) ?_)))))
 obtain ⟨csq10x11_1, WO, WQ⟩ := h.uF 2 rfl q7 (eu (aB e4).2 e9)
 obtain ⟨rfl, -⟩ := WQ
 refine fT 11 (aP.refl BE _) rfl aj (by kernel_rfl) (by kernel_rfl) (by kernel_rfl) (fun w hk => have h := h.grow hk; kH (k := 1) (WO.grow hk) aU rfl rfl) ?_
 obtain ⟨aT, OG, hs⟩ := aK hs
 obtain ⟨bq10x12_4, oq10x12_5, csq10x12_6, h, WR, WS⟩ := h.Cm 70 153 rfl iy rfl (aB OG).1 (aB OG).2
 obtain ⟨mZ, rfl, WT⟩ := wM WR
 replace h := h.dA 154 WT.up
 refine fT 12 (aP.refl BE _) rfl aj (by kernel_rfl) (by kernel_rfl) (by kernel_rfl) (fun w hk => WS _ _ _ _ _ _ _ _ _ rfl rfl) (fT 13 (aP.refl BE _) rfl aj (by kernel_rfl) (by kernel_rfl) (by kernel_rfl) (fun w hk => have h := h.grow hk; jo (k := 0) (vs := [(I6 aT.op), (I6 aT.a), (I6 aT.b), (I6 aT.c), mZ]) h 153 rfl nT rfl rfl rfl (bF rfl)) ?_)
 obtain ⟨ws11, ws11e⟩ : ∃ x, x = w := ⟨_, rfl⟩
 have Ub : Grow ws11 w := ws11e ▸ aP.refl BE w
 refine LA ws11e.symm (su 14 (by kernel_rfl) rfl aj (wL h 177 nT fun w OH h Uc Ud => ?_))
 have Ue : ws11.heap.size ≤ OH := Nat.le_trans Ub.size Ud
 replace Ub := Ub.trans Uc
 refine az (kz Ub (su 15 (by kernel_rfl) rfl aj (vO (vs := [(I6 aT.op), (I6 aT.a), (I6 aT.b), (I6 aT.c), mZ]) h 177 [(I6 aT.op), (I6 aT.a), (I6 aT.b), (I6 aT.c), mZ] rfl nT rfl rfl rfl rfl rfl (ai rfl (ai rfl (ai rfl (ai rfl (ai (h.iD 154 rfl).one aS))))) fun w h WU => ?_)))
 replace Ub := Ub.fresh WU (fun x hx => hx ▸ Ue)
 refine az (kz Ub (yS (by kernel_rfl) (ak (aM (lg 19 mixed (by kernel_rfl) h fun w h => aD (ah (v := (.pointer (some ⟨b6, (((sx.frames.length : Int) - 1)).toNat * 4, none⟩))) rfl) (aD (ah (v := (.pointer (some ⟨b6, (((sx.frames.length : Int) - 1)).toNat * 4, none⟩))) rfl) (aD (aW rfl) (aD (ag qC rfl) ?_))))))))
 obtain ⟨cs13, m14, r15⟩ := h.uF 2 rfl q7 (eu (aB e4).2 e9)
 obtain ⟨rfl, -⟩ := r15
 refine aD (kH (k := 1) m14 aU rfl rfl) ?_
 obtain ⟨a16, hs⟩ := bB hs
 refine aD (dP rfl rfl a16) (aD (ah (v := va) rfl) (aD (ah (v := (.pointer (some ⟨b6, (((sx.frames.length : Int) - 1)).toNat * 4, none⟩))) rfl) (aD (aW rfl) (aD (ag yU rfl) ?_))))
 obtain ⟨cs17, m18, r19⟩ := h.uF 2 rfl q7 (eu (aB e4).2 e9)
 obtain ⟨rfl, -⟩ := r19
 refine aD (kH (k := 0) m18 aU rfl rfl) ?_
 obtain ⟨NA, o22, cs23, h, r24, i20⟩ := h.Cm 6 213 rfl gU rfl (aB IL).1 (aB IL).2
 obtain ⟨u25, rfl, g26⟩ := jW r24
 replace h := h.dA 214 g26.up
 refine aD (i20 _ _ _ _ _ _ _ _ _ rfl rfl) (aD (ag nQ rfl) (aD (fq (k := 2) h 213 rfl xy rfl rfl) (aD (bW iy rfl (h.ny 214 rfl)) ?_)))
 obtain ⟨a27, hs⟩ := bB hs
 refine aD (mV rfl rfl a27) (aD (r_min rfl rfl) (aD (aW rfl) (aD (ag qC rfl) (uH (Ii (a' := (({ x3 with at_ := (min (x3.at_ + 1) ((bG.code.length : Int) - 1)) }), u8)) h 2 rfl q7 rfl (eu (aB e4).2 e9) aU rfl rfl rfl rfl (by rintro _ ⟨rfl, hq⟩; exact ⟨rfl, hq⟩) fun w h => ?_)))))
 rw [Cr e9] at h
 replace h := h.VQ 3 ({ x3 with at_ := (min (x3.at_ + 1) ((bG.code.length : Int) - 1)) }) rfl
 refine nJ (aa (ah (v := (.pointer (some ⟨b6, (((sx.frames.length : Int) - 1)).toNat * 4, none⟩))) rfl) (aa (aW rfl) (aa (ag jZ rfl) ?_)))
 obtain ⟨cs28, m29, r30⟩ := h.uF 2 rfl q7 (eu (lX (aB e4).2) e9)
 obtain ⟨rfl, -⟩ := r30
 refine aa (kH (k := 2) m29 j3 rfl rfl) (aa (ae (v := u8) rfl) (nN (bX (σ := Bool × Value × List Value × List LX.Frame × Value × List Value × List (List Val) × Int × Int) (inl ([5, 10] ++ rg 60 156)) (fun ⟨y31, v32, WV, y34, v35, WW, y37, y38, y39⟩ => []) (fun ⟨y31, v32, WV, y34, v35, WW, y37, y38, y39⟩ w => SH w0 M K0 w (hset [(1, .blk sb [v32, v35, (I6 y38), (I6 y39)]), (2, .own bg.raw 49 v32 (List.zip y34 WV)), (3, .ik (dS bC 51 hn WV (List.map bg.sub y34))), (4, .own (dZ Val).raw 47 v35 (List.zip y37 WW)), (5, .ik (dS bC 51 hn WW (List.map (dZ Val).sub y37))), (7, .blk b1 [(.bool (false)), (I6 0), (.bool (y31))])]) ∧ nA y31 y34 y37 y38 y39 = some r) ?_ ?_)))
 rintro ⟨y31, v32, WV, y34, v35, WW, y37, y38, y39⟩ w dO ⟨h, hs⟩
 refine nG (aa (dK (vs := [(.bool (false)), (I6 0), (.bool (y31))]) h 7 rfl iR rfl rfl rfl) (dH (vs := [(.bool (false)), (I6 0), (.bool (y31))]) h 7 [(.bool (false)), (I6 0), (.bool (y31))] rfl iR rfl rfl rfl rfl rfl (ai rfl (ai rfl (ai rfl aS))) fun w h => aa (ae (v := (.bool (true))) rfl) (nR (ll (vs := [(.bool (false)), (I6 0), (.bool (y31))]) (v2 := (.bool (true))) Tryz.results65 rfl rfl h 7 rfl iR rfl ?_))))
 replace h := h.pair 1 2 (by decide)
 replace h := h.pair 1 3 (by decide)
 replace h := h.pair 1 4 (by decide)
 replace h := h.pair 1 5 (by decide)
 obtain rfl := fP hs
 subst vZ
 obtain ⟨o1, o2, o3⟩ := h.kJ 1 (C := (cT sb v32 v35 (y38) (y39) y34 WV y37 WW)) rfl ⟨⟨⟨⟨trivial, trivial⟩, trivial⟩, trivial⟩, trivial⟩
 exact ⟨o2, v32, v35, WV, WW, rfl, o1, o3⟩
 refine nG (aa (ag mG rfl) (aa (aA h 177 rfl aU rfl rfl) (nN (aO (nG (aa (bz rfl rfl) (aa (ae (v := (.bool (decide ((aT.op : Int) = 1)))) rfl) (nN (aI hs rfl (fun c40 hs => ?_) (fun c40 hs => ?_))))))))))
 refine aC (aa (ah (v := u8) rfl) (aa (ag jb rfl) (aa (aA h 177 rfl aU rfl rfl) (aa (ag gp rfl) (aa (aA h 177 rfl aU rfl rfl) (aa (ek (pv := [(0, (I6 1)), (1, (I6 aT.b))]) (out := [(I6 1), (I6 aT.b)]) qE rfl ⟨0, 1, [(I6 1)], rfl, rfl, rfl, bF rfl, ⟨1, 1, [(I6 aT.b)], rfl, rfl, rfl, bF rfl, rfl⟩⟩) ?_))))))
 obtain ⟨x41, e42, hs⟩ := aK hs
 obtain ⟨Qf, q45, i43⟩ := h.qY 8 rfl aZ rfl (aB e42).1 (aB e42).2
 refine aa (i43 _ _ _ _ _ _ _ _ _ rfl rfl) (ry (a' := (⟨1, aT.b⟩ : Val)) (vs := [(I6 1), (I6 aT.b)]) h 8 rfl q45 rfl (aB e42).2 aY rfl rfl rfl rfl rfl fun w h k46 => az (ax ?_))
 replace h := h.l5 2 3 8 ({ x3 with at_ := (min (x3.at_ + 1) ((bG.code.length : Int) - 1)), regs := (x3.regs.set (aT.a).toNat (⟨1, aT.b⟩ : Val)) }) rfl rfl rfl (by decide) (by decide) (by decide) (lX (aB e4).2) e9 rfl
 refine au ?_
 exact bQ (false, gT, iH, ((sx.frames.set (((sx.frames.length : Int) - 1)).toNat ({ x3 with at_ := (min (x3.at_ + 1) ((bG.code.length : Int) - 1)) })).set (((sx.frames.length : Int) - 1)).toNat ({ x3 with at_ := (min (x3.at_ + 1) ((bG.code.length : Int) - 1)), regs := (x3.regs.set (aT.a).toNat (⟨1, aT.b⟩ : Val)) })), vs1, ig, sx.cells, sx.status, sx.aL) ⟨h.cn _, hs⟩
 refine nG (aa (bz rfl rfl) (aa (ae (v := (.bool (decide ((aT.op : Int) = 2)))) rfl) (nN (aI hs rfl (fun c47 hs => ?_) (fun c47 hs => ?_)))))
 refine lg 9 mixed (by kernel_rfl) h fun w h => aD (ah (v := u8) rfl) (aD (ag jb rfl) (aD (aA h 177 rfl aU rfl rfl) (aD (ah (v := u8) rfl) (aD (ag gp rfl) (aD (aA h 177 rfl aU rfl rfl) ?_)))))
 obtain ⟨Ib, e49, hs⟩ := aK hs
 obtain ⟨b51, q52, i50⟩ := h.qY 8 rfl aZ rfl (aB e49).1 (aB e49).2
 refine aD (i50 _ _ _ _ _ _ _ _ _ rfl rfl) ?_
 obtain ⟨cs53, m54, r55⟩ := h.uF 8 rfl q52 (aB e49).2
 obtain rfl := r55
 refine aD (kg (k := 0) (vs := [(I6 Ib.kind), (I6 Ib.n)]) m54 aY rfl rfl rfl (bF rfl)) ?_
 obtain ⟨QD, e57, hs⟩ := aK hs
 obtain ⟨b59, q60, i58⟩ := h.qY 8 rfl aZ rfl (aB e57).1 (aB e57).2
 refine aD (i58 _ _ _ _ _ _ _ _ _ rfl rfl) (uH (ry (a' := Ib) (vs := [(I6 Ib.kind), (I6 Ib.n)]) h 8 rfl q60 rfl (aB e57).2 aY rfl rfl rfl rfl rfl fun w h k61 => az (ax ?_)))
 replace h := h.l5 2 3 8 ({ x3 with at_ := (min (x3.at_ + 1) ((bG.code.length : Int) - 1)), regs := (x3.regs.set (aT.a).toNat Ib) }) rfl rfl rfl (by decide) (by decide) (by decide) (lX (aB e4).2) e9 rfl
 refine au ?_
 exact bQ (false, gT, iH, ((sx.frames.set (((sx.frames.length : Int) - 1)).toNat ({ x3 with at_ := (min (x3.at_ + 1) ((bG.code.length : Int) - 1)) })).set (((sx.frames.length : Int) - 1)).toNat ({ x3 with at_ := (min (x3.at_ + 1) ((bG.code.length : Int) - 1)), regs := (x3.regs.set (aT.a).toNat Ib) })), vs1, ig, sx.cells, sx.status, sx.aL) ⟨h.cn _, hs⟩
 refine nG (aa (bz rfl rfl) (aa (ae (v := (.bool (decide ((aT.op : Int) = 3)))) rfl) (nN (aI hs rfl (fun c62 hs => ?_) (fun c62 hs => ?_)))))
 refine bX (σ := Bool × List LX.Frame) (inl ([5] ++ rg 84 22)) (fun ⟨uR, NJ⟩ => [(5, (.bool (uR)))]) (fun ⟨uR, NJ⟩ w => SH w0 M K0 w (hset [(1, .blk sb [gT, vs1, (I6 sx.status), (I6 sx.aL)]), (2, .own bg.raw 49 gT (List.zip NJ iH)), (3, .ik (dS bC 51 hn iH (List.map bg.sub NJ))), (4, .own (dZ Val).raw 47 vs1 (List.zip sx.cells ig)), (5, .ik (dS bC 51 hn ig (List.map (dZ Val).sub sx.cells))), (7, .blk b1 [(.bool (false)), (I6 0), (.bool (false))])]) ∧ D8 sx uR NJ = some r) ?_ ?_
 rintro ⟨uR, NJ⟩ w dO ⟨h, hs⟩
 refine nG (aa (dK (vs := [(.bool (false)), (I6 0), (.bool (false))]) h 7 rfl iR rfl rfl rfl) (aa (ah (v := (.bool (uR))) rfl) (dH (vs := [(.bool (false)), (I6 0), (.bool (false))]) h 7 [(.bool (false)), (I6 0), (.bool (false))] rfl iR rfl rfl rfl rfl rfl (ai rfl (ai rfl (ai rfl aS))) fun w h => aa (ae (v := (.bool (uR))) rfl) (nR (aF (ay (ll (vs := [(.bool (false)), (I6 0), (.bool (false))]) (v2 := (.bool (uR))) Tryz.results65 rfl rfl h 7 rfl iR rfl ?_)))))))
 replace h := h.pair 1 2 (by decide)
 replace h := h.pair 1 3 (by decide)
 replace h := h.pair 1 4 (by decide)
 replace h := h.pair 1 5 (by decide)
 obtain rfl := fP hs
 subst vZ
 obtain ⟨o1, o2, o3⟩ := h.kJ 1 (C := (cT sb gT vs1 (sx.status) (sx.aL) NJ iH sx.cells ig)) rfl ⟨⟨⟨⟨trivial, trivial⟩, trivial⟩, trivial⟩, trivial⟩
 exact ⟨o2, gT, vs1, iH, ig, rfl, o1, o3⟩
 refine kI (L := (ob u8)) mixed h fun w h => bE 0 (aP.refl _ _) rfl aj (by kernel_rfl) (by kernel_rfl) (by kernel_rfl) (fun w hk => ah (v := u8) rfl) (bE 1 (aP.refl _ _) rfl aj (by kernel_rfl) (by kernel_rfl) (by kernel_rfl) (fun w hk => ag jb rfl) (bE 2 (aP.refl _ _) rfl aj (by kernel_rfl) (by kernel_rfl) (by kernel_rfl) (fun w hk => have h := h.qB 8 rfl hk; aA h 177 rfl aU rfl rfl) (bE 3 (aP.refl _ _) rfl aj (by kernel_rfl) (by kernel_rfl) (by kernel_rfl) (fun w hk => ag qZ rfl) (bE 4 (aP.refl _ _) rfl aj (by kernel_rfl) (by kernel_rfl) (by kernel_rfl) (fun w hk => have h := h.qB 8 rfl hk; aA h 177 rfl qD rfl rfl) ?_))))
 obtain ⟨IK, RD, hs⟩ := aK hs
 obtain ⟨bq70x5_4, oq70x5_5, csq70x5_6, h, aah, aai⟩ := h.Cm 154 275 rfl bV rfl (aB RD).1 (aB RD).2
 obtain rfl := aah
 refine bE 5 (aP.refl _ _) rfl aj (by kernel_rfl) (by kernel_rfl) (by kernel_rfl) (fun w hk => aai _ _ _ _ _ _ _ _ _ rfl rfl) (bE 6 (aP.refl _ _) rfl aj (by kernel_rfl) (by kernel_rfl) (by kernel_rfl) (fun w hk => have h := h.qB 8 rfl hk; fq (k := 0) h 275 rfl aU rfl rfl) (bE 7 (aP.refl _ _) rfl aj (by kernel_rfl) (by kernel_rfl) (by kernel_rfl) (fun w hk => ah (v := u8) rfl) (bE 8 (aP.refl _ _) rfl aj (by kernel_rfl) (by kernel_rfl) (by kernel_rfl) (fun w hk => ag gp rfl) (bE 9 (aP.refl _ _) rfl aj (by kernel_rfl) (by kernel_rfl) (by kernel_rfl) (fun w hk => have h := h.qB 8 rfl hk; aA h 177 rfl aU rfl rfl) ?_))))
 obtain ⟨wV, FW, hs⟩ := aK hs
 obtain ⟨bq70x10_4, OI, WX⟩ := h.qY 8 rfl aZ rfl (aB FW).1 (aB FW).2
 refine bE 10 (aP.refl _ _) rfl aj (by kernel_rfl) (by kernel_rfl) (by kernel_rfl) (fun w hk => WX _ _ _ _ _ _ _ _ _ rfl rfl) (bE 12 (aP.refl _ _) rfl aj (by kernel_rfl) (by kernel_rfl) (by kernel_rfl) (fun w hk => ah (v := u8) rfl) (bE 13 (aP.refl _ _) rfl aj (by kernel_rfl) (by kernel_rfl) (by kernel_rfl) (fun w hk => ag mH rfl) (bE 14 (aP.refl _ _) rfl aj (by kernel_rfl) (by kernel_rfl) (by kernel_rfl) (fun w hk => have h := h.qB 8 rfl hk; aA h 177 rfl aU rfl rfl) ?_)))
 obtain ⟨wW, FX, hs⟩ := aK hs
 obtain ⟨bq70x15_4, OJ, WY⟩ := h.qY 8 rfl aZ rfl (aB FX).1 (aB FX).2
 refine bE 15 (aP.refl _ _) rfl aj (by kernel_rfl) (by kernel_rfl) (by kernel_rfl) (fun w hk => WY _ _ _ _ _ _ _ _ _ rfl rfl) ?_
 obtain ⟨iP, OL, hs⟩ := aK hs
 obtain ⟨WM, AA, hs⟩ := aK hs
 obtain ⟨ws71, ws71e⟩ : ∃ x, x = w := ⟨_, rfl⟩
 have zG : aP (ob u8) ws71 w := ws71e ▸ aP.refl (ob u8) w
 refine rf ws71e.symm (nD 11 16 (by kernel_rfl) rfl aj rfl aj ?_ ?_)
 obtain ⟨Uf, JU, JV⟩ := h.uF 8 rfl OI (aB FW).2
 obtain rfl := JV
 refine aa (kg (k := 0) (vs := [(I6 wV.kind), (I6 wV.n)]) JU aY rfl rfl rfl (bF rfl)) (az (aR zG (bA 16 (by kernel_rfl) rfl aj ?_)))
 obtain ⟨Ug, JW, JX⟩ := h.uF 8 rfl OJ (aB FX).2
 obtain rfl := JX
 refine aa (kg (k := 0) (vs := [(I6 wW.kind), (I6 wW.n)]) JW aY rfl rfl rfl (bF rfl)) (az (aR zG (bA 17 (by kernel_rfl) rfl aj (aX YW rfl rfl (Vp _ _ h.lt IK wV wW _ OL) ?_))))
 rintro _ w ⟨Db, rfl⟩
 refine ⟨_, rfl, ?_⟩
 replace h := h.grow Db
 replace zG := zG.grow Db
 refine az (aR zG (dG 18 zG rfl (by kernel_rfl) (fun w hk => ah (v := (.tuple #[(.agg #[(I6 iP.1.kind), (I6 iP.1.n)]), (.bool (iP.2))])) rfl) (dG 19 zG rfl (by kernel_rfl) (fun w hk => bu rfl rfl) (dG 20 zG rfl (by kernel_rfl) (fun w hk => bu rfl rfl) ?_))))
 obtain ⟨WZ, JY, JZ⟩ := h.qY 8 rfl aZ rfl (aB AA).1 (aB AA).2
 refine dG 21 zG rfl (by kernel_rfl) (fun w hk => JZ _ _ _ _ _ _ _ _ _ rfl rfl) (bA 22 (by kernel_rfl) rfl aj (ry (a' := iP.1) (vs := [(I6 iP.1.kind), (I6 iP.1.n)]) h 8 rfl JY rfl (aB AA).2 aY rfl rfl rfl rfl rfl fun w h J2 => ?_))
 replace zG := zG.same J2
 refine az (aR zG (dG 23 zG rfl (by kernel_rfl) (fun w hk => ae (v := (.bool (iP.2))) rfl) (fK (by kernel_rfl) ?_)))
 replace h := h.l5 2 3 8 ({ x3 with at_ := (min (x3.at_ + 1) ((bG.code.length : Int) - 1)), regs := (x3.regs.set (aT.a).toNat iP.1) }) rfl rfl rfl (by decide) (by decide) (by decide) (lX (aB e4).2) e9 rfl
 refine au ?_
 exact bQ (iP.2, ((sx.frames.set (((sx.frames.length : Int) - 1)).toNat ({ x3 with at_ := (min (x3.at_ + 1) ((bG.code.length : Int) - 1)) })).set (((sx.frames.length : Int) - 1)).toNat ({ x3 with at_ := (min (x3.at_ + 1) ((bG.code.length : Int) - 1)), regs := (x3.regs.set (aT.a).toNat iP.1) }))) ⟨h.cn _, hs⟩
 obtain ⟨Ug, JW, JX⟩ := h.uF 8 rfl OJ (aB FX).2
 obtain rfl := JX
 refine aa (kg (k := 0) (vs := [(I6 wW.kind), (I6 wW.n)]) JW aY rfl rfl rfl (bF rfl)) (az (aR zG (bA 11 (by kernel_rfl) rfl aj ?_)))
 obtain ⟨Uf, JU, JV⟩ := h.uF 8 rfl OI (aB FW).2
 obtain rfl := JV
 refine aa (kg (k := 0) (vs := [(I6 wV.kind), (I6 wV.n)]) JU aY rfl rfl rfl (bF rfl)) (az (aR zG (bA 17 (by kernel_rfl) rfl aj (aX YW rfl rfl (Vp _ _ h.lt IK wV wW _ OL) ?_))))
 rintro _ w ⟨Db, rfl⟩
 refine ⟨_, rfl, ?_⟩
 replace h := h.grow Db
 replace zG := zG.grow Db
 refine az (aR zG (dG 18 zG rfl (by kernel_rfl) (fun w hk => ah (v := (.tuple #[(.agg #[(I6 iP.1.kind), (I6 iP.1.n)]), (.bool (iP.2))])) rfl) (dG 19 zG rfl (by kernel_rfl) (fun w hk => bu rfl rfl) (dG 20 zG rfl (by kernel_rfl) (fun w hk => bu rfl rfl) ?_))))
 obtain ⟨WZ, JY, JZ⟩ := h.qY 8 rfl aZ rfl (aB AA).1 (aB AA).2
 refine dG 21 zG rfl (by kernel_rfl) (fun w hk => JZ _ _ _ _ _ _ _ _ _ rfl rfl) (bA 22 (by kernel_rfl) rfl aj (ry (a' := iP.1) (vs := [(I6 iP.1.kind), (I6 iP.1.n)]) h 8 rfl JY rfl (aB AA).2 aY rfl rfl rfl rfl rfl fun w h J2 => ?_))
 replace zG := zG.same J2
 refine az (aR zG (dG 23 zG rfl (by kernel_rfl) (fun w hk => ae (v := (.bool (iP.2))) rfl) (fK (by kernel_rfl) ?_)))
 replace h := h.l5 2 3 8 ({ x3 with at_ := (min (x3.at_ + 1) ((bG.code.length : Int) - 1)), regs := (x3.regs.set (aT.a).toNat iP.1) }) rfl rfl rfl (by decide) (by decide) (by decide) (lX (aB e4).2) e9 rfl
 refine au ?_
 exact bQ (iP.2, ((sx.frames.set (((sx.frames.length : Int) - 1)).toNat ({ x3 with at_ := (min (x3.at_ + 1) ((bG.code.length : Int) - 1)) })).set (((sx.frames.length : Int) - 1)).toNat ({ x3 with at_ := (min (x3.at_ + 1) ((bG.code.length : Int) - 1)), regs := (x3.regs.set (aT.a).toNat iP.1) }))) ⟨h.cn _, hs⟩
 refine bX (σ := Bool) (inl [108, 109, 110]) (fun x73 => [(108, (.bool (x73)))]) (fun x73 w => SH w0 M K0 w (hset [(1, .blk sb [gT, vs1, (I6 sx.status), (I6 sx.aL)]), (2, .own bg.raw 49 gT (List.zip (sx.frames.set (((sx.frames.length : Int) - 1)).toNat ({ x3 with at_ := (min (x3.at_ + 1) ((bG.code.length : Int) - 1)) })) iH)), (3, .ik (dS bC 51 (hat (((sx.frames.length : Int) - 1)).toNat) iH (List.map bg.sub (sx.frames.set (((sx.frames.length : Int) - 1)).toNat ({ x3 with at_ := (min (x3.at_ + 1) ((bG.code.length : Int) - 1)) }))))), (4, .own (dZ Val).raw 47 vs1 (List.zip sx.cells ig)), (5, .ik (dS bC 51 hn ig (List.map (dZ Val).sub sx.cells))), (6, .rd jk va a), (7, .blk b1 [(.bool (false)), (I6 0), (.bool (false))]), (8, .own bC 51 u8 x3.regs), (154, .rd eP mZ aT.args), (177, .blk OH [(I6 aT.op), (I6 aT.a), (I6 aT.b), (I6 aT.c), mZ])]) ∧ kE N sx x3 bG aT a x73 = some r) ?_ ?_
 rintro x73 w dO ⟨h, hs⟩
 refine aI hs rfl (fun c74 hs => ?_) (fun c74 hs => ?_)
 refine aM ?_
 replace h := h.ed 3 8 rfl rfl (by decide) (lX (aB e4).2) e9 rfl
 refine kI (L := (fun b => Chunk.own' (cT sb gT vs1 (sx.status) (sx.aL) (sx.frames.set (((sx.frames.length : Int) - 1)).toNat ({ x3 with at_ := (min (x3.at_ + 1) ((bG.code.length : Int) - 1)) })) iH sx.cells ig) b ∨ b = b1)) mixed h fun w h => bE 1 (aP.refl _ _) rfl aj (by kernel_rfl) (by kernel_rfl) (by kernel_rfl) (fun w hk => ah (v := (.pointer (some ⟨sb, 0, none⟩))) rfl) (bE 2 (aP.refl _ _) rfl aj (by kernel_rfl) (by kernel_rfl) (by kernel_rfl) (fun w hk => have h := ((((h.pair 1 2 (by decide)).pair 1 3 (by decide)).pair 1 4 (by decide)).pair 1 5 (by decide)).wB 1 7 (by decide) rfl rfl hk; dK (vs := [(I6 aT.op), (I6 aT.a), (I6 aT.b), (I6 aT.c), mZ]) h 177 rfl nT rfl rfl rfl) (bE 3 (aP.refl _ _) rfl aj (by kernel_rfl) (by kernel_rfl) (by kernel_rfl) (fun w hk => ah (v := u8) rfl) ?_))
 obtain ⟨jL, RF, hs⟩ := aK hs
 obtain ⟨ws86, ws86e⟩ : ∃ x, x = w := ⟨_, rfl⟩
 have Gb : aP (fun b => Chunk.own' (cT sb gT vs1 (sx.status) (sx.aL) (sx.frames.set (((sx.frames.length : Int) - 1)).toNat ({ x3 with at_ := (min (x3.at_ + 1) ((bG.code.length : Int) - 1)) })) iH sx.cells ig) b ∨ b = b1) ws86 w := ws86e ▸ aP.refl (fun b => Chunk.own' (cT sb gT vs1 (sx.status) (sx.aL) (sx.frames.set (((sx.frames.length : Int) - 1)).toNat ({ x3 with at_ := (min (x3.at_ + 1) ((bG.code.length : Int) - 1)) })) iH sx.cells ig) b ∨ b = b1) w
 refine rf ws86e.symm (nD 0 4 (by kernel_rfl) rfl aj rfl aj ?_ ?_)
 refine aa (dK (vs := [(.bool (false)), (I6 0), (.bool (false))]) h 7 rfl iR rfl rfl rfl) (az (aR Gb (bA 4 (by kernel_rfl) rfl aj ?_)))
 replace h := h.pair 1 2 (by decide)
 replace h := h.pair 1 3 (by decide)
 replace h := h.pair 1 4 (by decide)
 replace h := h.pair 1 5 (by decide)
 obtain ⟨J3, J4, J5⟩ := h.z8 1 (C := (cT sb gT vs1 (sx.status) (sx.aL) (sx.frames.set (((sx.frames.length : Int) - 1)).toNat ({ x3 with at_ := (min (x3.at_ + 1) ((bG.code.length : Int) - 1)) })) iH sx.cells ig)) rfl ⟨⟨⟨⟨trivial, trivial⟩, trivial⟩, trivial⟩, trivial⟩
 refine aX YX rfl rfl (MC _ _ J5 sb (⟨(sx.frames.set (((sx.frames.length : Int) - 1)).toNat ({ x3 with at_ := (min (x3.at_ + 1) ((bG.code.length : Int) - 1)) })), sx.cells, sx.status, sx.aL⟩ : LX.State) gT vs1 iH ig J3 J4 aT mZ (h.Ta 1 154 rfl rfl) ((sx.frames.length : Int) - 1) ({ x3 with at_ := (min (x3.at_ + 1) ((bG.code.length : Int) - 1)) }) (aB e4).1 (lX (aB e4).2) u8 e9 _ RF) ?_
 rintro _ w ⟨Fa, Bb, Bc, yH, yI, rfl, MO, J6⟩
 refine ⟨_, rfl, ?_⟩
 replace h := h.back 1 (C := (cT sb gT vs1 (sx.status) (sx.aL) (sx.frames.set (((sx.frames.length : Int) - 1)).toNat ({ x3 with at_ := (min (x3.at_ + 1) ((bG.code.length : Int) - 1)) })) iH sx.cells ig)) (C' := (cT sb Bb Bc (jL.2.status) (jL.2.aL) jL.2.frames yH jL.2.cells yI)) rfl ⟨⟨⟨⟨trivial, trivial⟩, trivial⟩, trivial⟩, trivial⟩ MO Fa J6
 replace h := h.bY 1 5 (by decide) rfl rfl
 replace h := h.bY 1 4 (by decide) rfl rfl
 replace h := h.bY 1 3 (by decide) rfl rfl
 replace h := h.bY 1 2 (by decide) rfl rfl
 replace Gb := aP.step Gb Fa (fun _ hx _ => .inl (hx))
 refine az (aR Gb (bA 5 (by kernel_rfl) rfl aj (vO (vs := [(.bool (false)), (I6 0), (.bool (false))]) h 7 [(.bool (false)), (I6 0), (.bool (false))] rfl iR rfl rfl rfl rfl rfl (ai rfl (ai rfl (ai rfl aS))) fun w h MP => ?_)))
 replace Gb := aP.step Gb MP (fun _ hx _ => .inr (hx))
 refine az (aR Gb (dG 6 Gb rfl (by kernel_rfl) (fun w hk => ae (v := (.bool (jL.1))) rfl) (fK (by kernel_rfl) (ak (BR (aF (ay (ll (vs := [(.bool (false)), (I6 0), (.bool (false))]) (v2 := (.bool (jL.1))) Tryz.results65 rfl rfl h 7 rfl iR rfl ?_))))))))
 replace h := h.pair 1 2 (by decide)
 replace h := h.pair 1 3 (by decide)
 replace h := h.pair 1 4 (by decide)
 replace h := h.pair 1 5 (by decide)
 obtain rfl := fP hs
 subst vZ
 obtain ⟨o1, o2, o3⟩ := h.kJ 1 (C := (cT sb Bb Bc (jL.2.status) (jL.2.aL) jL.2.frames yH jL.2.cells yI)) rfl ⟨⟨⟨⟨trivial, trivial⟩, trivial⟩, trivial⟩, trivial⟩
 exact ⟨o2, Bb, Bc, yH, yI, rfl, o1, o3⟩
 replace h := h.pair 1 2 (by decide)
 replace h := h.pair 1 3 (by decide)
 replace h := h.pair 1 4 (by decide)
 replace h := h.pair 1 5 (by decide)
 obtain ⟨J3, J4, J5⟩ := h.z8 1 (C := (cT sb gT vs1 (sx.status) (sx.aL) (sx.frames.set (((sx.frames.length : Int) - 1)).toNat ({ x3 with at_ := (min (x3.at_ + 1) ((bG.code.length : Int) - 1)) })) iH sx.cells ig)) rfl ⟨⟨⟨⟨trivial, trivial⟩, trivial⟩, trivial⟩, trivial⟩
 refine aX YX rfl rfl (MC _ _ J5 sb (⟨(sx.frames.set (((sx.frames.length : Int) - 1)).toNat ({ x3 with at_ := (min (x3.at_ + 1) ((bG.code.length : Int) - 1)) })), sx.cells, sx.status, sx.aL⟩ : LX.State) gT vs1 iH ig J3 J4 aT mZ (h.Ta 1 154 rfl rfl) ((sx.frames.length : Int) - 1) ({ x3 with at_ := (min (x3.at_ + 1) ((bG.code.length : Int) - 1)) }) (aB e4).1 (lX (aB e4).2) u8 e9 _ RF) ?_
 rintro _ w ⟨Fa, Bb, Bc, yH, yI, rfl, MO, J6⟩
 refine ⟨_, rfl, ?_⟩
 replace h := h.back 1 (C := (cT sb gT vs1 (sx.status) (sx.aL) (sx.frames.set (((sx.frames.length : Int) - 1)).toNat ({ x3 with at_ := (min (x3.at_ + 1) ((bG.code.length : Int) - 1)) })) iH sx.cells ig)) (C' := (cT sb Bb Bc (jL.2.status) (jL.2.aL) jL.2.frames yH jL.2.cells yI)) rfl ⟨⟨⟨⟨trivial, trivial⟩, trivial⟩, trivial⟩, trivial⟩ MO Fa J6
 replace h := h.bY 1 5 (by decide) rfl rfl
 replace h := h.bY 1 4 (by decide) rfl rfl
 replace h := h.bY 1 3 (by decide) rfl rfl
 replace h := h.bY 1 2 (by decide) rfl rfl
 replace Gb := aP.step Gb Fa (fun _ hx _ => .inl (hx))
 refine az (aR Gb (bA 0 (by kernel_rfl) rfl aj (aa (dK (vs := [(.bool (false)), (I6 0), (.bool (false))]) h 7 rfl iR rfl rfl rfl) (az (aR Gb (bA 5 (by kernel_rfl) rfl aj (vO (vs := [(.bool (false)), (I6 0), (.bool (false))]) h 7 [(.bool (false)), (I6 0), (.bool (false))] rfl iR rfl rfl rfl rfl rfl (ai rfl (ai rfl (ai rfl aS))) fun w h MP => ?_)))))))
 replace Gb := aP.step Gb MP (fun _ hx _ => .inr (hx))
 refine az (aR Gb (dG 6 Gb rfl (by kernel_rfl) (fun w hk => ae (v := (.bool (jL.1))) rfl) (fK (by kernel_rfl) (ak (BR (aF (ay (ll (vs := [(.bool (false)), (I6 0), (.bool (false))]) (v2 := (.bool (jL.1))) Tryz.results65 rfl rfl h 7 rfl iR rfl ?_))))))))
 replace h := h.pair 1 2 (by decide)
 replace h := h.pair 1 3 (by decide)
 replace h := h.pair 1 4 (by decide)
 replace h := h.pair 1 5 (by decide)
 obtain rfl := fP hs
 subst vZ
 obtain ⟨o1, o2, o3⟩ := h.kJ 1 (C := (cT sb Bb Bc (jL.2.status) (jL.2.aL) jL.2.frames yH jL.2.cells yI)) rfl ⟨⟨⟨⟨trivial, trivial⟩, trivial⟩, trivial⟩, trivial⟩
 exact ⟨o2, Bb, Bc, yH, yI, rfl, o1, o3⟩
 refine nG (aa (bz rfl rfl) (aa (ae (v := (.bool (decide ((aT.op : Int) = 5)))) rfl) (nN (aI hs rfl (fun c88 hs => ?_) (fun c88 hs => ?_)))))
 refine aM ?_
 replace h := h.ed 3 8 rfl rfl (by decide) (lX (aB e4).2) e9 rfl
 refine kI (L := (fun b => Chunk.own' (cT sb gT vs1 (sx.status) (sx.aL) (sx.frames.set (((sx.frames.length : Int) - 1)).toNat ({ x3 with at_ := (min (x3.at_ + 1) ((bG.code.length : Int) - 1)) })) iH sx.cells ig) b ∨ b = b1)) mixed h fun w h => bE 1 (aP.refl _ _) rfl aj (by kernel_rfl) (by kernel_rfl) (by kernel_rfl) (fun w hk => ah (v := (.pointer (some ⟨sb, 0, none⟩))) rfl) (bE 2 (aP.refl _ _) rfl aj (by kernel_rfl) (by kernel_rfl) (by kernel_rfl) (fun w hk => have h := ((((h.pair 1 2 (by decide)).pair 1 3 (by decide)).pair 1 4 (by decide)).pair 1 5 (by decide)).wB 1 7 (by decide) rfl rfl hk; dK (vs := [(I6 aT.op), (I6 aT.a), (I6 aT.b), (I6 aT.c), mZ]) h 177 rfl nT rfl rfl rfl) ?_)
 obtain ⟨jM, RG, hs⟩ := aK hs
 obtain ⟨ws100, aaj⟩ : ∃ x, x = w := ⟨_, rfl⟩
 have Ad : aP (fun b => Chunk.own' (cT sb gT vs1 (sx.status) (sx.aL) (sx.frames.set (((sx.frames.length : Int) - 1)).toNat ({ x3 with at_ := (min (x3.at_ + 1) ((bG.code.length : Int) - 1)) })) iH sx.cells ig) b ∨ b = b1) ws100 w := aaj ▸ aP.refl (fun b => Chunk.own' (cT sb gT vs1 (sx.status) (sx.aL) (sx.frames.set (((sx.frames.length : Int) - 1)).toNat ({ x3 with at_ := (min (x3.at_ + 1) ((bG.code.length : Int) - 1)) })) iH sx.cells ig) b ∨ b = b1) w
 refine rf aaj.symm (nD 0 3 (by kernel_rfl) rfl aj rfl aj ?_ ?_)
 refine aa (dK (vs := [(.bool (false)), (I6 0), (.bool (false))]) h 7 rfl iR rfl rfl rfl) (az (aR Ad (bA 3 (by kernel_rfl) rfl aj ?_)))
 replace h := h.pair 1 2 (by decide)
 replace h := h.pair 1 3 (by decide)
 replace h := h.pair 1 4 (by decide)
 replace h := h.pair 1 5 (by decide)
 obtain ⟨J7, J8, J9⟩ := h.z8 1 (C := (cT sb gT vs1 (sx.status) (sx.aL) (sx.frames.set (((sx.frames.length : Int) - 1)).toNat ({ x3 with at_ := (min (x3.at_ + 1) ((bG.code.length : Int) - 1)) })) iH sx.cells ig)) rfl ⟨⟨⟨⟨trivial, trivial⟩, trivial⟩, trivial⟩, trivial⟩
 refine aX YY rfl rfl (MH N _ _ J9 sb (⟨(sx.frames.set (((sx.frames.length : Int) - 1)).toNat ({ x3 with at_ := (min (x3.at_ + 1) ((bG.code.length : Int) - 1)) })), sx.cells, sx.status, sx.aL⟩ : LX.State) gT vs1 iH ig J7 J8 aT mZ (h.Ta 1 154 rfl rfl) _ RG) ?_
 rintro _ w ⟨Fb, Bd, Be, yJ, yK, rfl, MQ, Ka⟩
 refine ⟨_, rfl, ?_⟩
 replace h := h.back 1 (C := (cT sb gT vs1 (sx.status) (sx.aL) (sx.frames.set (((sx.frames.length : Int) - 1)).toNat ({ x3 with at_ := (min (x3.at_ + 1) ((bG.code.length : Int) - 1)) })) iH sx.cells ig)) (C' := (cT sb Bd Be (jM.2.status) (jM.2.aL) jM.2.frames yJ jM.2.cells yK)) rfl ⟨⟨⟨⟨trivial, trivial⟩, trivial⟩, trivial⟩, trivial⟩ MQ Fb Ka
 replace h := h.bY 1 5 (by decide) rfl rfl
 replace h := h.bY 1 4 (by decide) rfl rfl
 replace h := h.bY 1 3 (by decide) rfl rfl
 replace h := h.bY 1 2 (by decide) rfl rfl
 replace Ad := aP.step Ad Fb (fun _ hx _ => .inl (hx))
 refine az (aR Ad (bA 4 (by kernel_rfl) rfl aj (vO (vs := [(.bool (false)), (I6 0), (.bool (false))]) h 7 [(.bool (false)), (I6 0), (.bool (false))] rfl iR rfl rfl rfl rfl rfl (ai rfl (ai rfl (ai rfl aS))) fun w h MR => ?_)))
 replace Ad := aP.step Ad MR (fun _ hx _ => .inr (hx))
 refine az (aR Ad (dG 5 Ad rfl (by kernel_rfl) (fun w hk => ae (v := (.bool (jM.1))) rfl) (fK (by kernel_rfl) (ak (BR (aF (ay (ll (vs := [(.bool (false)), (I6 0), (.bool (false))]) (v2 := (.bool (jM.1))) Tryz.results65 rfl rfl h 7 rfl iR rfl ?_))))))))
 replace h := h.pair 1 2 (by decide)
 replace h := h.pair 1 3 (by decide)
 replace h := h.pair 1 4 (by decide)
 replace h := h.pair 1 5 (by decide)
 obtain rfl := fP hs
 subst vZ
 obtain ⟨o1, o2, o3⟩ := h.kJ 1 (C := (cT sb Bd Be (jM.2.status) (jM.2.aL) jM.2.frames yJ jM.2.cells yK)) rfl ⟨⟨⟨⟨trivial, trivial⟩, trivial⟩, trivial⟩, trivial⟩
 exact ⟨o2, Bd, Be, yJ, yK, rfl, o1, o3⟩
 replace h := h.pair 1 2 (by decide)
 replace h := h.pair 1 3 (by decide)
 replace h := h.pair 1 4 (by decide)
 replace h := h.pair 1 5 (by decide)
 obtain ⟨J7, J8, J9⟩ := h.z8 1 (C := (cT sb gT vs1 (sx.status) (sx.aL) (sx.frames.set (((sx.frames.length : Int) - 1)).toNat ({ x3 with at_ := (min (x3.at_ + 1) ((bG.code.length : Int) - 1)) })) iH sx.cells ig)) rfl ⟨⟨⟨⟨trivial, trivial⟩, trivial⟩, trivial⟩, trivial⟩
 refine aX YY rfl rfl (MH N _ _ J9 sb (⟨(sx.frames.set (((sx.frames.length : Int) - 1)).toNat ({ x3 with at_ := (min (x3.at_ + 1) ((bG.code.length : Int) - 1)) })), sx.cells, sx.status, sx.aL⟩ : LX.State) gT vs1 iH ig J7 J8 aT mZ (h.Ta 1 154 rfl rfl) _ RG) ?_
 rintro _ w ⟨Fb, Bd, Be, yJ, yK, rfl, MQ, Ka⟩
 refine ⟨_, rfl, ?_⟩
 replace h := h.back 1 (C := (cT sb gT vs1 (sx.status) (sx.aL) (sx.frames.set (((sx.frames.length : Int) - 1)).toNat ({ x3 with at_ := (min (x3.at_ + 1) ((bG.code.length : Int) - 1)) })) iH sx.cells ig)) (C' := (cT sb Bd Be (jM.2.status) (jM.2.aL) jM.2.frames yJ jM.2.cells yK)) rfl ⟨⟨⟨⟨trivial, trivial⟩, trivial⟩, trivial⟩, trivial⟩ MQ Fb Ka
 replace h := h.bY 1 5 (by decide) rfl rfl
 replace h := h.bY 1 4 (by decide) rfl rfl
 replace h := h.bY 1 3 (by decide) rfl rfl
 replace h := h.bY 1 2 (by decide) rfl rfl
 replace Ad := aP.step Ad Fb (fun _ hx _ => .inl (hx))
 refine az (aR Ad (bA 0 (by kernel_rfl) rfl aj (aa (dK (vs := [(.bool (false)), (I6 0), (.bool (false))]) h 7 rfl iR rfl rfl rfl) (az (aR Ad (bA 4 (by kernel_rfl) rfl aj (vO (vs := [(.bool (false)), (I6 0), (.bool (false))]) h 7 [(.bool (false)), (I6 0), (.bool (false))] rfl iR rfl rfl rfl rfl rfl (ai rfl (ai rfl (ai rfl aS))) fun w h MR => ?_)))))))
 replace Ad := aP.step Ad MR (fun _ hx _ => .inr (hx))
 refine az (aR Ad (dG 5 Ad rfl (by kernel_rfl) (fun w hk => ae (v := (.bool (jM.1))) rfl) (fK (by kernel_rfl) (ak (BR (aF (ay (ll (vs := [(.bool (false)), (I6 0), (.bool (false))]) (v2 := (.bool (jM.1))) Tryz.results65 rfl rfl h 7 rfl iR rfl ?_))))))))
 replace h := h.pair 1 2 (by decide)
 replace h := h.pair 1 3 (by decide)
 replace h := h.pair 1 4 (by decide)
 replace h := h.pair 1 5 (by decide)
 obtain rfl := fP hs
 subst vZ
 obtain ⟨o1, o2, o3⟩ := h.kJ 1 (C := (cT sb Bd Be (jM.2.status) (jM.2.aL) jM.2.frames yJ jM.2.cells yK)) rfl ⟨⟨⟨⟨trivial, trivial⟩, trivial⟩, trivial⟩, trivial⟩
 exact ⟨o2, Bd, Be, yJ, yK, rfl, o1, o3⟩
 refine nG (aa (bz rfl rfl) (aa (ae (v := (.bool (decide ((aT.op : Int) = 7)))) rfl) (nN (aI hs rfl (fun ZE hs => ?_) (fun ZE hs => ?_)))))
 refine aM ?_
 replace h := h.ed 3 8 rfl rfl (by decide) (lX (aB e4).2) e9 rfl
 refine kI (L := (fun b => Chunk.own' (cT sb gT vs1 (sx.status) (sx.aL) (sx.frames.set (((sx.frames.length : Int) - 1)).toNat ({ x3 with at_ := (min (x3.at_ + 1) ((bG.code.length : Int) - 1)) })) iH sx.cells ig) b ∨ b = b1)) mixed h fun w h => bE 1 (aP.refl _ _) rfl aj (by kernel_rfl) (by kernel_rfl) (by kernel_rfl) (fun w hk => ah (v := va) rfl) (bE 2 (aP.refl _ _) rfl aj (by kernel_rfl) (by kernel_rfl) (by kernel_rfl) (fun w hk => ah (v := (.pointer (some ⟨sb, 0, none⟩))) rfl) (bE 3 (aP.refl _ _) rfl aj (by kernel_rfl) (by kernel_rfl) (by kernel_rfl) (fun w hk => have h := ((((h.pair 1 2 (by decide)).pair 1 3 (by decide)).pair 1 4 (by decide)).pair 1 5 (by decide)).wB 1 7 (by decide) rfl rfl hk; dK (vs := [(I6 aT.op), (I6 aT.a), (I6 aT.b), (I6 aT.c), mZ]) h 177 rfl nT rfl rfl rfl) ?_))
 obtain ⟨iO, OM, hs⟩ := aK hs
 obtain ⟨ws114, aak⟩ : ∃ x, x = w := ⟨_, rfl⟩
 have Ae : aP (fun b => Chunk.own' (cT sb gT vs1 (sx.status) (sx.aL) (sx.frames.set (((sx.frames.length : Int) - 1)).toNat ({ x3 with at_ := (min (x3.at_ + 1) ((bG.code.length : Int) - 1)) })) iH sx.cells ig) b ∨ b = b1) ws114 w := aak ▸ aP.refl (fun b => Chunk.own' (cT sb gT vs1 (sx.status) (sx.aL) (sx.frames.set (((sx.frames.length : Int) - 1)).toNat ({ x3 with at_ := (min (x3.at_ + 1) ((bG.code.length : Int) - 1)) })) iH sx.cells ig) b ∨ b = b1) w
 refine rf aak.symm (nD 0 4 (by kernel_rfl) rfl aj rfl aj ?_ ?_)
 refine aa (dK (vs := [(.bool (false)), (I6 0), (.bool (false))]) h 7 rfl iR rfl rfl rfl) (az (aR Ae (bA 4 (by kernel_rfl) rfl aj ?_)))
 replace h := h.pair 1 2 (by decide)
 replace h := h.pair 1 3 (by decide)
 replace h := h.pair 1 4 (by decide)
 replace h := h.pair 1 5 (by decide)
 obtain ⟨G5, G6, G7⟩ := h.z8 1 (C := (cT sb gT vs1 (sx.status) (sx.aL) (sx.frames.set (((sx.frames.length : Int) - 1)).toNat ({ x3 with at_ := (min (x3.at_ + 1) ((bG.code.length : Int) - 1)) })) iH sx.cells ig)) rfl ⟨⟨⟨⟨trivial, trivial⟩, trivial⟩, trivial⟩, trivial⟩
 refine aX YZ rfl rfl (OE _ _ G7 sb (⟨(sx.frames.set (((sx.frames.length : Int) - 1)).toNat ({ x3 with at_ := (min (x3.at_ + 1) ((bG.code.length : Int) - 1)) })), sx.cells, sx.status, sx.aL⟩ : LX.State) gT vs1 iH ig G5 G6 va a (h.Ta 1 6 rfl rfl) aT mZ (h.Ta 1 154 rfl rfl) _ OM) ?_
 rintro _ w ⟨Dc, yL, yM, wG, wH, rfl, Kb, G8⟩
 refine ⟨_, rfl, ?_⟩
 replace h := h.back 1 (C := (cT sb gT vs1 (sx.status) (sx.aL) (sx.frames.set (((sx.frames.length : Int) - 1)).toNat ({ x3 with at_ := (min (x3.at_ + 1) ((bG.code.length : Int) - 1)) })) iH sx.cells ig)) (C' := (cT sb yL yM (iO.2.status) (iO.2.aL) iO.2.frames wG iO.2.cells wH)) rfl ⟨⟨⟨⟨trivial, trivial⟩, trivial⟩, trivial⟩, trivial⟩ Kb Dc G8
 replace h := h.bY 1 5 (by decide) rfl rfl
 replace h := h.bY 1 4 (by decide) rfl rfl
 replace h := h.bY 1 3 (by decide) rfl rfl
 replace h := h.bY 1 2 (by decide) rfl rfl
 replace Ae := aP.step Ae Dc (fun _ hx _ => .inl (hx))
 refine az (aR Ae (bA 5 (by kernel_rfl) rfl aj (vO (vs := [(.bool (false)), (I6 0), (.bool (false))]) h 7 [(.bool (false)), (I6 0), (.bool (false))] rfl iR rfl rfl rfl rfl rfl (ai rfl (ai rfl (ai rfl aS))) fun w h Kc => ?_)))
 replace Ae := aP.step Ae Kc (fun _ hx _ => .inr (hx))
 refine az (aR Ae (dG 6 Ae rfl (by kernel_rfl) (fun w hk => ae (v := (.bool (iO.1))) rfl) (fK (by kernel_rfl) (ak (BR (aF (ay (ll (vs := [(.bool (false)), (I6 0), (.bool (false))]) (v2 := (.bool (iO.1))) Tryz.results65 rfl rfl h 7 rfl iR rfl ?_))))))))
 replace h := h.pair 1 2 (by decide)
 replace h := h.pair 1 3 (by decide)
 replace h := h.pair 1 4 (by decide)
 replace h := h.pair 1 5 (by decide)
 obtain rfl := fP hs
 subst vZ
 obtain ⟨o1, o2, o3⟩ := h.kJ 1 (C := (cT sb yL yM (iO.2.status) (iO.2.aL) iO.2.frames wG iO.2.cells wH)) rfl ⟨⟨⟨⟨trivial, trivial⟩, trivial⟩, trivial⟩, trivial⟩
 exact ⟨o2, yL, yM, wG, wH, rfl, o1, o3⟩
 replace h := h.pair 1 2 (by decide)
 replace h := h.pair 1 3 (by decide)
 replace h := h.pair 1 4 (by decide)
 replace h := h.pair 1 5 (by decide)
 obtain ⟨G5, G6, G7⟩ := h.z8 1 (C := (cT sb gT vs1 (sx.status) (sx.aL) (sx.frames.set (((sx.frames.length : Int) - 1)).toNat ({ x3 with at_ := (min (x3.at_ + 1) ((bG.code.length : Int) - 1)) })) iH sx.cells ig)) rfl ⟨⟨⟨⟨trivial, trivial⟩, trivial⟩, trivial⟩, trivial⟩
 refine aX YZ rfl rfl (OE _ _ G7 sb (⟨(sx.frames.set (((sx.frames.length : Int) - 1)).toNat ({ x3 with at_ := (min (x3.at_ + 1) ((bG.code.length : Int) - 1)) })), sx.cells, sx.status, sx.aL⟩ : LX.State) gT vs1 iH ig G5 G6 va a (h.Ta 1 6 rfl rfl) aT mZ (h.Ta 1 154 rfl rfl) _ OM) ?_
 rintro _ w ⟨Dc, yL, yM, wG, wH, rfl, Kb, G8⟩
 refine ⟨_, rfl, ?_⟩
 replace h := h.back 1 (C := (cT sb gT vs1 (sx.status) (sx.aL) (sx.frames.set (((sx.frames.length : Int) - 1)).toNat ({ x3 with at_ := (min (x3.at_ + 1) ((bG.code.length : Int) - 1)) })) iH sx.cells ig)) (C' := (cT sb yL yM (iO.2.status) (iO.2.aL) iO.2.frames wG iO.2.cells wH)) rfl ⟨⟨⟨⟨trivial, trivial⟩, trivial⟩, trivial⟩, trivial⟩ Kb Dc G8
 replace h := h.bY 1 5 (by decide) rfl rfl
 replace h := h.bY 1 4 (by decide) rfl rfl
 replace h := h.bY 1 3 (by decide) rfl rfl
 replace h := h.bY 1 2 (by decide) rfl rfl
 replace Ae := aP.step Ae Dc (fun _ hx _ => .inl (hx))
 refine az (aR Ae (bA 0 (by kernel_rfl) rfl aj (aa (dK (vs := [(.bool (false)), (I6 0), (.bool (false))]) h 7 rfl iR rfl rfl rfl) (az (aR Ae (bA 5 (by kernel_rfl) rfl aj (vO (vs := [(.bool (false)), (I6 0), (.bool (false))]) h 7 [(.bool (false)), (I6 0), (.bool (false))] rfl iR rfl rfl rfl rfl rfl (ai rfl (ai rfl (ai rfl aS))) fun w h Kc => ?_)))))))
 replace Ae := aP.step Ae Kc (fun _ hx _ => .inr (hx))
 refine az (aR Ae (dG 6 Ae rfl (by kernel_rfl) (fun w hk => ae (v := (.bool (iO.1))) rfl) (fK (by kernel_rfl) (ak (BR (aF (ay (ll (vs := [(.bool (false)), (I6 0), (.bool (false))]) (v2 := (.bool (iO.1))) Tryz.results65 rfl rfl h 7 rfl iR rfl ?_))))))))
 replace h := h.pair 1 2 (by decide)
 replace h := h.pair 1 3 (by decide)
 replace h := h.pair 1 4 (by decide)
 replace h := h.pair 1 5 (by decide)
 obtain rfl := fP hs
 subst vZ
 obtain ⟨o1, o2, o3⟩ := h.kJ 1 (C := (cT sb yL yM (iO.2.status) (iO.2.aL) iO.2.frames wG iO.2.cells wH)) rfl ⟨⟨⟨⟨trivial, trivial⟩, trivial⟩, trivial⟩, trivial⟩
 exact ⟨o2, yL, yM, wG, wH, rfl, o1, o3⟩
 refine nG (aa (bz rfl rfl) (aa (ae (v := (.bool (decide ((aT.op : Int) = 8)))) rfl) (nN (aI hs rfl (fun c116 hs => ?_) (fun c116 hs => ?_)))))
 refine lg 10 mixed (by kernel_rfl) h fun w h => aD (ah (v := (.pointer (some ⟨sb, 0, none⟩))) rfl) (aD (ah (v := u8) rfl) (aD (ag jb rfl) (aD (aA h 177 rfl aU rfl rfl) ?_)))
 obtain ⟨NK, e118, hs⟩ := aK hs
 obtain ⟨b120, q121, i119⟩ := h.qY 8 rfl aZ rfl (aB e118).1 (aB e118).2
 refine aD (i119 _ _ _ _ _ _ _ _ _ rfl rfl) ?_
 obtain ⟨cs122, m123, r124⟩ := h.uF 8 rfl q121 (aB e118).2
 obtain rfl := r124
 refine aD (kg (k := 0) (vs := [(I6 NK.kind), (I6 NK.n)]) m123 aY rfl rfl rfl (bF rfl)) (aD (ah (v := (.pointer (some ⟨b6, (((sx.frames.length : Int) - 1)).toNat * 4, none⟩))) rfl) (aD (aW rfl) (aD (ag DF rfl) ?_)))
 obtain ⟨cs125, m126, r127⟩ := h.uF 2 rfl q7 (eu (lX (aB e4).2) e9)
 obtain ⟨rfl, -⟩ := r127
 refine aD (kH (k := 3) m126 aU rfl rfl) (uH ?_)
 replace h := h.ed 3 8 rfl rfl (by decide) (lX (aB e4).2) e9 rfl
 replace h := h.pair 1 2 (by decide)
 replace h := h.pair 1 3 (by decide)
 replace h := h.pair 1 4 (by decide)
 replace h := h.pair 1 5 (by decide)
 obtain ⟨l128a, l128b, l128c⟩ := h.z8 1 (C := (cT sb gT vs1 (sx.status) (sx.aL) (sx.frames.set (((sx.frames.length : Int) - 1)).toNat ({ x3 with at_ := (min (x3.at_ + 1) ((bG.code.length : Int) - 1)) })) iH sx.cells ig)) rfl ⟨⟨⟨⟨trivial, trivial⟩, trivial⟩, trivial⟩, trivial⟩
 obtain ⟨JS, e130, hs⟩ := aK hs
 refine aX fnOk91 rfl rfl (WJ _ _ l128c sb (⟨(sx.frames.set (((sx.frames.length : Int) - 1)).toNat ({ x3 with at_ := (min (x3.at_ + 1) ((bG.code.length : Int) - 1)) })), sx.cells, sx.status, sx.aL⟩ : LX.State) gT vs1 iH ig l128a l128b NK x3.lW _ e130) ?_
 rintro _ w ⟨k135, u131, u133, us132, us134, rfl, h136, h137⟩
 refine ⟨_, rfl, ?_⟩
 replace h := h.back 1 (C := (cT sb gT vs1 (sx.status) (sx.aL) (sx.frames.set (((sx.frames.length : Int) - 1)).toNat ({ x3 with at_ := (min (x3.at_ + 1) ((bG.code.length : Int) - 1)) })) iH sx.cells ig)) (C' := (cT sb u131 u133 (JS.status) (JS.aL) JS.frames us132 JS.cells us134)) rfl ⟨⟨⟨⟨trivial, trivial⟩, trivial⟩, trivial⟩, trivial⟩ h136 k135 h137
 replace h := h.bY 1 5 (by decide) rfl rfl
 replace h := h.bY 1 4 (by decide) rfl rfl
 replace h := h.bY 1 3 (by decide) rfl rfl
 replace h := h.bY 1 2 (by decide) rfl rfl
 refine az (ax (au ?_))
 exact bQ (false, u131, us132, JS.frames, u133, us134, JS.cells, JS.status, JS.aL) ⟨h.cn _, hs⟩
 refine nG (aa (bz rfl rfl) (aa (ae (v := (.bool (decide ((aT.op : Int) = 9)))) rfl) (nN (aI hs rfl (fun c138 hs => ?_) (fun c138 hs => ?_)))))
 refine aM (kI (L := (fun x => x = b1)) mixed h fun w h => bE 0 (aP.refl _ _) rfl aj (by kernel_rfl) (by kernel_rfl) (by kernel_rfl) (fun w hk => ah (v := u8) rfl) (bE 1 (aP.refl _ _) rfl aj (by kernel_rfl) (by kernel_rfl) (by kernel_rfl) (fun w hk => ag jb rfl) (bE 2 (aP.refl _ _) rfl aj (by kernel_rfl) (by kernel_rfl) (by kernel_rfl) (fun w hk => have h := h.qB 7 rfl hk; aA h 177 rfl aU rfl rfl) ?_)))
 obtain ⟨rO, AB, hs⟩ := aK hs
 obtain ⟨bq142x3_4, OO, W9⟩ := h.qY 8 rfl aZ rfl (aB AB).1 (aB AB).2
 refine bE 3 (aP.refl _ _) rfl aj (by kernel_rfl) (by kernel_rfl) (by kernel_rfl) (fun w hk => W9 _ _ _ _ _ _ _ _ _ rfl rfl) (bE 4 (aP.refl _ _) rfl aj (by kernel_rfl) (by kernel_rfl) (by kernel_rfl) (fun w hk => ag fu rfl) ?_)
 obtain ⟨csq142x5_1, Xa, Xb⟩ := h.uF 8 rfl OO (aB AB).2
 obtain rfl := Xb
 have Xc : ¬ (_ = b1) := (h.apart 8 7 (by decide) _ OO)
 refine bE 5 (aP.refl _ _) rfl aj (by kernel_rfl) (by kernel_rfl) (by kernel_rfl) (fun w hk => have h := h.qB 7 rfl hk; kH (k := 1) (Xa.hold hk Xc) aU rfl rfl) (bE 6 (aP.refl _ _) rfl aj (by kernel_rfl) (by kernel_rfl) (by kernel_rfl) (fun w hk => ek (pv := [(0, (.bool (true))), (1, (I6 rO.n))]) (out := [(.bool (true)), (I6 rO.n), (.bool (false))]) VX rfl ⟨0, 1, [(.bool (true))], rfl, rfl, rfl, bF rfl, ⟨1, 1, [(I6 rO.n)], rfl, rfl, rfl, bF rfl, rfl⟩⟩) (bE 7 (aP.refl _ _) rfl aj (by kernel_rfl) (by kernel_rfl) (by kernel_rfl) (fun w hk => ah (v := u8) rfl) (bE 8 (aP.refl _ _) rfl aj (by kernel_rfl) (by kernel_rfl) (by kernel_rfl) (fun w hk => ag jb rfl) (bE 9 (aP.refl _ _) rfl aj (by kernel_rfl) (by kernel_rfl) (by kernel_rfl) (fun w hk => have h := h.qB 7 rfl hk; aA h 177 rfl aU rfl rfl) ?_))))
 obtain ⟨bq142x10_2, MS, Uh⟩ := h.qY 8 rfl aZ rfl (aB AB).1 (aB AB).2
 refine bE 10 (aP.refl _ _) rfl aj (by kernel_rfl) (by kernel_rfl) (by kernel_rfl) (fun w hk => Uh _ _ _ _ _ _ _ _ _ rfl rfl) (bE 11 (aP.refl _ _) rfl aj (by kernel_rfl) (by kernel_rfl) (by kernel_rfl) (fun w hk => ag mW rfl) ?_)
 obtain ⟨csq142x12_1, Ui, Uj⟩ := h.uF 8 rfl MS (aB AB).2
 obtain rfl := Uj
 have Uk : ¬ (_ = b1) := (h.apart 8 7 (by decide) _ MS)
 refine bE 12 (aP.refl _ _) rfl aj (by kernel_rfl) (by kernel_rfl) (by kernel_rfl) (fun w hk => have h := h.qB 7 rfl hk; kH (k := 0) (Ui.hold hk Uk) aU rfl rfl) (bE 13 (aP.refl _ _) rfl aj (by kernel_rfl) (by kernel_rfl) (by kernel_rfl) (fun w hk => bz rfl rfl) ?_)
 obtain ⟨ws143, aal⟩ : ∃ x, x = w := ⟨_, rfl⟩
 have Vs : aP (fun x => x = b1) ws143 w := aal ▸ aP.refl (fun x => x = b1) w
 refine rf aal.symm (bA 14 (by kernel_rfl) rfl aj (vO (vs := [(.bool (true)), (I6 rO.n), (.bool (false))]) h 7 [(.bool (true)), (I6 rO.n), (.bool (false))] rfl iR rfl rfl rfl rfl rfl (ai rfl (ai rfl (ai rfl aS))) fun w h Ul => ?_))
 replace Vs := Vs.same Ul
 refine az (aR Vs (dG 15 Vs rfl (by kernel_rfl) (fun w hk => ae (v := (.bool (decide ((rO.kind : Int) = 1)))) rfl) (fK (by kernel_rfl) (ak (BR (aF (ay (ll (vs := [(.bool (true)), (I6 rO.n), (.bool (false))]) (v2 := (.bool (decide ((rO.kind : Int) = 1)))) Tryz.results65 rfl rfl h 7 rfl iR rfl ?_))))))))
 replace h := h.ed 3 8 rfl rfl (by decide) (lX (aB e4).2) e9 rfl
 replace h := h.pair 1 2 (by decide)
 replace h := h.pair 1 3 (by decide)
 replace h := h.pair 1 4 (by decide)
 replace h := h.pair 1 5 (by decide)
 obtain rfl := fP hs
 subst vZ
 obtain ⟨o1, o2, o3⟩ := h.kJ 1 (C := (cT sb gT vs1 (sx.status) (sx.aL) (sx.frames.set (((sx.frames.length : Int) - 1)).toNat ({ x3 with at_ := (min (x3.at_ + 1) ((bG.code.length : Int) - 1)) })) iH sx.cells ig)) rfl ⟨⟨⟨⟨trivial, trivial⟩, trivial⟩, trivial⟩, trivial⟩
 exact ⟨o2, gT, vs1, iH, ig, rfl, o1, o3⟩
 refine nG (aa (bz rfl rfl) (aa (ae (v := (.bool (decide ((aT.op : Int) = 10)))) rfl) (nN (aI hs rfl (fun c145 hs => ?_) (fun c145 hs => ?_)))))
 refine aC (aa (ag L9 rfl) (gq h 7 [(.bool (false)), (I6 0), (.bool (true))] rfl BB rfl rfl rfl rfl rfl fun w h => az (ax ?_)))
 replace h := h.ed 3 8 rfl rfl (by decide) (lX (aB e4).2) e9 rfl
 refine au ?_
 exact bQ (true, gT, iH, (sx.frames.set (((sx.frames.length : Int) - 1)).toNat ({ x3 with at_ := (min (x3.at_ + 1) ((bG.code.length : Int) - 1)) })), vs1, ig, sx.cells, sx.status, sx.aL) ⟨h.cn _, hs⟩
 refine nG (aa (bz rfl rfl) (aa (ae (v := (.bool (decide ((aT.op : Int) = 11)))) rfl) (nN (aI hs rfl (fun c146 hs => ?_) (fun c146 hs => ?_)))))
 refine aM (nG (aa (ah (v := u8) rfl) (aa (ag jb rfl) (aa (aA h 177 rfl aU rfl rfl) ?_))))
 obtain ⟨aab, Xd, hs⟩ := aK hs
 obtain ⟨b150, q151, i149⟩ := h.qY 8 rfl aZ rfl (aB Xd).1 (aB Xd).2
 refine aa (i149 _ _ _ _ _ _ _ _ _ rfl rfl) (aa (ag mW rfl) ?_)
 obtain ⟨cs152, m153, r154⟩ := h.uF 8 rfl q151 (aB Xd).2
 obtain rfl := r154
 refine aa (kH (k := 0) m153 aU rfl rfl) (aa (iA rfl rfl) (nN (aI hs rfl (fun c155 hs => ?_) (fun c155 hs => ?_))))
 refine nG (aa (dK (vs := [(.bool (false)), (I6 0), (.bool (false))]) h 7 rfl iR rfl rfl rfl) (dH (vs := [(.bool (false)), (I6 0), (.bool (false))]) h 7 [(.bool (false)), (I6 0), (.bool (false))] rfl iR rfl rfl rfl rfl rfl (ai rfl (ai rfl (ai rfl aS))) fun w h => aa (ae (v := (.bool (false))) rfl) (nR (ay (aF (ay (ll (vs := [(.bool (false)), (I6 0), (.bool (false))]) (v2 := (.bool (false))) Tryz.results65 rfl rfl h 7 rfl iR rfl ?_)))))))
 replace h := h.ed 3 8 rfl rfl (by decide) (lX (aB e4).2) e9 rfl
 replace h := h.pair 1 2 (by decide)
 replace h := h.pair 1 3 (by decide)
 replace h := h.pair 1 4 (by decide)
 replace h := h.pair 1 5 (by decide)
 obtain rfl := fP hs
 subst vZ
 obtain ⟨o1, o2, o3⟩ := h.kJ 1 (C := (cT sb gT vs1 (sx.status) (sx.aL) (sx.frames.set (((sx.frames.length : Int) - 1)).toNat ({ x3 with at_ := (min (x3.at_ + 1) ((bG.code.length : Int) - 1)) })) iH sx.cells ig)) rfl ⟨⟨⟨⟨trivial, trivial⟩, trivial⟩, trivial⟩, trivial⟩
 exact ⟨o2, gT, vs1, iH, ig, rfl, o1, o3⟩
 refine aH (ak (aC (aa (ah (v := (.pointer (some ⟨sb, 0, none⟩))) rfl) (aa (ah (v := (.pointer (some ⟨sb, 0, none⟩))) rfl) (aa (ah (v := u8) rfl) (aa (ag jb rfl) (aa (aA h 177 rfl aU rfl rfl) ?_)))))))
 obtain ⟨b157, q158, i156⟩ := h.qY 8 rfl aZ rfl (aB Xd).1 (aB Xd).2
 refine aa (i156 _ _ _ _ _ _ _ _ _ rfl rfl) (aa (ag fu rfl) ?_)
 obtain ⟨cs159, m160, r161⟩ := h.uF 8 rfl q158 (aB Xd).2
 obtain rfl := r161
 refine aa (kH (k := 1) m160 aU rfl rfl) (aa (aW rfl) (aa (ag lq rfl) (gq h 1 [gT, vs1, (I6 3), (I6 sx.aL)] rfl aU rfl rfl rfl rfl rfl fun w h => aa (aW rfl) (aa (ag Aj rfl) (gq h 1 [gT, vs1, (I6 3), (I6 aab.n)] rfl aU rfl rfl rfl rfl rfl fun w h => aa (ag L9 rfl) (gq h 7 [(.bool (false)), (I6 0), (.bool (true))] rfl BB rfl rfl rfl rfl rfl fun w h => az (ax ?_)))))))
 replace h := h.ed 3 8 rfl rfl (by decide) (lX (aB e4).2) e9 rfl
 refine au ?_
 exact bQ (true, gT, iH, (sx.frames.set (((sx.frames.length : Int) - 1)).toNat ({ x3 with at_ := (min (x3.at_ + 1) ((bG.code.length : Int) - 1)) })), vs1, ig, sx.cells, 3, aab.n) ⟨h.cn _, hs⟩
 refine nG (aa (bz rfl rfl) (aa (ae (v := (.bool (decide ((aT.op : Int) = 12)))) rfl) (nN (aI hs rfl (fun c162 hs => ?_) (fun c162 hs => ?_)))))
 refine aC (aa (ah (v := (.pointer (some ⟨b6, (((sx.frames.length : Int) - 1)).toNat * 4, none⟩))) rfl) (aa (ag gp rfl) (aa (aA h 177 rfl aU rfl rfl) (aa (aW rfl) (aa (ag qC rfl) (Ii (a' := (({ x3 with at_ := aT.b }), u8)) h 2 rfl q7 rfl (eu (lX (aB e4).2) e9) aU rfl rfl rfl rfl (by rintro _ ⟨rfl, hq⟩; exact ⟨rfl, hq⟩) fun w h => ?_))))))
 rw [Cr e9] at h
 replace h := h.VQ 3 ({ x3 with at_ := aT.b }) rfl
 refine az (ax ?_)
 replace h := h.ed 3 8 rfl rfl (by decide) (lX (lX (aB e4).2)) e9 rfl
 refine au ?_
 exact bQ (false, gT, iH, ((sx.frames.set (((sx.frames.length : Int) - 1)).toNat ({ x3 with at_ := (min (x3.at_ + 1) ((bG.code.length : Int) - 1)) })).set (((sx.frames.length : Int) - 1)).toNat ({ x3 with at_ := aT.b })), vs1, ig, sx.cells, sx.status, sx.aL) ⟨h.cn _, hs⟩
 refine nG (aa (bz rfl rfl) (aa (ae (v := (.bool (decide ((aT.op : Int) = 13)))) rfl) (nN (aI hs rfl (fun c163 hs => ?_) (fun c163 hs => ?_)))))
 refine nG (aa (ah (v := u8) rfl) (aa (ag jb rfl) (aa (aA h 177 rfl aU rfl rfl) ?_)))
 obtain ⟨GZ, e165, hs⟩ := aK hs
 obtain ⟨b167, q168, i166⟩ := h.qY 8 rfl aZ rfl (aB e165).1 (aB e165).2
 refine aa (i166 _ _ _ _ _ _ _ _ _ rfl rfl) ?_
 obtain ⟨cs169, m170, r171⟩ := h.uF 8 rfl q168 (aB e165).2
 obtain rfl := r171
 refine aa (kg (k := 0) (vs := [(I6 GZ.kind), (I6 GZ.n)]) m170 aY rfl rfl rfl (bF rfl)) (bP h 995 aY fun w b172 h => dH (vs := [(I6 GZ.kind), (I6 GZ.n)]) h 995 [(I6 GZ.kind), (I6 GZ.n)] rfl aY rfl rfl rfl rfl rfl (ai rfl (ai rfl aS)) fun w h => nJ (aa (ag mW rfl) (aa (aA h 995 rfl aU rfl rfl) (aa (bz rfl rfl) (aa (ah (v := (.bool (decide ((GZ.kind : Int) = 0)))) rfl) (aG rfl rfl (fun q => ag mW rfl) (aG rfl rfl (fun q => aA h 995 rfl aU (eD q) rfl) (aG rfl rfl (fun q => bz (eD q) rfl) (aG rfl rfl (fun q => ah (v := (.bool (decide ((GZ.kind : Int) = 1)))) (eD q)) (kG (decide ((GZ.kind : Int) = 0) == false) rfl rfl (fun q => ag fu rfl) (kG (decide ((GZ.kind : Int) = 0) == false) rfl rfl (fun q => aA h 995 rfl aU (eD q) rfl) (kG (decide ((GZ.kind : Int) = 0) == false) rfl rfl (fun q => bz (eD q) rfl) (aG rfl rfl (fun q => gZ (eD q) (QN q) nC) (aa (iJ rfl rfl nC) (nN (aI hs rfl (fun c173 hs => ?_) (fun c173 hs => ?_)))))))))))))))))
 refine aC (aa (ah (v := (.pointer (some ⟨b6, (((sx.frames.length : Int) - 1)).toNat * 4, none⟩))) rfl) (aa (ag gp rfl) (aa (aA h 177 rfl aU rfl rfl) (aa (aW rfl) (aa (ag qC rfl) (Ii (a' := (({ x3 with at_ := aT.b }), u8)) h 2 rfl q7 rfl (eu (lX (aB e4).2) e9) aU rfl rfl rfl rfl (by rintro _ ⟨rfl, hq⟩; exact ⟨rfl, hq⟩) fun w h => ?_))))))
 rw [Cr e9] at h
 replace h := h.VQ 3 ({ x3 with at_ := aT.b }) rfl
 refine az (ax ?_)
 replace h := h.ed 3 8 rfl rfl (by decide) (lX (lX (aB e4).2)) e9 rfl
 refine au ?_
 exact bQ (false, gT, iH, ((sx.frames.set (((sx.frames.length : Int) - 1)).toNat ({ x3 with at_ := (min (x3.at_ + 1) ((bG.code.length : Int) - 1)) })).set (((sx.frames.length : Int) - 1)).toNat ({ x3 with at_ := aT.b })), vs1, ig, sx.cells, sx.status, sx.aL) ⟨h.cn _, hs⟩
 refine aH (ax ?_)
 replace h := h.ed 3 8 rfl rfl (by decide) (lX (aB e4).2) e9 rfl
 refine au ?_
 exact bQ (false, gT, iH, (sx.frames.set (((sx.frames.length : Int) - 1)).toNat ({ x3 with at_ := (min (x3.at_ + 1) ((bG.code.length : Int) - 1)) })), vs1, ig, sx.cells, sx.status, sx.aL) ⟨h.cn _, hs⟩
 refine aH (ax ?_)
 replace h := h.ed 3 8 rfl rfl (by decide) (lX (aB e4).2) e9 rfl
 refine au ?_
 exact bQ (false, gT, iH, (sx.frames.set (((sx.frames.length : Int) - 1)).toNat ({ x3 with at_ := (min (x3.at_ + 1) ((bG.code.length : Int) - 1)) })), vs1, ig, sx.cells, sx.status, sx.aL) ⟨h.cn _, hs⟩
 refine nG (aa (bz rfl rfl) (aa (ae (v := (.bool (decide ((aT.op : Int) = 4)))) rfl) (nN (aI hs rfl (fun c174 hs => ?_) (fun c174 hs => ?_)))))
 refine aH (au ?_)
 exact bQ (decide ((aT.op : Int) = 4)) ⟨h.cn _, hs⟩
 refine aC (aa (bz rfl rfl) (aa (ae (v := (.bool (decide ((aT.op : Int) = 6)))) rfl) (az (au ?_))))
 exact bQ (decide ((aT.op : Int) = 6)) ⟨h.cn _, hs⟩
def wX (DY : List Int) (x20 : Int) (y23 : List LX.Frame) (Li : List (List Val)) (y27 : Int) (y28 : Int) : Option (LX.State × List Int × Int × Int) :=
  some ((⟨y23, Li, y27, y28⟩ : LX.State), DY, x20, 0)
def Bf (jg : Gu × Bool × LX.State) (Ic : Int) (NL : (List Int × Int × List LX.Frame × List (List Val) × Int × Int) → Option (LX.State × List Int × Int × Int)) (Bg : List Int) : Option (LX.State × List Int × Int × Int) :=
  bif jg.1.Jl then wX Bg (Ic + 1) jg.2.2.frames jg.2.2.cells jg.2.2.status jg.2.2.aL else NL (Bg, (Ic + 1), jg.2.2.frames, jg.2.2.cells, jg.2.2.status, jg.2.2.aL)
def Bh (N : Nat) (uR : List Int) (Ic : Int) (tY : List LX.Frame) (Dv : List (List Val)) (AJ : Int) (Lh : Int) (a : List bL) (NL : (List Int × Int × List LX.Frame × List (List Val) × Int × Int) → Option (LX.State × List Int × Int × Int)) (x93 : Bool) : Option (LX.State × List Int × Int × Int) :=
  bif x93 then wX uR Ic tY Dv AJ Lh else (D6 (⟨tY, Dv, AJ, Lh⟩ : LX.State)).bind fun y95 => (tq N y95 a).bind fun jg => ib (jV (Ic + 1)) (bif (!jg.2.1) then wX uR (Ic + 1) tY Dv 2 Lh else bif jg.1.said then ib (Room 8 uR [jg.1.n]) (Bf jg Ic NL (uR ++ [jg.1.n])) else Bf jg Ic NL uR)
def wI (N : Nat) (c : Int) (a : List bL) (s : List Int × Int × List LX.Frame × List (List Val) × Int × Int) (NL : List Int × Int × List LX.Frame × List (List Val) × Int × Int → Option (LX.State × List Int × Int × Int)) : Option (LX.State × List Int × Int × Int) :=
  match s with | (uR, Ic, tY, Dv, AJ, Lh) => bif (decide ((Ic : Int) < c) && decide ((AJ : Int) = 0)) then ib (jV ((tY.length : Int) - 1)) ((idx tY ((tY.length : Int) - 1)).bind fun x82 => bif decide (((uR.length : Int) : Int) = 40) then (idx a x82.proc).bind fun Mm => (idx Mm.code x82.at_).bind fun zH => Bh N uR Ic tY Dv AJ Lh a NL (decide ((zH.op : Int) = 9)) else Bh N uR Ic tY Dv AJ Lh a NL false) else wX uR Ic tY Dv AJ Lh
def Qp (N : Nat) (a : List bL) (b : LX.State) (c : Int) : Option (LX.State × List Int × Int × Int) :=
  (ER a b).bind fun y3 => bif decide ((y3 : Int) ≠ 0) then some ((⟨[], [], 0, 0⟩ : LX.State), [], 0, y3) else bif (decide ((c : Int) < 0) || decide ((2000 : Int) < c)) then some ((⟨[], [], 0, 0⟩ : LX.State), [], 0, 3) else bif decide ((b.status : Int) ≠ 0) then some ((⟨[], [], 0, 0⟩ : LX.State), [], 0, 7) else (D6 b).bind fun y9 => again (wI N c a) N ([], 0, y9.frames, y9.cells, y9.status, y9.aL)
theorem aam (N : Nat) (w0 : World) (M : BS) (hM : ∀ b, M b → b < w0.heap.size) (va : Value) (a : List bL) (ha : gX jk w0 M va a) (b : LX.State) (vb0 vb1 : Value) (hb0 : gy fC w0 BE M vb0 b.frames) (hb1 : gy (rU bC) w0 BE M vb1 b.cells) (c : Int) (r : LX.State × List Int × Int × Int) (hs : Qp N a b c = some r) :
    Calls Tryz.prog 28 #[va, (.agg #[vb0, vb1, (I6 b.status), (I6 b.aL)]), (I6 c)] w0 (fun e w' => Grow w0 w' ∧ ∃ uC, ∃ wF, ∃ u1, e = .returned (.tuple #[.agg #[uC, wF, .int .i64 r.1.status, .int .i64 r.1.aL], u1, .int .i64 r.2.2.1, .int .i64 r.2.2.2]) ∧ gX fC w' (fun b => M b ∨ ob u1 b) uC r.1.frames ∧ gX (rU bC) w' (fun b => M b ∨ ob u1 b) wF r.1.cells ∧ fI eP 3 w' M u1 r.2.1 ∧ (∀ b, ob u1 b → w0.heap.size ≤ b)) := by
 refine aQ (args := [va, (.agg #[vb0, vb1, (I6 b.status), (I6 b.aL)]), (I6 c)]) Tryz.func28 rfl Tryz.ntmps28 (bF rfl) ?_
 have h := SH.init hM
 replace h := h.QH 1 ha bH
 replace h := h.gz 2 hb0 (BI bH)
 replace h := h.gz 3 hb1 (dL (BI bH))
 have vC := ha.bT
 refine nG (mD (cs := [vb0, vb1, (I6 b.status), (I6 b.aL)]) h 4 rfl rfl fun w b1 h => bP h 5 bM fun w b2 h => aa (ae (v := (.slice none 0 0)) rfl) (aa (ae (v := (I6 0)) rfl) (aa (ae (v := (I6 0)) rfl) (nK (aa (ah (v := va) rfl) (aa (dK (vs := [vb0, vb1, (I6 b.status), (I6 b.aL)]) h 4 rfl bM rfl rfl rfl) ?_))))))
 obtain ⟨y3, e4, hs⟩ := aK hs
 refine aX YO rfl rfl (Mw _ _ h.lt va a (h.ny 1 rfl) b vb0 vb1 (h.iV 2 rfl) (h.iV 3 rfl) _ e4) ?_
 rintro _ w ⟨k5, rfl⟩
 refine ⟨_, rfl, ?_⟩
 replace h := h.grow k5
 refine aa (ae (v := (I6 y3)) rfl) (nJ (aa (ah (v := (I6 y3)) rfl) (aa (iA rfl rfl) (nN (aI hs rfl (fun c6 hs => ?_) (fun c6 hs => ?_))))))
 refine nG (aa (ek (pv := []) (out := [(.slice none 0 0), (.slice none 0 0), (I6 0), (I6 0)]) rA rfl rfl) (aa (ah (v := (I6 y3)) rfl) (dH (vs := [(.slice none 0 0), (.slice none 0 0), (I6 0), (I6 0)]) h 5 [(.slice none 0 0), (.slice none 0 0), (I6 0), (I6 0)] rfl bM rfl rfl rfl rfl rfl (ai rfl (ai rfl (ai rfl (ai rfl aS)))) fun w h => aa (ae (v := (.slice none 0 0)) rfl) (aa (ae (v := (I6 0)) rfl) (aa (ae (v := (I6 y3)) rfl) (nR (ay (Ir (vs := [(.slice none 0 0), (.slice none 0 0), (I6 0), (I6 0)]) (v2 := (.slice none 0 0)) (v3 := (I6 0)) (v4 := (I6 y3)) Tryz.results28 rfl rfl rfl rfl h 5 rfl bM rfl ?_))))))))
 obtain rfl := fP hs
 exact ⟨h.grown, _, _, _, rfl, gy.nil, gy.nil, fI.nil, lN⟩
 refine aH (ak (aM (nG (aa (ah (v := (I6 c)) rfl) (aa (eB rfl rfl) (aa (ah (v := (.bool (decide ((c : Int) < 0)))) rfl) (aG rfl rfl (fun q => ah (v := (I6 c)) rfl) (aG rfl rfl (fun q => lT (eD q) rfl) (aa (iJ rfl rfl nC) (nN (aI hs rfl (fun c7 hs => ?_) (fun c7 hs => ?_))))))))))))
 refine nG (aa (ek (pv := []) (out := [(.slice none 0 0), (.slice none 0 0), (I6 0), (I6 0)]) rA rfl rfl) (dH (vs := [(.slice none 0 0), (.slice none 0 0), (I6 0), (I6 0)]) h 5 [(.slice none 0 0), (.slice none 0 0), (I6 0), (I6 0)] rfl bM rfl rfl rfl rfl rfl (ai rfl (ai rfl (ai rfl (ai rfl aS)))) fun w h => aa (ae (v := (.slice none 0 0)) rfl) (aa (ae (v := (I6 0)) rfl) (aa (ae (v := (I6 3)) rfl) (nR (ay (Ir (vs := [(.slice none 0 0), (.slice none 0 0), (I6 0), (I6 0)]) (v2 := (.slice none 0 0)) (v3 := (I6 0)) (v4 := (I6 3)) Tryz.results28 rfl rfl rfl rfl h 5 rfl bM rfl ?_)))))))
 obtain rfl := fP hs
 exact ⟨h.grown, _, _, _, rfl, gy.nil, gy.nil, fI.nil, lN⟩
 refine aH (ak (aM (nG (aa (ag lq rfl) (aa (aA h 4 rfl aU rfl rfl) (aa (iA rfl rfl) (nN (aI hs rfl (fun c8 hs => ?_) (fun c8 hs => ?_)))))))))
 refine nG (aa (ek (pv := []) (out := [(.slice none 0 0), (.slice none 0 0), (I6 0), (I6 0)]) rA rfl rfl) (dH (vs := [(.slice none 0 0), (.slice none 0 0), (I6 0), (I6 0)]) h 5 [(.slice none 0 0), (.slice none 0 0), (I6 0), (I6 0)] rfl bM rfl rfl rfl rfl rfl (ai rfl (ai rfl (ai rfl (ai rfl aS)))) fun w h => aa (ae (v := (.slice none 0 0)) rfl) (aa (ae (v := (I6 0)) rfl) (aa (ae (v := (I6 7)) rfl) (nR (ay (Ir (vs := [(.slice none 0 0), (.slice none 0 0), (I6 0), (I6 0)]) (v2 := (.slice none 0 0)) (v3 := (I6 0)) (v4 := (I6 7)) Tryz.results28 rfl rfl rfl rfl h 5 rfl bM rfl ?_)))))))
 obtain rfl := fP hs
 exact ⟨h.grown, _, _, _, rfl, gy.nil, gy.nil, fI.nil, lN⟩
 refine nS (aa (dK (vs := [vb0, vb1, (I6 b.status), (I6 b.aL)]) h 4 rfl bM rfl rfl rfl) ?_)
 obtain ⟨y9, e10, hs⟩ := aK hs
 refine aX PV rfl rfl (FQ _ _ h.lt b vb0 vb1 (h.iV 2 rfl) (h.iV 3 rfl) _ e10) ?_
 rintro _ w ⟨k17, u11, Mg, Jz, us14, rfl, h15, h16⟩
 refine ⟨_, rfl, ?_⟩
 replace h := h.PI 6 (C := (cU u11 Mg y9.frames Jz y9.cells us14)) k17 ⟨⟨⟨trivial, trivial⟩, trivial⟩, trivial⟩ h15 h16
 replace h := h.bY 6 9 (by decide) rfl rfl
 replace h := h.bY 6 8 (by decide) rfl rfl
 replace h := h.bY 6 7 (by decide) rfl rfl
 refine dH (vs := [u11, Mg, (I6 y9.status), (I6 y9.aL)]) h 4 [u11, Mg, (I6 y9.status), (I6 y9.aL)] rfl bM rfl rfl rfl rfl rfl (ai (h.dm 6 rfl).one (ai (h.dm 8 rfl).one (ai rfl (ai rfl aS)))) fun w h => nJ (aa (ae (v := (.slice none 0 0)) rfl) (nJ (aa (ae (v := (I6 0)) rfl) (nN (bX (σ := Value × List Int × Int × Value × List Value × List LX.Frame × Value × List Value × List (List Val) × Int × Int) (inl (rg 11 6 ++ rg 37 55)) (fun ⟨v18, DY, x20, v21, us22, y23, v24, us25, Li, y27, y28⟩ => [(11, v18), (12, (I6 x20))]) (fun ⟨v18, DY, x20, v21, us22, y23, v24, us25, Li, y27, y28⟩ w => SH w0 M BE w (hset [(4, .blk b1 [v21, v24, (I6 y27), (I6 y28)]), (5, .blk b2 [(.slice none 0 0), (.slice none 0 0), (I6 0), (I6 0)]), (10, .own bg.raw 49 v21 (List.zip y23 us22)), (11, .ik (dS bC 51 hn us22 (List.map bg.sub y23))), (12, .own (dZ Val).raw 47 v24 (List.zip Li us25)), (13, .ik (dS bC 51 hn us25 (List.map (dZ Val).sub Li))), (25, .own eP 3 v18 DY)]) ∧ wX DY x20 y23 Li y27 y28 = some r) ?_ ?_)))))
 rintro ⟨v18, DY, x20, v21, us22, y23, v24, us25, Li, y27, y28⟩ w dO ⟨h, hs⟩
 refine nG (aa (dK (vs := [v21, v24, (I6 y27), (I6 y28)]) h 4 rfl bM rfl rfl rfl) (aa (ah (v := v18) rfl) (aa (ah (v := (I6 x20)) rfl) (dH (vs := [v21, v24, (I6 y27), (I6 y28)]) h 5 [v21, v24, (I6 y27), (I6 y28)] rfl bM rfl rfl rfl rfl rfl (ai (h.dm 10 rfl).one (ai (h.dm 12 rfl).one (ai rfl (ai rfl aS)))) fun w h => aa (ae (v := v18) rfl) (aa (ae (v := (I6 x20)) rfl) (aa (ae (v := (I6 0)) rfl) (nR (Ir (vs := [v21, v24, (I6 y27), (I6 y28)]) (v2 := v18) (v3 := (I6 x20)) (v4 := (I6 0)) Tryz.results28 rfl rfl rfl rfl h 5 rfl bM rfl ?_))))))))
 replace h := h.ru (N := bg) (R' := fC) 10 11 rfl rfl (by decide) rfl tV
 replace h := h.ru (N := (dZ Val)) (R' := (rU bC)) 12 13 rfl rfl (by decide) rfl yT
 obtain rfl := fP hs
 exact ⟨h.grown, _, _, _, rfl, h.xq 10 25 rfl rfl, h.xq 12 25 rfl rfl, (h.jQ 25 rfl).1, (h.jQ 25 rfl).2⟩
 refine aO ?_
 replace h := h.yj (R := eP) (E := 3) 41
 replace h := (h.fA 42).moveC 6 42 rfl rfl (by decide)
 replace h := (h.fA 43).moveC 7 43 rfl rfl (by decide)
 replace h := (h.fA 44).moveC 8 44 rfl rfl (by decide)
 replace h := (h.fA 45).moveC 9 45 rfl rfl (by decide)
 refine gu (σ := Nat × Value × List Int × Int × Value × List Value × List LX.Frame × Value × List Value × List (List Val) × Int × Int) (inl (rg 11 6 ++ rg 37 55)) (fun ⟨m76, v62, uR, Ic, v65, NM, tY, v68, NP, Dv, AJ, Lh⟩ => [(11, v62), (12, (I6 Ic))]) (fun ⟨m76, v62, uR, Ic, v65, NM, tY, v68, NP, Dv, AJ, Lh⟩ w => SH w0 M BE w (hset [(1, .rd jk va a), (4, .blk b1 [v65, v68, (I6 AJ), (I6 Lh)]), (5, .blk b2 [(.slice none 0 0), (.slice none 0 0), (I6 0), (I6 0)]), (41, .own eP 3 v62 uR), (42, .own bg.raw 49 v65 (List.zip tY NM)), (43, .ik (dS bC 51 hn NM (List.map bg.sub tY))), (44, .own (dZ Val).raw 47 v68 (List.zip Dv NP)), (45, .ik (dS bC 51 hn NP (List.map (dZ Val).sub Dv)))]) ∧ again (wI N c a) m76 (uR, Ic, tY, Dv, AJ, Lh) = some r) (fun ⟨m76, v62, uR, Ic, v65, NM, tY, v68, NP, Dv, AJ, Lh⟩ => m76) ⟨N, (.slice none 0 0), [], 0, u11, Jz, y9.frames, Mg, us14, y9.cells, y9.status, y9.aL⟩ ⟨rfl, rfl, trivial⟩ ?_ ?_
 exact ⟨h.cn _, hs⟩
 rintro ⟨m76, v62, uR, Ic, v65, NM, tY, v68, NP, Dv, AJ, Lh⟩ w dO ⟨h, hs⟩
 obtain ⟨m761, m76e, m76h⟩ := qA hs
 subst m76e
 replace hs := m76h
 generalize hnx77 : again (wI N c a) m761 = NL at hs
 refine aM (nG (aa (ah (v := (I6 Ic)) rfl) (aa (ah (v := (I6 c)) rfl) (aa (eB rfl rfl) (aa (ah (v := (.bool (decide ((Ic : Int) < c)))) rfl) (aG rfl rfl (fun q => ag lq rfl) (aG rfl rfl (fun q => aA h 4 rfl aU (eD q) rfl) (aG rfl rfl (fun q => bz (eD q) rfl) (aa (gZ rfl rfl nC) (nN (aI hs rfl (fun c80 hs => ?_) (fun c80 hs => ?_))))))))))))
 refine aH (ak (aO (nG (aa (ag dQ rfl) (aa (aA h 4 rfl gD rfl rfl) (aa (ag dQ rfl) (aa (aA h 4 rfl gD rfl rfl) (aa (mM (N := bg) dx rfl (h.eG 42 rfl) (h.fD 43 rfl)) ?_))))))))
 obtain ⟨a81, hs⟩ := bB hs
 refine aa (mV rfl rfl a81) ?_
 obtain ⟨x82, e83, hs⟩ := aK hs
 obtain ⟨u87, e88, h⟩ := h.l6 43 46 x82.regs rfl rfl (by decide) (aB e83).2 rfl
 obtain ⟨Mf, q86, i84⟩ := h.qY 42 rfl dx rfl (aB e83).1 (eu (aB e83).2 e88)
 refine aa (i84 _ _ _ _ _ _ _ _ _ rfl rfl) ?_
 obtain ⟨cs89, m90, r91⟩ := h.uF 42 rfl q86 (eu (aB e83).2 e88)
 obtain ⟨rfl, -⟩ := r91
 refine aa (kg (k := 0) (vs := [(I6 x82.proc), (I6 x82.at_), u87, (I6 x82.lW)]) m90 il rfl rfl rfl (bF rfl)) (bP h 47 il fun w b92 h => dH (vs := [(I6 x82.proc), (I6 x82.at_), u87, (I6 x82.lW)]) h 47 [(I6 x82.proc), (I6 x82.at_), u87, (I6 x82.lW)] rfl il rfl rfl rfl rfl rfl (ai rfl (ai rfl (ai (h.dm 46 rfl).one (ai rfl aS)))) fun w h => nN (aM (bX (σ := Bool) (inl (rg 53 17)) (fun x93 => [(69, (.bool (x93)))]) (fun x93 w => SH w0 M BE w (hset [(1, .rd jk va a), (4, .blk b1 [v65, v68, (I6 AJ), (I6 Lh)]), (5, .blk b2 [(.slice none 0 0), (.slice none 0 0), (I6 0), (I6 0)]), (41, .own eP 3 v62 uR), (42, .own bg.raw 49 v65 (List.zip tY NM)), (43, .ik (dS bC 51 hn NM (List.map bg.sub tY))), (44, .own (dZ Val).raw 47 v68 (List.zip Dv NP)), (45, .ik (dS bC 51 hn NP (List.map (dZ Val).sub Dv)))]) ∧ Bh N uR Ic tY Dv AJ Lh a NL x93 = some r) ?_ ?_)))
 rintro x93 w dO ⟨h, hs⟩
 refine aI hs rfl (fun c94 hs => ?_) (fun c94 hs => ?_)
 refine iL (bI (yz (by decide) (bI (eH (au ?_)))))
 replace h := h.EB 41 25 rfl rfl (by decide)
 replace h := (h.fA 10).moveC 42 10 rfl rfl (by decide)
 replace h := (h.fA 11).moveC 43 11 rfl rfl (by decide)
 replace h := (h.fA 12).moveC 44 12 rfl rfl (by decide)
 replace h := (h.fA 13).moveC 45 13 rfl rfl (by decide)
 exact bQ (v62, uR, Ic, v65, NM, tY, v68, NP, Dv, AJ, Lh) ⟨h.cn _, hs⟩
 refine nS (aa (dK (vs := [v65, v68, (I6 AJ), (I6 Lh)]) h 4 rfl bM rfl rfl rfl) ?_)
 obtain ⟨y95, e96, hs⟩ := aK hs
 refine aX PV rfl rfl (FQ _ BE (fun _ h => h.elim) (⟨tY, Dv, AJ, Lh⟩ : LX.State) v65 v68 (h.EJ (N := bg) (R' := fC) 42 43 rfl rfl (by decide) rfl tV) (h.EJ (N := (dZ Val)) (R' := (rU bC)) 44 45 rfl rfl (by decide) rfl yT) _ e96) ?_
 rintro _ w ⟨k103, TK, u99, us98, Vt, rfl, h101, h102⟩
 refine ⟨_, rfl, ?_⟩
 replace h := h.U8 48 (C := (cU TK u99 y95.frames us98 y95.cells Vt)) k103 ⟨⟨⟨trivial, trivial⟩, trivial⟩, trivial⟩ ⟨⟨⟨(fun _ _ _ _ _ h => h), (wN (fun _ _ _ _ _ h => h))⟩, (fun _ _ _ _ _ h => h)⟩, (wN (fun _ _ _ _ _ h => h))⟩ h101 h102
 replace h := h.bY 48 51 (by decide) rfl rfl
 replace h := h.bY 48 50 (by decide) rfl rfl
 replace h := h.bY 48 49 (by decide) rfl rfl
 refine bP h 52 bM fun w b104 h => dH (vs := [TK, u99, (I6 y95.status), (I6 y95.aL)]) h 52 [TK, u99, (I6 y95.status), (I6 y95.aL)] rfl bM rfl rfl rfl rfl rfl (ai (h.dm 48 rfl).one (ai (h.dm 50 rfl).one (ai rfl (ai rfl aS)))) fun w h => nJ (aa (ah (v := va) rfl) ?_)
 replace h := h.pair 52 48 (by decide)
 replace h := h.pair 52 49 (by decide)
 replace h := h.pair 52 50 (by decide)
 replace h := h.pair 52 51 (by decide)
 obtain ⟨l105a, l105b, l105c⟩ := h.z8 52 (C := (cT b104 TK u99 (y95.status) (y95.aL) y95.frames us98 y95.cells Vt)) rfl ⟨⟨⟨⟨trivial, trivial⟩, trivial⟩, trivial⟩, trivial⟩
 obtain ⟨jg, e107, hs⟩ := aK hs
 refine aX fnOk65 rfl rfl (WN N _ _ l105c b104 y95 TK u99 us98 Vt l105a l105b va a (h.Ta 52 1 rfl rfl) _ e107) ?_
 rintro _ w ⟨k112, RH, Ga, RI, RJ, rfl, h113, h114⟩
 refine ⟨_, rfl, ?_⟩
 replace h := h.back 52 (C := (cT b104 TK u99 (y95.status) (y95.aL) y95.frames us98 y95.cells Vt)) (C' := (cT b104 RH Ga (jg.2.2.status) (jg.2.2.aL) jg.2.2.frames RI jg.2.2.cells RJ)) rfl ⟨⟨⟨⟨trivial, trivial⟩, trivial⟩, trivial⟩, trivial⟩ h113 k112 h114
 replace h := h.bY 52 51 (by decide) rfl rfl
 replace h := h.bY 52 50 (by decide) rfl rfl
 replace h := h.bY 52 49 (by decide) rfl rfl
 replace h := h.bY 52 48 (by decide) rfl rfl
 refine aa (ah (v := (.tuple #[(.agg #[(.bool (jg.1.said)), (I6 jg.1.n), (.bool (jg.1.Jl))]), (.bool (jg.2.1))])) rfl) (aa (bu rfl rfl) (aa (bu rfl rfl) (bP h 53 iR fun w b115 h => dH (vs := [(.bool (jg.1.said)), (I6 jg.1.n), (.bool (jg.1.Jl))]) h 53 [(.bool (jg.1.said)), (I6 jg.1.n), (.bool (jg.1.Jl))] rfl iR rfl rfl rfl rfl rfl (ai rfl (ai rfl (ai rfl aS))) fun w h => aa (ae (v := (.bool (jg.2.1))) rfl) (nJ (aa (ah (v := (I6 Ic)) rfl) ?_)))))
 obtain ⟨a116, hs⟩ := bB hs
 refine aa (dP rfl rfl a116) (aa (ae (v := (I6 ((Ic + 1)))) rfl) (nK (aa (ah (v := (.bool (jg.2.1))) rfl) (aa (gL rfl) (nN (aI hs rfl (fun c117 hs => ?_) (fun c117 hs => ?_)))))))
 refine nG (aa (ag lq rfl) (gq h 4 [v65, v68, (I6 2), (I6 Lh)] rfl aU rfl rfl rfl rfl rfl fun w h => nN (iL (bI (yz (by decide) (bI (eH (au ?_))))))))
 replace h := h.EB 41 25 rfl rfl (by decide)
 replace h := (h.fA 10).moveC 42 10 rfl rfl (by decide)
 replace h := (h.fA 11).moveC 43 11 rfl rfl (by decide)
 replace h := (h.fA 12).moveC 44 12 rfl rfl (by decide)
 replace h := (h.fA 13).moveC 45 13 rfl rfl (by decide)
 exact bQ (v62, uR, (Ic + 1), v65, NM, tY, v68, NP, Dv, 2, Lh) ⟨h.cn _, hs⟩
 refine aH (ak (bX (σ := Value × List Int) (inl ([11] ++ rg 82 8)) (fun ⟨Xe, Bg⟩ => [(11, Xe)]) (fun ⟨Xe, Bg⟩ w => SH w0 M BE w (hset [(1, .rd jk va a), (4, .blk b1 [RH, Ga, (I6 jg.2.2.status), (I6 jg.2.2.aL)]), (5, .blk b2 [(.slice none 0 0), (.slice none 0 0), (I6 0), (I6 0)]), (41, .own eP 3 Xe Bg), (48, .own bg.raw 49 RH (List.zip jg.2.2.frames RI)), (49, .ik (dS bC 51 hn RI (List.map bg.sub jg.2.2.frames))), (50, .own (dZ Val).raw 47 Ga (List.zip jg.2.2.cells RJ)), (51, .ik (dS bC 51 hn RJ (List.map (dZ Val).sub jg.2.2.cells))), (53, .blk b115 [(.bool (jg.1.said)), (I6 jg.1.n), (.bool (jg.1.Jl))])]) ∧ Bf jg Ic NL Bg = some r) ?_ ?_))
 rintro ⟨Xe, Bg⟩ w dO ⟨h, hs⟩
 refine nG (aa (ag L9 rfl) (aa (aA h 53 rfl BB rfl rfl) (nN (aI hs rfl (fun c120 hs => ?_) (fun c120 hs => ?_)))))
 refine iL (yz (by decide) (bI (eH (au ?_))))
 replace h := h.EB 41 25 rfl rfl (by decide)
 replace h := (h.fA 10).moveC 48 10 rfl rfl (by decide)
 replace h := (h.fA 11).moveC 49 11 rfl rfl (by decide)
 replace h := (h.fA 12).moveC 50 12 rfl rfl (by decide)
 replace h := (h.fA 13).moveC 51 13 rfl rfl (by decide)
 exact bQ (Xe, Bg, (Ic + 1), RH, RI, jg.2.2.frames, Ga, RJ, jg.2.2.cells, jg.2.2.status, jg.2.2.aL) ⟨h.cn _, hs⟩
 refine aH (ax (au ?_))
 replace h := (h.fA 42).moveC 48 42 rfl rfl (by decide)
 replace h := (h.fA 43).moveC 49 43 rfl rfl (by decide)
 replace h := (h.fA 44).moveC 50 44 rfl rfl (by decide)
 replace h := (h.fA 45).moveC 51 45 rfl rfl (by decide)
 subst hnx77
 exact jB ⟨m761, Xe, Bg, (Ic + 1), RH, RI, jg.2.2.frames, Ga, RJ, jg.2.2.cells, jg.2.2.status, jg.2.2.aL⟩ ⟨h.cn _, hs⟩
 refine nG (aa (dK (vs := [RH, Ga, (I6 jg.2.2.status), (I6 jg.2.2.aL)]) h 52 rfl bM rfl rfl rfl) (dH (vs := [RH, Ga, (I6 jg.2.2.status), (I6 jg.2.2.aL)]) h 4 [RH, Ga, (I6 jg.2.2.status), (I6 jg.2.2.aL)] rfl bM rfl rfl rfl rfl rfl (ai (h.dm 48 rfl).one (ai (h.dm 50 rfl).one (ai rfl (ai rfl aS)))) fun w h => nJ (aa (ag YK rfl) (aa (aA h 53 rfl BB rfl rfl) (nN (aI hs rfl (fun c121 hs => ?_) (fun c121 hs => ?_)))))))
 refine aC (aa (ah (v := v62) rfl) (aa (ag YL rfl) (aa (aA h 53 rfl aU rfl rfl) (tL (R := eP) (vs := [(I6 jg.1.n)]) (xs := [jg.1.n]) h 54 jC rfl rfl rfl ⟨rfl, trivial⟩ rfl fun w u122 h => ?_))))
 obtain ⟨a123, hs⟩ := bB hs
 refine lV (R := eP) (m := [jg.1.n]) h 41 rfl (h.eG 54 rfl) jC rfl rfl rfl a123.1 a123.2 fun w u124 h => aa (ae (v := u124) rfl) (az (au ?_))
 exact bQ (u124, (uR ++ [jg.1.n])) ⟨h.cn _, hs⟩
 refine aH (au ?_)
 exact bQ (v62, uR) ⟨h.cn _, hs⟩
 refine uI mixed (by kernel_rfl) h fun w h => aD (ah (v := v62) rfl) (aD (bW bV rfl (h.eG 41 rfl)) (aD (bz rfl rfl) (aD (ah (v := (.bool (decide (((uR.length : Int) : Int) = 40)))) rfl) (kT (b := decide (((uR.length : Int) : Int) = 40)) hs (fun wE hs => ?_) (fun wE hs => ?_)))))
 refine fw rfl (cB wE) (aD (ah (v := va) rfl) (fw rfl (cB wE) (aD (ag yU rfl) (fw rfl (cB wE) (aD (aA h 47 rfl aU rfl rfl) (fw rfl (cB wE) ?_))))))
 obtain ⟨Mm, e127, hs⟩ := aK hs
 obtain ⟨b129, o130, cs131, h, r132, i128⟩ := h.Cm 1 55 rfl gU rfl (aB e127).1 (aB e127).2
 obtain ⟨u133, rfl, g134⟩ := jW r132
 replace h := h.dA 56 g134.up
 refine aD (i128 _ _ _ _ _ _ _ _ _ rfl rfl) (fw rfl (cB wE) (aD (ag nQ rfl) (fw rfl (cB wE) (aD (fq (k := 2) h 55 rfl xy rfl rfl) (fw rfl (cB wE) (aD (ag qC rfl) (fw rfl (cB wE) (aD (aA h 47 rfl aU rfl rfl) (fw rfl (cB wE) ?_)))))))))
 obtain ⟨zH, e136, hs⟩ := aK hs
 obtain ⟨b138, o139, cs140, h, r141, i137⟩ := h.Cm 56 57 rfl iy rfl (aB e136).1 (aB e136).2
 obtain ⟨u142, rfl, g143⟩ := wM r141
 replace h := h.dA 58 g143.up
 refine aD (i137 _ _ _ _ _ _ _ _ _ rfl rfl) (fw rfl (cB wE) (aD (ag mG rfl) (fw rfl (cB wE) (aD (fq (k := 0) h 57 rfl aU rfl rfl) (fw rfl (cB wE) (aD (bz rfl rfl) (aD (fB (b := true) (v := (.bool (decide ((zH.op : Int) = 9)))) (cB wE) rfl) (uf ?_))))))))
 replace h := h.ed 43 46 rfl rfl (by decide) (aB e83).2 e88 rfl
 refine au ?_
 exact bQ (decide ((zH.op : Int) = 9)) ⟨h.cn _, hs⟩
 refine dR (b' := false) rfl (cB wE) rfl (dR (b' := false) rfl (cB wE) rfl (dR (b' := false) rfl (cB wE) rfl (dR (b' := false) rfl (cB wE) rfl (dR (b' := false) rfl (cB wE) rfl (dR (b' := false) rfl (cB wE) rfl (dR (b' := false) rfl (cB wE) rfl (dR (b' := false) rfl (cB wE) rfl (dR (b' := false) rfl (cB wE) rfl (dR (b' := false) rfl (cB wE) rfl (dR (b' := false) rfl (cB wE) rfl (dR (b' := false) rfl (cB wE) rfl (aD (fB (b := false) (v := (.bool (false))) (cB wE) rfl) (uf ?_)))))))))))))
 replace h := h.ed 43 46 rfl rfl (by decide) (aB e83).2 e88 rfl
 refine au ?_
 exact bQ false ⟨h.cn _, hs⟩
 refine iL (bI (bI (eH (au ?_))))
 replace h := h.EB 41 25 rfl rfl (by decide)
 replace h := (h.fA 10).moveC 42 10 rfl rfl (by decide)
 replace h := (h.fA 11).moveC 43 11 rfl rfl (by decide)
 replace h := (h.fA 12).moveC 44 12 rfl rfl (by decide)
 replace h := (h.fA 13).moveC 45 13 rfl rfl (by decide)
 exact bQ (v62, uR, Ic, v65, NM, tY, v68, NP, Dv, AJ, Lh) ⟨h.cn _, hs⟩
def Ls (a : List bL) (b : LX.State) : Option (LX.State × Int) :=
  (ER a b).bind fun y3 => bif decide ((y3 : Int) ≠ 0) then some ((⟨[], [], 0, 0⟩ : LX.State), y3) else bif decide ((b.status : Int) ≠ 3) then some ((⟨[], [], 0, 0⟩ : LX.State), 7) else (D6 b).bind fun y8 => some ((⟨y8.frames, y8.cells, 0, 0⟩ : LX.State), 0)
theorem Xf (w0 : World) (M : BS) (hM : ∀ b, M b → b < w0.heap.size) (va : Value) (a : List bL) (ha : gy jk w0 BE M va a) (b : LX.State) (vb0 vb1 : Value) (hb0 : gy fC w0 BE M vb0 b.frames) (hb1 : gy (rU bC) w0 BE M vb1 b.cells) (r : LX.State × Int) (hs : Ls a b = some r) :
    Calls Tryz.prog 30 #[va, (.agg #[vb0, vb1, (I6 b.status), (I6 b.aL)])] w0 (fun e w' => Grow w0 w' ∧ ∃ uC, ∃ wF, e = .returned (.tuple #[.agg #[uC, wF, .int .i64 r.1.status, .int .i64 r.1.aL], .int .i64 r.2]) ∧ gX fC w' M uC r.1.frames ∧ gX (rU bC) w' M wF r.1.cells) := by
 refine aQ (args := [va, (.agg #[vb0, vb1, (I6 b.status), (I6 b.aL)])]) Tryz.func30 rfl Tryz.ntmps30 (bF rfl) ?_
 have h := SH.init hM
 replace h := h.gz 1 ha bH
 replace h := h.gz 2 hb0 (dL bH)
 replace h := h.gz 3 hb1 (dL (dL bH))
 have vC := ha.bT
 refine nG (mD (cs := [vb0, vb1, (I6 b.status), (I6 b.aL)]) h 4 rfl rfl fun w b1 h => bP h 5 bM fun w b2 h => aa (ae (v := (I6 0)) rfl) (nK (aa (ah (v := va) rfl) (aa (dK (vs := [vb0, vb1, (I6 b.status), (I6 b.aL)]) h 4 rfl bM rfl rfl rfl) ?_))))
 obtain ⟨y3, e4, hs⟩ := aK hs
 refine aX YO rfl rfl (Mw _ _ h.lt va a (h.iV 1 rfl) b vb0 vb1 (h.iV 2 rfl) (h.iV 3 rfl) _ e4) ?_
 rintro _ w ⟨k5, rfl⟩
 refine ⟨_, rfl, ?_⟩
 replace h := h.grow k5
 refine aa (ae (v := (I6 y3)) rfl) (nJ (aa (ah (v := (I6 y3)) rfl) (aa (iA rfl rfl) (nN (aI hs rfl (fun c6 hs => ?_) (fun c6 hs => ?_))))))
 refine nG (aa (ek (pv := []) (out := [(.slice none 0 0), (.slice none 0 0), (I6 0), (I6 0)]) rA rfl rfl) (aa (ah (v := (I6 y3)) rfl) (dH (vs := [(.slice none 0 0), (.slice none 0 0), (I6 0), (I6 0)]) h 5 [(.slice none 0 0), (.slice none 0 0), (I6 0), (I6 0)] rfl bM rfl rfl rfl rfl rfl (ai rfl (ai rfl (ai rfl (ai rfl aS)))) fun w h => aa (ae (v := (I6 y3)) rfl) (nR (ay (ll (vs := [(.slice none 0 0), (.slice none 0 0), (I6 0), (I6 0)]) (v2 := (I6 y3)) Tryz.results30 rfl rfl h 5 rfl bM rfl ?_))))))
 obtain rfl := fP hs
 exact ⟨h.grown, _, _, rfl, gy.nil, gy.nil⟩
 refine aH (ak (aM (nG (aa (ag lq rfl) (aa (aA h 4 rfl aU rfl rfl) (aa (iA rfl rfl) (nN (aI hs rfl (fun c7 hs => ?_) (fun c7 hs => ?_)))))))))
 refine nG (aa (ek (pv := []) (out := [(.slice none 0 0), (.slice none 0 0), (I6 0), (I6 0)]) rA rfl rfl) (dH (vs := [(.slice none 0 0), (.slice none 0 0), (I6 0), (I6 0)]) h 5 [(.slice none 0 0), (.slice none 0 0), (I6 0), (I6 0)] rfl bM rfl rfl rfl rfl rfl (ai rfl (ai rfl (ai rfl (ai rfl aS)))) fun w h => aa (ae (v := (I6 7)) rfl) (nR (ay (ll (vs := [(.slice none 0 0), (.slice none 0 0), (I6 0), (I6 0)]) (v2 := (I6 7)) Tryz.results30 rfl rfl h 5 rfl bM rfl ?_)))))
 obtain rfl := fP hs
 exact ⟨h.grown, _, _, rfl, gy.nil, gy.nil⟩
 refine nS (aa (dK (vs := [vb0, vb1, (I6 b.status), (I6 b.aL)]) h 4 rfl bM rfl rfl rfl) ?_)
 obtain ⟨y8, e9, hs⟩ := aK hs
 refine aX PV rfl rfl (FQ _ _ h.lt b vb0 vb1 (h.iV 2 rfl) (h.iV 3 rfl) _ e9) ?_
 rintro _ w ⟨k16, u10, u12, Mx, K8, rfl, h14, h15⟩
 refine ⟨_, rfl, ?_⟩
 replace h := h.PI 6 (C := (cU u10 u12 y8.frames Mx y8.cells K8)) k16 ⟨⟨⟨trivial, trivial⟩, trivial⟩, trivial⟩ h14 h15
 replace h := h.bY 6 9 (by decide) rfl rfl
 replace h := h.bY 6 8 (by decide) rfl rfl
 replace h := h.bY 6 7 (by decide) rfl rfl
 refine dH (vs := [u10, u12, (I6 y8.status), (I6 y8.aL)]) h 4 [u10, u12, (I6 y8.status), (I6 y8.aL)] rfl bM rfl rfl rfl rfl rfl (ai (h.dm 6 rfl).one (ai (h.dm 8 rfl).one (ai rfl (ai rfl aS)))) fun w h => nJ (aa (ag lq rfl) (gq h 4 [u10, u12, (I6 0), (I6 y8.aL)] rfl aU rfl rfl rfl rfl rfl fun w h => aa (ag Aj rfl) (gq h 4 [u10, u12, (I6 0), (I6 0)] rfl aU rfl rfl rfl rfl rfl fun w h => nJ (aa (dK (vs := [u10, u12, (I6 0), (I6 0)]) h 4 rfl bM rfl rfl rfl) (dH (vs := [u10, u12, (I6 0), (I6 0)]) h 5 [u10, u12, (I6 0), (I6 0)] rfl bM rfl rfl rfl rfl rfl (ai (h.dm 6 rfl).one (ai (h.dm 8 rfl).one (ai rfl (ai rfl aS)))) fun w h => aa (ae (v := (I6 0)) rfl) (nR (ll (vs := [u10, u12, (I6 0), (I6 0)]) (v2 := (I6 0)) Tryz.results30 rfl rfl h 5 rfl bM rfl ?_)))))))
 replace h := h.ru (N := bg) (R' := fC) 6 7 rfl rfl (by decide) rfl tV
 replace h := h.ru (N := (dZ Val)) (R' := (rU bC)) 8 9 rfl rfl (by decide) rfl yT
 obtain rfl := fP hs
 exact ⟨h.grown, _, _, rfl, h.Yj 6 rfl, h.Yj 8 rfl⟩
def q8 (a : List Int) (b : List Int) (i3 : Int) (s : Unit) (Jo : Unit → Option Bool) : Option Bool :=
  (idx a i3).bind fun x9 => (idx b i3).bind fun oD => bif decide ((x9 : Int) ≠ oD) then some false else Jo ()
def vR (s : Unit) : Option Bool :=
  some true
def slices_Equal_int (a : List Int) (b : List Int) : Option Bool :=
  bif decide (((a.length : Int) : Int) ≠ (b.length : Int)) then some false else upto (q8 a b) vR 0 ((a.length : Int)).toNat ()
theorem Bi (w0 : World) (M : BS) (hM : ∀ b, M b → b < w0.heap.size) (va : Value) (a : List Int) (ha : gy eP w0 BE M va a) (vb : Value) (b : List Int) (hb : gy eP w0 BE M vb b) (r : Bool) (hs : slices_Equal_int a b = some r) :
    Calls Tryz.prog 18 #[va, vb] w0 (fun e w' => Grow w0 w' ∧ e = .returned (.bool r)) := by
 refine aQ (args := [va, vb]) Tryz.func18 rfl Tryz.ntmps18 (bF rfl) ?_
 have h := SH.init hM
 replace h := h.gz 1 ha bH
 replace h := h.gz 2 hb (dL bH)
 have vC := ha.bT
 have NF := hb.bT
 refine nG (aa (ae (v := (.bool (false))) rfl) (nK (aa (ah (v := va) rfl) (aa (bW bV rfl (h.iV 1 rfl)) (aa (ah (v := vb) rfl) (aa (bW bV rfl (h.iV 2 rfl)) (aa (iA rfl rfl) (nN (aI hs rfl (fun c1 hs => ?_) (fun c1 hs => ?_))))))))))
 refine nG (aa (ae (v := (.bool (false))) rfl) (nR (ay (dD (v := (.bool (false))) Tryz.results18 rfl ?_))))
 obtain rfl := fP hs
 exact ⟨h.grown, rfl⟩
 refine aH (ak (aM (nG (aa (ah (v := va) rfl) (aa (bW bV rfl (h.iV 1 rfl)) (aa (ah (v := (I6 0)) rfl) (nN (aO ?_))))))))
 have aan := (h.iV 1 rfl).bT
 refine gu (σ := Nat × Int) (inl ([4, 5] ++ rg 13 13)) (fun ⟨k2, i3⟩ => [(13, (I6 i3))]) (fun ⟨k2, i3⟩ w => SH w0 M BE w (hset [(1, .sr eP va a), (2, .sr eP vb b)]) ∧ i3 = (k2 : Int) ∧ upto (q8 a b) vR i3 (((a.length : Int)).toNat - k2) () = some r) (fun ⟨k2, i3⟩ => ((a.length : Int)).toNat - k2) ⟨0, 0⟩ ⟨rfl, trivial⟩ ?_ ?_
 exact ⟨h.cn _, rfl, hs⟩
 rintro ⟨k2, i3⟩ w dO ⟨h, hik, hs⟩
 refine nG ?_
 refine aa (eB rfl rfl) (nN ?_)
 refine aM (gK rfl (fun e7 => ?_) (fun e7 => ?_))
 refine aH (ak ?_)
 rw [si (by have := p8 e7; omega)] at hs
 generalize Me : upto (q8 a b) vR (i3 + 1) (((a.length : Int)).toNat - (k2 + 1)) = Jo at hs
 have Y6 : jV (i3 + 1) := (by have := p8 e7; have := aan; exact jV.mk (by omega) (by omega))
 refine aM (aO (nG (aa (ah (v := (I6 i3)) rfl) (aa (ae (v := (I6 i3)) rfl) (nN (aM (uI mixed (by kernel_rfl) h fun w h => aD (ah (v := va) rfl) (aD (ah (v := (I6 i3)) rfl) ?_))))))))
 obtain ⟨x9, e10, hs⟩ := aK hs
 obtain ⟨b12, o13, cs14, h, r15, i11⟩ := h.zP 1 3 rfl bV rfl (aB e10).1 (aB e10).2
 obtain rfl := r15
 refine aD (i11 _ _ _ _ _ _ _ _ _ rfl rfl) (aD (fq (k := 0) h 3 rfl aU rfl rfl) (aD (ah (v := vb) rfl) (aD (ah (v := (I6 i3)) rfl) ?_)))
 obtain ⟨oD, e17, hs⟩ := aK hs
 obtain ⟨b19, o20, cs21, h, r22, i18⟩ := h.zP 2 4 rfl bV rfl (aB e17).1 (aB e17).2
 obtain rfl := r22
 refine aD (i18 _ _ _ _ _ _ _ _ _ rfl rfl) (aD (fq (k := 0) h 4 rfl aU rfl rfl) (aD (iA rfl rfl) (uf (ak (aI hs rfl (fun c23 hs => ?_) (fun c23 hs => ?_))))))
 refine nG (aa (ae (v := (.bool (false))) rfl) (nR (aF (ay (ay (aF (ay (dD (v := (.bool (false))) Tryz.results18 rfl ?_))))))))
 obtain rfl := fP hs
 exact ⟨h.grown, rfl⟩
 refine aH (ax (ak (aC (aa (dP rfl rfl Y6) (aa (ah (v := (I6 ((i3 + 1)))) rfl) (az (au ?_)))))))
 subst Me
 exact jB ⟨k2 + 1, i3 + 1⟩ ⟨h.cn _, by omega, hs⟩ (by have := p8 e7; dsimp only; omega)
 rw [sj (by have := of_decide_eq_false e7; omega)] at hs
 refine nE (aa (ae (v := (.bool (true))) rfl) (nR (dD (v := (.bool (true))) Tryz.results18 rfl ?_)))
 obtain rfl := fP hs
 exact ⟨h.grown, rfl⟩
def pW (a : List Val) (b : List Val) (i3 : Int) (s : Unit) (Jo : Unit → Option Bool) : Option Bool :=
  (idx a i3).bind fun x9 => (idx b i3).bind fun oD => bif !(decide (x9.kind = oD.kind) && decide (x9.n = oD.n)) then some false else Jo ()
def uo (s : Unit) : Option Bool :=
  some true
def jN (a : List Val) (b : List Val) : Option Bool :=
  bif decide (((a.length : Int) : Int) ≠ (b.length : Int)) then some false else upto (pW a b) uo 0 ((a.length : Int)).toNat ()
theorem zI (w0 : World) (M : BS) (hM : ∀ b, M b → b < w0.heap.size) (va : Value) (a : List Val) (ha : gy bC w0 BE M va a) (vb : Value) (b : List Val) (hb : gy bC w0 BE M vb b) (r : Bool) (hs : jN a b = some r) :
    Calls Tryz.prog 47 #[va, vb] w0 (fun e w' => Grow w0 w' ∧ e = .returned (.bool r)) := by
 refine aQ (args := [va, vb]) Tryz.func47 rfl Tryz.ntmps47 (bF rfl) ?_
 have h := SH.init hM
 replace h := h.gz 1 ha bH
 replace h := h.gz 2 hb (dL bH)
 have vC := ha.bT
 have NF := hb.bT
 refine nG (aa (ae (v := (.bool (false))) rfl) (nK (aa (ah (v := va) rfl) (aa (bW aZ rfl (h.iV 1 rfl)) (aa (ah (v := vb) rfl) (aa (bW aZ rfl (h.iV 2 rfl)) (aa (iA rfl rfl) (nN (aI hs rfl (fun c1 hs => ?_) (fun c1 hs => ?_))))))))))
 refine nG (aa (ae (v := (.bool (false))) rfl) (nR (ay (dD (v := (.bool (false))) Tryz.results47 rfl ?_))))
 obtain rfl := fP hs
 exact ⟨h.grown, rfl⟩
 refine aH (ak (aM (nG (aa (ah (v := va) rfl) (aa (bW aZ rfl (h.iV 1 rfl)) (aa (ah (v := (I6 0)) rfl) (nN (aO ?_))))))))
 have aan := (h.iV 1 rfl).bT
 refine gu (σ := Nat × Int) (inl ([4, 5] ++ rg 13 13)) (fun ⟨k2, i3⟩ => [(13, (I6 i3))]) (fun ⟨k2, i3⟩ w => SH w0 M BE w (hset [(1, .sr bC va a), (2, .sr bC vb b)]) ∧ i3 = (k2 : Int) ∧ upto (pW a b) uo i3 (((a.length : Int)).toNat - k2) () = some r) (fun ⟨k2, i3⟩ => ((a.length : Int)).toNat - k2) ⟨0, 0⟩ ⟨rfl, trivial⟩ ?_ ?_
 exact ⟨h.cn _, rfl, hs⟩
 rintro ⟨k2, i3⟩ w dO ⟨h, hik, hs⟩
 refine nG ?_
 refine aa (eB rfl rfl) (nN ?_)
 refine aM (gK rfl (fun e7 => ?_) (fun e7 => ?_))
 refine aH (ak ?_)
 rw [si (by have := p8 e7; omega)] at hs
 generalize Me : upto (pW a b) uo (i3 + 1) (((a.length : Int)).toNat - (k2 + 1)) = Jo at hs
 have Y6 : jV (i3 + 1) := (by have := p8 e7; have := aan; exact jV.mk (by omega) (by omega))
 refine aM (aO (nG (aa (ah (v := (I6 i3)) rfl) (aa (ae (v := (I6 i3)) rfl) (nN (aM (uI mixed (by kernel_rfl) h fun w h => aD (ah (v := va) rfl) (aD (ah (v := (I6 i3)) rfl) ?_))))))))
 obtain ⟨x9, e10, hs⟩ := aK hs
 obtain ⟨b12, o13, cs14, h, r15, i11⟩ := h.zP 1 3 rfl aZ rfl (aB e10).1 (aB e10).2
 obtain rfl := r15
 refine aD (i11 _ _ _ _ _ _ _ _ _ rfl rfl) (aD (jo (k := 0) (vs := [(I6 x9.kind), (I6 x9.n)]) h 3 rfl aY rfl rfl rfl (bF rfl)) (aD (ah (v := vb) rfl) (aD (ah (v := (I6 i3)) rfl) ?_)))
 obtain ⟨oD, e17, hs⟩ := aK hs
 obtain ⟨b19, o20, cs21, h, r22, i18⟩ := h.zP 2 4 rfl aZ rfl (aB e17).1 (aB e17).2
 obtain rfl := r22
 refine aD (i18 _ _ _ _ _ _ _ _ _ rfl rfl) (aD (jo (k := 0) (vs := [(I6 oD.kind), (I6 oD.n)]) h 4 rfl aY rfl rfl rfl (bF rfl)) (aD (r_neqP PY rfl rfl) (uf (ak (aI hs rfl (fun c23 hs => ?_) (fun c23 hs => ?_))))))
 refine nG (aa (ae (v := (.bool (false))) rfl) (nR (aF (ay (ay (aF (ay (dD (v := (.bool (false))) Tryz.results47 rfl ?_))))))))
 obtain rfl := fP hs
 exact ⟨h.grown, rfl⟩
 refine aH (ax (ak (aC (aa (dP rfl rfl Y6) (aa (ah (v := (I6 ((i3 + 1)))) rfl) (az (au ?_)))))))
 subst Me
 exact jB ⟨k2 + 1, i3 + 1⟩ ⟨h.cn _, by omega, hs⟩ (by have := p8 e7; dsimp only; omega)
 rw [sj (by have := of_decide_eq_false e7; omega)] at hs
 refine nE (aa (ae (v := (.bool (true))) rfl) (nR (dD (v := (.bool (true))) Tryz.results47 rfl ?_)))
 obtain rfl := fP hs
 exact ⟨h.grown, rfl⟩
def IM (b : List (List Val)) (i3 : Int) (x4 : List Val) (s : Unit) (Jo : Unit → Option Bool) : Option Bool :=
  (idx b i3).bind fun oD => (jN x4 oD).bind fun y25 => bif (!y25) then some false else Jo ()
def Qq (s : Unit) : Option Bool :=
  some true
def Ke (a : List (List Val)) (b : List (List Val)) : Option Bool :=
  bif decide (((a.length : Int) : Int) ≠ (b.length : Int)) then some false else dW (IM b) Qq 0 a ()
def zJ (ql : Unit → Option Bool) (x34 : Bool) : Option Bool :=
  bif x34 then some false else ql ()
def KM (b : LX.State) (i10 : Int) (gB : LX.Frame) (s : Unit) (ql : Unit → Option Bool) : Option Bool :=
  (idx b.frames i10).bind fun x24 => bif ((decide ((gB.proc : Int) = x24.proc) && decide ((gB.at_ : Int) = x24.at_)) && decide ((gB.lW : Int) = x24.lW)) then (jN gB.regs x24.regs).bind fun y39 => zJ ql (!y39) else zJ ql true
def RL (s : Unit) : Option Bool :=
  some true
def Qr (a : LX.State) (b : LX.State) : Option Bool :=
  bif (decide ((a.status : Int) = b.status) && decide ((a.aL : Int) = b.aL)) then (Ke a.cells b.cells).bind fun y4 => bif y4 then bif decide (((a.frames.length : Int) : Int) ≠ (b.frames.length : Int)) then some false else dW (KM b) RL 0 a.frames () else some false else some false
end
end Go.Proofs.YtfclkapelkhlpaaGreatDoor
