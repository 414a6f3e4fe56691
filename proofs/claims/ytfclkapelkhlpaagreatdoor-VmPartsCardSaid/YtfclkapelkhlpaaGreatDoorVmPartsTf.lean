/-
  What the law VmParts needs of our own library and of the walks, no more.
-/
import Derived.Test.YtfclkapelkhlpaaGreatDoorProg
import Derived.Test.YtfclkapelkhlpaaGreatDoorVmPartsTe
set_option linter.unusedSimpArgs false
set_option linter.unusedVariables false
set_option maxRecDepth 10000
namespace Go.Proofs.YtfclkapelkhlpaaGreatDoor
open Go Go.Proofs Go.LX
noncomputable section
theorem TA (N : Nat) (w0 : World) (M : BS) (hM : ∀ b, M b → b < w0.heap.size) (sb : Nat) (sx : LX.State) (jq vs1 : Value) (jU jG : List Value) (hC : Chunk.holds w0 M (Chunk.own' (cT sb jq vs1 (sx.status) (sx.aK) sx.frames jU sx.cells jG)) (cT sb jq vs1 (sx.status) (sx.aK) sx.frames jU sx.cells jG)) (hap : ∀ b, Chunk.own' (cT sb jq vs1 (sx.status) (sx.aK) sx.frames jU sx.cells jG) b → ¬ M b) (va : Value) (a : List bN) (ha : fu jF w0 (fun b => M b ∨ (cT sb jq vs1 (sx.status) (sx.aK) sx.frames jU sx.cells jG).own' b) va a) (r : Dv × Bool × LX.State) (hs : oN N sx a = some r) :
    Calls Tryz.prog 65 #[va, (.pointer (some ⟨sb, 0, none⟩))] w0 (fun e w' => aI (Chunk.own' (cT sb jq vs1 (sx.status) (sx.aK) sx.frames jU sx.cells jG)) w0 w' ∧ ∃ MK, ∃ ML, ∃ MM, ∃ MN, e = .returned (.tuple #[.agg #[.bool r.1.said, .int .i64 r.1.n, .bool r.1.Fz], .bool r.2.1]) ∧ Chunk.holds w' M (Chunk.own' (cT sb MK ML r.2.2.status r.2.2.aK r.2.2.frames MM r.2.2.cells MN)) (cT sb MK ML r.2.2.status r.2.2.aK r.2.2.frames MM r.2.2.cells MN) ∧ (∀ b, Chunk.own' (cT sb MK ML r.2.2.status r.2.2.aK r.2.2.frames MM r.2.2.cells MN) b → b < w0.heap.size → Chunk.own' (cT sb jq vs1 (sx.status) (sx.aK) sx.frames jU sx.cells jG) b)) := by
 refine aN (args := [va, (.pointer (some ⟨sb, 0, none⟩))]) Tryz.func65 rfl Tryz.ntmps65 (bD rfl) ?_
 have h := SH.GA hM hC hap
 replace h := h.Du 6 ha Bl
 generalize Bo : (cT sb jq vs1 (sx.status) (sx.aK) sx.frames jU sx.cells jG).own' = K0 at h
 replace h := h.bG 1 5 (by decide) rfl rfl
 replace h := h.bG 1 4 (by decide) rfl rfl
 replace h := h.bG 1 3 (by decide) rfl rfl
 replace h := h.bG 1 2 (by decide) rfl rfl
 have vR := ha.bV
 refine nG (bU h 7 gq fun w b1 h => aa (ae (v := (.bool (false))) rfl) (nJ (aa (ag (v := (.pointer (some ⟨sb, 0, none⟩))) rfl) (aa (bL rfl) (aa (ah eH rfl) (aa (aB h 1 rfl jd rfl rfl) (aa (qZ (N := bR) dA rfl (h.dV 2 rfl) (h.iM 3 rfl)) ?_)))))))
 obtain ⟨a2, hs⟩ := bg hs
 refine aa (mZ rfl rfl a2) (aa (ae (v := (I6 (((sx.frames.length : Int) - 1)))) rfl) (nJ (aa (ag (v := (.pointer (some ⟨sb, 0, none⟩))) rfl) (aa (bL rfl) (aa (ah eH rfl) (aa (aB h 1 rfl jd rfl rfl) (aa (ag (v := (I6 (((sx.frames.length : Int) - 1)))) rfl) ?_)))))))
 obtain ⟨x3, e4, hs⟩ := aJ hs
 obtain ⟨u8, e9, h⟩ := h.rT 3 8 x3.regs rfl rfl (by decide) (aH e4).2 rfl
 obtain ⟨b6, q7, i5⟩ := h.xy 2 rfl dA rfl (aH e4).1 (fE (aH e4).2 e9)
 refine aa (i5 _ _ _ _ _ _ _ _ _ rfl rfl) (aa (ae (v := (.pointer (some ⟨b6, (((sx.frames.length : Int) - 1)).toNat * 4, none⟩))) rfl) (nN (aP (Ap mixed h fun w h => eP 0 (aI.refl BE _) rfl aj (by kernel_rfl) (by kernel_rfl) (by kernel_rfl) (fun w hk => ag (v := va) rfl) (eP 1 (aI.refl BE _) rfl aj (by kernel_rfl) (by kernel_rfl) (by kernel_rfl) (fun w hk => ag (v := (.pointer (some ⟨b6, (((sx.frames.length : Int) - 1)).toNat * 4, none⟩))) rfl) (eP 2 (aI.refl BE _) rfl aj (by kernel_rfl) (by kernel_rfl) (by kernel_rfl) (fun w hk => bL rfl) (eP 3 (aI.refl BE _) rfl aj (by kernel_rfl) (by kernel_rfl) (by kernel_rfl) (fun w hk => ah yE rfl) ?_)))))))
 obtain ⟨csq10x4_1, WI, WJ⟩ := h.Af 2 rfl q7 (fE (aH e4).2 e9)
 obtain ⟨rfl, -⟩ := WJ
 refine eP 4 (aI.refl BE _) rfl aj (by kernel_rfl) (by kernel_rfl) (by kernel_rfl) (fun w hk => have h := h.grow hk; pY (k := 0) (WI.grow hk) aW rfl rfl) ?_
 obtain ⟨aY, EM, hs⟩ := aJ hs
 obtain ⟨bq10x5_4, oq10x5_5, csq10x5_6, h, WM, WN⟩ := h.Fj 6 69 rfl jP rfl (aH EM).1 (aH EM).2
 obtain ⟨uq10x5_8, rfl, WO⟩ := om WM
 replace h := h.bX 70 WO.up
 refine eP 5 (aI.refl BE _) rfl aj (by kernel_rfl) (by kernel_rfl) (by kernel_rfl) (fun w hk => WN _ _ _ _ _ _ _ _ _ rfl rfl) (eP 6 (aI.refl BE _) rfl aj (by kernel_rfl) (by kernel_rfl) (by kernel_rfl) (fun w hk => ah rU rfl) (eP 7 (aI.refl BE _) rfl aj (by kernel_rfl) (by kernel_rfl) (by kernel_rfl) (fun w hk => have h := h.grow hk; dZ (k := 2) h 69 rfl Bh rfl rfl) (eP 8 (aI.refl BE _) rfl aj (by kernel_rfl) (by kernel_rfl) (by kernel_rfl) (fun w hk => ag (v := (.pointer (some ⟨b6, (((sx.frames.length : Int) - 1)).toNat * 4, none⟩))) rfl) (eP 9 (aI.refl BE _) rfl aj (by kernel_rfl) (by kernel_rfl) (by kernel_rfl) (fun w hk => bL rfl) (eP 10 (aI.refl BE _) rfl aj (by kernel_rfl) (by kernel_rfl) (by kernel_rfl) (fun w hk => ah vC rfl) ?_)))))
 obtain ⟨csq10x11_1, TB, TC⟩ := h.Af 2 rfl q7 (fE (aH e4).2 e9)
 obtain ⟨rfl, -⟩ := TC
 refine eP 11 (aI.refl BE _) rfl aj (by kernel_rfl) (by kernel_rfl) (by kernel_rfl) (fun w hk => have h := h.grow hk; pY (k := 1) (TB.grow hk) aW rfl rfl) ?_
 obtain ⟨aL, K5, hs⟩ := aJ hs
 obtain ⟨bq10x12_4, oq10x12_5, csq10x12_6, h, TD, TE⟩ := h.Fj 70 153 rfl jC rfl (aH K5).1 (aH K5).2
 obtain ⟨kg, rfl, TF⟩ := CB TD
 replace h := h.bX 154 TF.up
 refine eP 12 (aI.refl BE _) rfl aj (by kernel_rfl) (by kernel_rfl) (by kernel_rfl) (fun w hk => TE _ _ _ _ _ _ _ _ _ rfl rfl) (eP 13 (aI.refl BE _) rfl aj (by kernel_rfl) (by kernel_rfl) (by kernel_rfl) (fun w hk => have h := h.grow hk; jH (k := 0) (vs := [(I6 aL.op), (I6 aL.a), (I6 aL.b), (I6 aL.c), kg]) h 153 rfl qh rfl rfl rfl (bD rfl)) ?_)
 obtain ⟨ws11, Zz⟩ : ∃ x, x = w := ⟨_, rfl⟩
 have Qp : Grow ws11 w := Zz ▸ aI.refl BE w
 refine En Zz.symm (kM 14 (by kernel_rfl) rfl aj (uS h 177 qh fun w K6 h Qq Qr => ?_))
 have Qs : ws11.heap.size ≤ K6 := Nat.le_trans Qp.size Qr
 replace Qp := Qp.trans Qq
 refine az (iF Qp (kM 15 (by kernel_rfl) rfl aj (qY (vs := [(I6 aL.op), (I6 aL.a), (I6 aL.b), (I6 aL.c), kg]) h 177 [(I6 aL.op), (I6 aL.a), (I6 aL.b), (I6 aL.c), kg] rfl qh rfl rfl rfl rfl rfl (ai rfl (ai rfl (ai rfl (ai rfl (ai (h.fo 154 rfl).one aR))))) fun w h TG => ?_)))
 replace Qp := Qp.fresh TG (fun x hx => hx ▸ Qs)
 refine az (iF Qp (qH (by kernel_rfl) (ak (aP (rP 19 mixed (by kernel_rfl) h fun w h => aM (ag (v := (.pointer (some ⟨b6, (((sx.frames.length : Int) - 1)).toNat * 4, none⟩))) rfl) (aM (ag (v := (.pointer (some ⟨b6, (((sx.frames.length : Int) - 1)).toNat * 4, none⟩))) rfl) (aM (bL rfl) (aM (ah vC rfl) ?_))))))))
 obtain ⟨cs13, m14, r15⟩ := h.Af 2 rfl q7 (fE (aH e4).2 e9)
 obtain ⟨rfl, -⟩ := r15
 refine aM (pY (k := 1) m14 aW rfl rfl) ?_
 obtain ⟨a16, hs⟩ := bg hs
 refine aM (dw rfl rfl a16) (aM (ag (v := va) rfl) (aM (ag (v := (.pointer (some ⟨b6, (((sx.frames.length : Int) - 1)).toNat * 4, none⟩))) rfl) (aM (bL rfl) (aM (ah yE rfl) ?_))))
 obtain ⟨cs17, m18, r19⟩ := h.Af 2 rfl q7 (fE (aH e4).2 e9)
 obtain ⟨rfl, -⟩ := r19
 refine aM (pY (k := 0) m18 aW rfl rfl) ?_
 obtain ⟨Ke, o22, cs23, h, r24, i20⟩ := h.Fj 6 213 rfl jP rfl (aH EM).1 (aH EM).2
 obtain ⟨u25, rfl, g26⟩ := om r24
 replace h := h.bX 214 g26.up
 refine aM (i20 _ _ _ _ _ _ _ _ _ rfl rfl) (aM (ah rU rfl) (aM (dZ (k := 2) h 213 rfl Bh rfl rfl) (aM (bS jC rfl (h.mM 214 rfl)) ?_)))
 obtain ⟨a27, hs⟩ := bg hs
 refine aM (mZ rfl rfl a27) (aM (Nn rfl rfl) (aM (bL rfl) (aM (ah vC rfl) (Be (KD (a' := (({ x3 with at_ := (min (x3.at_ + 1) ((aY.code.length : Int) - 1)) }), u8)) h 2 rfl q7 rfl (fE (aH e4).2 e9) aW rfl rfl rfl rfl (by rintro _ ⟨rfl, hq⟩; exact ⟨rfl, hq⟩) fun w h => ?_)))))
 rw [Iq e9] at h
 replace h := h.Z6 3 ({ x3 with at_ := (min (x3.at_ + 1) ((aY.code.length : Int) - 1)) }) rfl
 refine nJ (aa (ag (v := (.pointer (some ⟨b6, (((sx.frames.length : Int) - 1)).toNat * 4, none⟩))) rfl) (aa (bL rfl) (aa (ah mV rfl) ?_)))
 obtain ⟨Yv, m29, r30⟩ := h.Af 2 rfl q7 (fE (kr (aH e4).2) e9)
 obtain ⟨rfl, -⟩ := r30
 refine aa (pY (k := 2) m29 nA rfl rfl) (aa (ae (v := u8) rfl) (nN (bW (σ := Bool × Value × List Value × List LX.Frame × Value × List Value × List (List Val) × Int × Int) (inl ([5, 10] ++ rg 60 156)) (fun ⟨y31, v32, TH, y34, v35, TI, Zy, y38, y39⟩ => []) (fun ⟨y31, v32, TH, y34, v35, TI, Zy, y38, y39⟩ w => SH w0 M K0 w (hset [(1, .blk sb [v32, v35, (I6 y38), (I6 y39)]), (2, .own bR.raw 49 v32 (List.zip y34 TH)), (3, .gZ (dC bM 51 hn TH (List.map bR.sub y34))), (4, .own (ed Val).raw 47 v35 (List.zip Zy TI)), (5, .gZ (dC bM 51 hn TI (List.map (ed Val).sub Zy))), (7, .blk b1 [(.bool (false)), (I6 0), (.bool (y31))])]) ∧ kv y31 y34 Zy y38 y39 = some r) ?_ ?_)))
 rintro ⟨y31, v32, TH, y34, v35, TI, Zy, y38, y39⟩ w dx ⟨h, hs⟩
 refine nG (aa (cK (vs := [(.bool (false)), (I6 0), (.bool (y31))]) h 7 rfl gq rfl rfl rfl) (dm (vs := [(.bool (false)), (I6 0), (.bool (y31))]) h 7 [(.bool (false)), (I6 0), (.bool (y31))] rfl gq rfl rfl rfl rfl rfl (ai rfl (ai rfl (ai rfl aR))) fun w h => aa (ae (v := (.bool (true))) rfl) (nR (ko (vs := [(.bool (false)), (I6 0), (.bool (y31))]) (v2 := (.bool (true))) Tryz.results65 rfl rfl h 7 rfl gq rfl ?_))))
 replace h := h.pair 1 2 (by decide)
 replace h := h.pair 1 3 (by decide)
 replace h := h.pair 1 4 (by decide)
 replace h := h.pair 1 5 (by decide)
 obtain rfl := fJ hs
 subst Bo
 obtain ⟨o1, o2, o3⟩ := h.q8 1 (C := (cT sb v32 v35 (y38) (y39) y34 TH Zy TI)) rfl ⟨⟨⟨⟨trivial, trivial⟩, trivial⟩, trivial⟩, trivial⟩
 exact ⟨o2, v32, v35, TH, TI, rfl, o1, o3⟩
 refine nG (aa (ah qa rfl) (aa (aB h 177 rfl aW rfl rfl) (nN (aO (nG (aa (bz rfl rfl) (aa (ae (v := (.bool (decide ((aL.op : Int) = 1)))) rfl) (nN (aG hs rfl (fun c40 hs => ?_) (fun c40 hs => ?_))))))))))
 refine aC (aa (ag (v := u8) rfl) (aa (ah kE rfl) (aa (aB h 177 rfl aW rfl rfl) (aa (ah iR rfl) (aa (aB h 177 rfl aW rfl rfl) (aa (dQ (pv := [(0, (I6 1)), (1, (I6 aL.b))]) (out := [(I6 1), (I6 aL.b)]) vQ rfl ⟨0, 1, [(I6 1)], rfl, rfl, rfl, bD rfl, ⟨1, 1, [(I6 aL.b)], rfl, rfl, rfl, bD rfl, rfl⟩⟩) ?_))))))
 obtain ⟨x41, e42, hs⟩ := aJ hs
 obtain ⟨Tq, q45, i43⟩ := h.xy 8 rfl bO rfl (aH e42).1 (aH e42).2
 refine aa (i43 _ _ _ _ _ _ _ _ _ rfl rfl) (yM (a' := (⟨1, aL.b⟩ : Val)) (vs := [(I6 1), (I6 aL.b)]) h 8 rfl q45 rfl (aH e42).2 bT rfl rfl rfl rfl rfl fun w h k46 => az (ax ?_))
 replace h := h.rQ 2 3 8 ({ x3 with at_ := (min (x3.at_ + 1) ((aY.code.length : Int) - 1)), regs := (x3.regs.set (aL.a).toNat (⟨1, aL.b⟩ : Val)) }) rfl rfl rfl (by decide) (by decide) (by decide) (kr (aH e4).2) e9 rfl
 refine au ?_
 exact bP (false, jq, jU, ((sx.frames.set (((sx.frames.length : Int) - 1)).toNat ({ x3 with at_ := (min (x3.at_ + 1) ((aY.code.length : Int) - 1)) })).set (((sx.frames.length : Int) - 1)).toNat ({ x3 with at_ := (min (x3.at_ + 1) ((aY.code.length : Int) - 1)), regs := (x3.regs.set (aL.a).toNat (⟨1, aL.b⟩ : Val)) })), vs1, jG, sx.cells, sx.status, sx.aK) ⟨h.cn _, hs⟩
 refine nG (aa (bz rfl rfl) (aa (ae (v := (.bool (decide ((aL.op : Int) = 2)))) rfl) (nN (aG hs rfl (fun c47 hs => ?_) (fun c47 hs => ?_)))))
 refine rP 9 mixed (by kernel_rfl) h fun w h => aM (ag (v := u8) rfl) (aM (ah kE rfl) (aM (aB h 177 rfl aW rfl rfl) (aM (ag (v := u8) rfl) (aM (ah iR rfl) (aM (aB h 177 rfl aW rfl rfl) ?_)))))
 obtain ⟨Jf, e49, hs⟩ := aJ hs
 obtain ⟨b51, q52, i50⟩ := h.xy 8 rfl bO rfl (aH e49).1 (aH e49).2
 refine aM (i50 _ _ _ _ _ _ _ _ _ rfl rfl) ?_
 obtain ⟨cs53, m54, r55⟩ := h.Af 8 rfl q52 (aH e49).2
 obtain rfl := r55
 refine aM (pI (k := 0) (vs := [(I6 Jf.kind), (I6 Jf.n)]) m54 bT rfl rfl rfl (bD rfl)) ?_
 obtain ⟨x56, e57, hs⟩ := aJ hs
 obtain ⟨b59, q60, i58⟩ := h.xy 8 rfl bO rfl (aH e57).1 (aH e57).2
 refine aM (i58 _ _ _ _ _ _ _ _ _ rfl rfl) (Be (yM (a' := Jf) (vs := [(I6 Jf.kind), (I6 Jf.n)]) h 8 rfl q60 rfl (aH e57).2 bT rfl rfl rfl rfl rfl fun w h YE => az (ax ?_)))
 replace h := h.rQ 2 3 8 ({ x3 with at_ := (min (x3.at_ + 1) ((aY.code.length : Int) - 1)), regs := (x3.regs.set (aL.a).toNat Jf) }) rfl rfl rfl (by decide) (by decide) (by decide) (kr (aH e4).2) e9 rfl
 refine au ?_
 exact bP (false, jq, jU, ((sx.frames.set (((sx.frames.length : Int) - 1)).toNat ({ x3 with at_ := (min (x3.at_ + 1) ((aY.code.length : Int) - 1)) })).set (((sx.frames.length : Int) - 1)).toNat ({ x3 with at_ := (min (x3.at_ + 1) ((aY.code.length : Int) - 1)), regs := (x3.regs.set (aL.a).toNat Jf) })), vs1, jG, sx.cells, sx.status, sx.aK) ⟨h.cn _, hs⟩
 refine nG (aa (bz rfl rfl) (aa (ae (v := (.bool (decide ((aL.op : Int) = 3)))) rfl) (nN (aG hs rfl (fun c62 hs => ?_) (fun c62 hs => ?_)))))
 refine bW (σ := Bool × List LX.Frame) (inl ([5] ++ rg 84 22)) (fun ⟨qp, Kj⟩ => [(5, (.bool (qp)))]) (fun ⟨qp, Kj⟩ w => SH w0 M K0 w (hset [(1, .blk sb [jq, vs1, (I6 sx.status), (I6 sx.aK)]), (2, .own bR.raw 49 jq (List.zip Kj jU)), (3, .gZ (dC bM 51 hn jU (List.map bR.sub Kj))), (4, .own (ed Val).raw 47 vs1 (List.zip sx.cells jG)), (5, .gZ (dC bM 51 hn jG (List.map (ed Val).sub sx.cells))), (7, .blk b1 [(.bool (false)), (I6 0), (.bool (false))])]) ∧ A8 sx qp Kj = some r) ?_ ?_
 rintro ⟨qp, Kj⟩ w dx ⟨h, hs⟩
 refine nG (aa (cK (vs := [(.bool (false)), (I6 0), (.bool (false))]) h 7 rfl gq rfl rfl rfl) (aa (ag (v := (.bool (qp))) rfl) (dm (vs := [(.bool (false)), (I6 0), (.bool (false))]) h 7 [(.bool (false)), (I6 0), (.bool (false))] rfl gq rfl rfl rfl rfl rfl (ai rfl (ai rfl (ai rfl aR))) fun w h => aa (ae (v := (.bool (qp))) rfl) (nR (aD (ay (ko (vs := [(.bool (false)), (I6 0), (.bool (false))]) (v2 := (.bool (qp))) Tryz.results65 rfl rfl h 7 rfl gq rfl ?_)))))))
 replace h := h.pair 1 2 (by decide)
 replace h := h.pair 1 3 (by decide)
 replace h := h.pair 1 4 (by decide)
 replace h := h.pair 1 5 (by decide)
 obtain rfl := fJ hs
 subst Bo
 obtain ⟨o1, o2, o3⟩ := h.q8 1 (C := (cT sb jq vs1 (sx.status) (sx.aK) Kj jU sx.cells jG)) rfl ⟨⟨⟨⟨trivial, trivial⟩, trivial⟩, trivial⟩, trivial⟩
 exact ⟨o2, jq, vs1, jU, jG, rfl, o1, o3⟩
 refine ky (L := (ob u8)) mixed h fun w h => bB 0 (aI.refl _ _) rfl aj (by kernel_rfl) (by kernel_rfl) (by kernel_rfl) (fun w hk => ag (v := u8) rfl) (bB 1 (aI.refl _ _) rfl aj (by kernel_rfl) (by kernel_rfl) (by kernel_rfl) (fun w hk => ah kE rfl) (bB 2 (aI.refl _ _) rfl aj (by kernel_rfl) (by kernel_rfl) (by kernel_rfl) (fun w hk => have h := h.rD 8 rfl hk; aB h 177 rfl aW rfl rfl) (bB 3 (aI.refl _ _) rfl aj (by kernel_rfl) (by kernel_rfl) (by kernel_rfl) (fun w hk => ah xe rfl) (bB 4 (aI.refl _ _) rfl aj (by kernel_rfl) (by kernel_rfl) (by kernel_rfl) (fun w hk => have h := h.rD 8 rfl hk; aB h 177 rfl vP rfl rfl) ?_))))
 obtain ⟨EL, Oj, hs⟩ := aJ hs
 obtain ⟨bq70x5_4, oq70x5_5, csq70x5_6, h, WQ, WR⟩ := h.Fj 154 275 rfl bY rfl (aH Oj).1 (aH Oj).2
 obtain rfl := WQ
 refine bB 5 (aI.refl _ _) rfl aj (by kernel_rfl) (by kernel_rfl) (by kernel_rfl) (fun w hk => WR _ _ _ _ _ _ _ _ _ rfl rfl) (bB 6 (aI.refl _ _) rfl aj (by kernel_rfl) (by kernel_rfl) (by kernel_rfl) (fun w hk => have h := h.rD 8 rfl hk; dZ (k := 0) h 275 rfl aW rfl rfl) (bB 7 (aI.refl _ _) rfl aj (by kernel_rfl) (by kernel_rfl) (by kernel_rfl) (fun w hk => ag (v := u8) rfl) (bB 8 (aI.refl _ _) rfl aj (by kernel_rfl) (by kernel_rfl) (by kernel_rfl) (fun w hk => ah iR rfl) (bB 9 (aI.refl _ _) rfl aj (by kernel_rfl) (by kernel_rfl) (by kernel_rfl) (fun w hk => have h := h.rD 8 rfl hk; aB h 177 rfl aW rfl rfl) ?_))))
 obtain ⟨sP, CX, hs⟩ := aJ hs
 obtain ⟨bq70x10_4, K7, TJ⟩ := h.xy 8 rfl bO rfl (aH CX).1 (aH CX).2
 refine bB 10 (aI.refl _ _) rfl aj (by kernel_rfl) (by kernel_rfl) (by kernel_rfl) (fun w hk => TJ _ _ _ _ _ _ _ _ _ rfl rfl) (bB 12 (aI.refl _ _) rfl aj (by kernel_rfl) (by kernel_rfl) (by kernel_rfl) (fun w hk => ag (v := u8) rfl) (bB 13 (aI.refl _ _) rfl aj (by kernel_rfl) (by kernel_rfl) (by kernel_rfl) (fun w hk => ah qJ rfl) (bB 14 (aI.refl _ _) rfl aj (by kernel_rfl) (by kernel_rfl) (by kernel_rfl) (fun w hk => have h := h.rD 8 rfl hk; aB h 177 rfl aW rfl rfl) ?_)))
 obtain ⟨sQ, CY, hs⟩ := aJ hs
 obtain ⟨bq70x15_4, K8, TK⟩ := h.xy 8 rfl bO rfl (aH CY).1 (aH CY).2
 refine bB 15 (aI.refl _ _) rfl aj (by kernel_rfl) (by kernel_rfl) (by kernel_rfl) (fun w hk => TK _ _ _ _ _ _ _ _ _ rfl rfl) ?_
 obtain ⟨fQ, K9, hs⟩ := aJ hs
 obtain ⟨Tz, xA, hs⟩ := aJ hs
 obtain ⟨ws71, ZA⟩ : ∃ x, x = w := ⟨_, rfl⟩
 have wG : aI (ob u8) ws71 w := ZA ▸ aI.refl (ob u8) w
 refine qX ZA.symm (oZ 11 16 (by kernel_rfl) rfl aj rfl aj ?_ ?_)
 obtain ⟨Qt, F8, F9⟩ := h.Af 8 rfl K7 (aH CX).2
 obtain rfl := F9
 refine aa (pI (k := 0) (vs := [(I6 sP.kind), (I6 sP.n)]) F8 bT rfl rfl rfl (bD rfl)) (az (aQ wG (bF 16 (by kernel_rfl) rfl aj ?_)))
 obtain ⟨Qu, Ga, Gb⟩ := h.Af 8 rfl K8 (aH CY).2
 obtain rfl := Gb
 refine aa (pI (k := 0) (vs := [(I6 sQ.kind), (I6 sQ.n)]) Ga bT rfl rfl rfl (bD rfl)) (az (aQ wG (bF 17 (by kernel_rfl) rfl aj (aS Vs rfl rfl (RI _ _ h.lt EL sP sQ _ K9) ?_))))
 rintro _ w ⟨zT, rfl⟩
 refine ⟨_, rfl, ?_⟩
 replace h := h.grow zT
 replace wG := wG.grow zT
 refine az (aQ wG (cO 18 wG rfl (by kernel_rfl) (fun w hk => ag (v := (.tuple #[(.agg #[(I6 fQ.1.kind), (I6 fQ.1.n)]), (.bool (fQ.2))])) rfl) (cO 19 wG rfl (by kernel_rfl) (fun w hk => aU rfl rfl) (cO 20 wG rfl (by kernel_rfl) (fun w hk => aU rfl rfl) ?_))))
 obtain ⟨TL, Gc, Gd⟩ := h.xy 8 rfl bO rfl (aH xA).1 (aH xA).2
 refine cO 21 wG rfl (by kernel_rfl) (fun w hk => Gd _ _ _ _ _ _ _ _ _ rfl rfl) (bF 22 (by kernel_rfl) rfl aj (yM (a' := fQ.1) (vs := [(I6 fQ.1.kind), (I6 fQ.1.n)]) h 8 rfl Gc rfl (aH xA).2 bT rfl rfl rfl rfl rfl fun w h Gf => ?_))
 replace wG := wG.same Gf
 refine az (aQ wG (cO 23 wG rfl (by kernel_rfl) (fun w hk => ae (v := (.bool (fQ.2))) rfl) (fB (by kernel_rfl) ?_)))
 replace h := h.rQ 2 3 8 ({ x3 with at_ := (min (x3.at_ + 1) ((aY.code.length : Int) - 1)), regs := (x3.regs.set (aL.a).toNat fQ.1) }) rfl rfl rfl (by decide) (by decide) (by decide) (kr (aH e4).2) e9 rfl
 refine au ?_
 exact bP (fQ.2, ((sx.frames.set (((sx.frames.length : Int) - 1)).toNat ({ x3 with at_ := (min (x3.at_ + 1) ((aY.code.length : Int) - 1)) })).set (((sx.frames.length : Int) - 1)).toNat ({ x3 with at_ := (min (x3.at_ + 1) ((aY.code.length : Int) - 1)), regs := (x3.regs.set (aL.a).toNat fQ.1) }))) ⟨h.cn _, hs⟩
 obtain ⟨Qu, Ga, Gb⟩ := h.Af 8 rfl K8 (aH CY).2
 obtain rfl := Gb
 refine aa (pI (k := 0) (vs := [(I6 sQ.kind), (I6 sQ.n)]) Ga bT rfl rfl rfl (bD rfl)) (az (aQ wG (bF 11 (by kernel_rfl) rfl aj ?_)))
 obtain ⟨Qt, F8, F9⟩ := h.Af 8 rfl K7 (aH CX).2
 obtain rfl := F9
 refine aa (pI (k := 0) (vs := [(I6 sP.kind), (I6 sP.n)]) F8 bT rfl rfl rfl (bD rfl)) (az (aQ wG (bF 17 (by kernel_rfl) rfl aj (aS Vs rfl rfl (RI _ _ h.lt EL sP sQ _ K9) ?_))))
 rintro _ w ⟨zT, rfl⟩
 refine ⟨_, rfl, ?_⟩
 replace h := h.grow zT
 replace wG := wG.grow zT
 refine az (aQ wG (cO 18 wG rfl (by kernel_rfl) (fun w hk => ag (v := (.tuple #[(.agg #[(I6 fQ.1.kind), (I6 fQ.1.n)]), (.bool (fQ.2))])) rfl) (cO 19 wG rfl (by kernel_rfl) (fun w hk => aU rfl rfl) (cO 20 wG rfl (by kernel_rfl) (fun w hk => aU rfl rfl) ?_))))
 obtain ⟨TL, Gc, Gd⟩ := h.xy 8 rfl bO rfl (aH xA).1 (aH xA).2
 refine cO 21 wG rfl (by kernel_rfl) (fun w hk => Gd _ _ _ _ _ _ _ _ _ rfl rfl) (bF 22 (by kernel_rfl) rfl aj (yM (a' := fQ.1) (vs := [(I6 fQ.1.kind), (I6 fQ.1.n)]) h 8 rfl Gc rfl (aH xA).2 bT rfl rfl rfl rfl rfl fun w h Gf => ?_))
 replace wG := wG.same Gf
 refine az (aQ wG (cO 23 wG rfl (by kernel_rfl) (fun w hk => ae (v := (.bool (fQ.2))) rfl) (fB (by kernel_rfl) ?_)))
 replace h := h.rQ 2 3 8 ({ x3 with at_ := (min (x3.at_ + 1) ((aY.code.length : Int) - 1)), regs := (x3.regs.set (aL.a).toNat fQ.1) }) rfl rfl rfl (by decide) (by decide) (by decide) (kr (aH e4).2) e9 rfl
 refine au ?_
 exact bP (fQ.2, ((sx.frames.set (((sx.frames.length : Int) - 1)).toNat ({ x3 with at_ := (min (x3.at_ + 1) ((aY.code.length : Int) - 1)) })).set (((sx.frames.length : Int) - 1)).toNat ({ x3 with at_ := (min (x3.at_ + 1) ((aY.code.length : Int) - 1)), regs := (x3.regs.set (aL.a).toNat fQ.1) }))) ⟨h.cn _, hs⟩
 refine bW (σ := Bool) (inl [108, 109, 110]) (fun x73 => [(108, (.bool (x73)))]) (fun x73 w => SH w0 M K0 w (hset [(1, .blk sb [jq, vs1, (I6 sx.status), (I6 sx.aK)]), (2, .own bR.raw 49 jq (List.zip (sx.frames.set (((sx.frames.length : Int) - 1)).toNat ({ x3 with at_ := (min (x3.at_ + 1) ((aY.code.length : Int) - 1)) })) jU)), (3, .gZ (dC bM 51 (hat (((sx.frames.length : Int) - 1)).toNat) jU (List.map bR.sub (sx.frames.set (((sx.frames.length : Int) - 1)).toNat ({ x3 with at_ := (min (x3.at_ + 1) ((aY.code.length : Int) - 1)) }))))), (4, .own (ed Val).raw 47 vs1 (List.zip sx.cells jG)), (5, .gZ (dC bM 51 hn jG (List.map (ed Val).sub sx.cells))), (6, .rd jF va a), (7, .blk b1 [(.bool (false)), (I6 0), (.bool (false))]), (8, .own bM 51 u8 x3.regs), (154, .rd dU kg aL.args), (177, .blk K6 [(I6 aL.op), (I6 aL.a), (I6 aL.b), (I6 aL.c), kg])]) ∧ iV N sx x3 aY aL a x73 = some r) ?_ ?_
 rintro x73 w dx ⟨h, hs⟩
 refine aG hs rfl (fun c74 hs => ?_) (fun c74 hs => ?_)
 refine aP ?_
 replace h := h.iY 3 8 rfl rfl (by decide) (kr (aH e4).2) e9 rfl
 refine ky (L := (fun b => Chunk.own' (cT sb jq vs1 (sx.status) (sx.aK) (sx.frames.set (((sx.frames.length : Int) - 1)).toNat ({ x3 with at_ := (min (x3.at_ + 1) ((aY.code.length : Int) - 1)) })) jU sx.cells jG) b ∨ b = b1)) mixed h fun w h => bB 1 (aI.refl _ _) rfl aj (by kernel_rfl) (by kernel_rfl) (by kernel_rfl) (fun w hk => ag (v := (.pointer (some ⟨sb, 0, none⟩))) rfl) (bB 2 (aI.refl _ _) rfl aj (by kernel_rfl) (by kernel_rfl) (by kernel_rfl) (fun w hk => have h := ((((h.pair 1 2 (by decide)).pair 1 3 (by decide)).pair 1 4 (by decide)).pair 1 5 (by decide)).BH 1 7 (by decide) rfl rfl hk; cK (vs := [(I6 aL.op), (I6 aL.a), (I6 aL.b), (I6 aL.c), kg]) h 177 rfl qh rfl rfl rfl) (bB 3 (aI.refl _ _) rfl aj (by kernel_rfl) (by kernel_rfl) (by kernel_rfl) (fun w hk => ag (v := u8) rfl) ?_))
 obtain ⟨iB, Ol, hs⟩ := aJ hs
 obtain ⟨ws86, Om⟩ : ∃ x, x = w := ⟨_, rfl⟩
 have tH : aI (fun b => Chunk.own' (cT sb jq vs1 (sx.status) (sx.aK) (sx.frames.set (((sx.frames.length : Int) - 1)).toNat ({ x3 with at_ := (min (x3.at_ + 1) ((aY.code.length : Int) - 1)) })) jU sx.cells jG) b ∨ b = b1) ws86 w := Om ▸ aI.refl (fun b => Chunk.own' (cT sb jq vs1 (sx.status) (sx.aK) (sx.frames.set (((sx.frames.length : Int) - 1)).toNat ({ x3 with at_ := (min (x3.at_ + 1) ((aY.code.length : Int) - 1)) })) jU sx.cells jG) b ∨ b = b1) w
 refine qX Om.symm (oZ 0 4 (by kernel_rfl) rfl aj rfl aj ?_ ?_)
 refine aa (cK (vs := [(.bool (false)), (I6 0), (.bool (false))]) h 7 rfl gq rfl rfl rfl) (az (aQ tH (bF 4 (by kernel_rfl) rfl aj ?_)))
 replace h := h.pair 1 2 (by decide)
 replace h := h.pair 1 3 (by decide)
 replace h := h.pair 1 4 (by decide)
 replace h := h.pair 1 5 (by decide)
 obtain ⟨Gg, Gh, Gi⟩ := h.xH 1 (C := (cT sb jq vs1 (sx.status) (sx.aK) (sx.frames.set (((sx.frames.length : Int) - 1)).toNat ({ x3 with at_ := (min (x3.at_ + 1) ((aY.code.length : Int) - 1)) })) jU sx.cells jG)) rfl ⟨⟨⟨⟨trivial, trivial⟩, trivial⟩, trivial⟩, trivial⟩
 refine aS Vt rfl rfl (I1 _ _ Gi sb (⟨(sx.frames.set (((sx.frames.length : Int) - 1)).toNat ({ x3 with at_ := (min (x3.at_ + 1) ((aY.code.length : Int) - 1)) })), sx.cells, sx.status, sx.aK⟩ : LX.State) jq vs1 jU jG Gg Gh aL kg (h.Rq 1 154 rfl rfl) ((sx.frames.length : Int) - 1) ({ x3 with at_ := (min (x3.at_ + 1) ((aY.code.length : Int) - 1)) }) (aH e4).1 (kr (aH e4).2) u8 e9 _ Ol) ?_
 rintro _ w ⟨Cf, xS, xU, uZ, u6, rfl, Jg, Gj⟩
 refine ⟨_, rfl, ?_⟩
 replace h := h.back 1 (C := (cT sb jq vs1 (sx.status) (sx.aK) (sx.frames.set (((sx.frames.length : Int) - 1)).toNat ({ x3 with at_ := (min (x3.at_ + 1) ((aY.code.length : Int) - 1)) })) jU sx.cells jG)) (C' := (cT sb xS xU (iB.2.status) (iB.2.aK) iB.2.frames uZ iB.2.cells u6)) rfl ⟨⟨⟨⟨trivial, trivial⟩, trivial⟩, trivial⟩, trivial⟩ Jg Cf Gj
 replace h := h.bG 1 5 (by decide) rfl rfl
 replace h := h.bG 1 4 (by decide) rfl rfl
 replace h := h.bG 1 3 (by decide) rfl rfl
 replace h := h.bG 1 2 (by decide) rfl rfl
 replace tH := aI.step tH Cf (fun _ hx _ => .inl (hx))
 refine az (aQ tH (bF 5 (by kernel_rfl) rfl aj (qY (vs := [(.bool (false)), (I6 0), (.bool (false))]) h 7 [(.bool (false)), (I6 0), (.bool (false))] rfl gq rfl rfl rfl rfl rfl (ai rfl (ai rfl (ai rfl aR))) fun w h Jh => ?_)))
 replace tH := aI.step tH Jh (fun _ hx _ => .inr (hx))
 refine az (aQ tH (cO 6 tH rfl (by kernel_rfl) (fun w hk => ae (v := (.bool (iB.1))) rfl) (fB (by kernel_rfl) (ak (tK (aD (ay (ko (vs := [(.bool (false)), (I6 0), (.bool (false))]) (v2 := (.bool (iB.1))) Tryz.results65 rfl rfl h 7 rfl gq rfl ?_))))))))
 replace h := h.pair 1 2 (by decide)
 replace h := h.pair 1 3 (by decide)
 replace h := h.pair 1 4 (by decide)
 replace h := h.pair 1 5 (by decide)
 obtain rfl := fJ hs
 subst Bo
 obtain ⟨o1, o2, o3⟩ := h.q8 1 (C := (cT sb xS xU (iB.2.status) (iB.2.aK) iB.2.frames uZ iB.2.cells u6)) rfl ⟨⟨⟨⟨trivial, trivial⟩, trivial⟩, trivial⟩, trivial⟩
 exact ⟨o2, xS, xU, uZ, u6, rfl, o1, o3⟩
 replace h := h.pair 1 2 (by decide)
 replace h := h.pair 1 3 (by decide)
 replace h := h.pair 1 4 (by decide)
 replace h := h.pair 1 5 (by decide)
 obtain ⟨Gg, Gh, Gi⟩ := h.xH 1 (C := (cT sb jq vs1 (sx.status) (sx.aK) (sx.frames.set (((sx.frames.length : Int) - 1)).toNat ({ x3 with at_ := (min (x3.at_ + 1) ((aY.code.length : Int) - 1)) })) jU sx.cells jG)) rfl ⟨⟨⟨⟨trivial, trivial⟩, trivial⟩, trivial⟩, trivial⟩
 refine aS Vt rfl rfl (I1 _ _ Gi sb (⟨(sx.frames.set (((sx.frames.length : Int) - 1)).toNat ({ x3 with at_ := (min (x3.at_ + 1) ((aY.code.length : Int) - 1)) })), sx.cells, sx.status, sx.aK⟩ : LX.State) jq vs1 jU jG Gg Gh aL kg (h.Rq 1 154 rfl rfl) ((sx.frames.length : Int) - 1) ({ x3 with at_ := (min (x3.at_ + 1) ((aY.code.length : Int) - 1)) }) (aH e4).1 (kr (aH e4).2) u8 e9 _ Ol) ?_
 rintro _ w ⟨Cf, xS, xU, uZ, u6, rfl, Jg, Gj⟩
 refine ⟨_, rfl, ?_⟩
 replace h := h.back 1 (C := (cT sb jq vs1 (sx.status) (sx.aK) (sx.frames.set (((sx.frames.length : Int) - 1)).toNat ({ x3 with at_ := (min (x3.at_ + 1) ((aY.code.length : Int) - 1)) })) jU sx.cells jG)) (C' := (cT sb xS xU (iB.2.status) (iB.2.aK) iB.2.frames uZ iB.2.cells u6)) rfl ⟨⟨⟨⟨trivial, trivial⟩, trivial⟩, trivial⟩, trivial⟩ Jg Cf Gj
 replace h := h.bG 1 5 (by decide) rfl rfl
 replace h := h.bG 1 4 (by decide) rfl rfl
 replace h := h.bG 1 3 (by decide) rfl rfl
 replace h := h.bG 1 2 (by decide) rfl rfl
 replace tH := aI.step tH Cf (fun _ hx _ => .inl (hx))
 refine az (aQ tH (bF 0 (by kernel_rfl) rfl aj (aa (cK (vs := [(.bool (false)), (I6 0), (.bool (false))]) h 7 rfl gq rfl rfl rfl) (az (aQ tH (bF 5 (by kernel_rfl) rfl aj (qY (vs := [(.bool (false)), (I6 0), (.bool (false))]) h 7 [(.bool (false)), (I6 0), (.bool (false))] rfl gq rfl rfl rfl rfl rfl (ai rfl (ai rfl (ai rfl aR))) fun w h Jh => ?_)))))))
 replace tH := aI.step tH Jh (fun _ hx _ => .inr (hx))
 refine az (aQ tH (cO 6 tH rfl (by kernel_rfl) (fun w hk => ae (v := (.bool (iB.1))) rfl) (fB (by kernel_rfl) (ak (tK (aD (ay (ko (vs := [(.bool (false)), (I6 0), (.bool (false))]) (v2 := (.bool (iB.1))) Tryz.results65 rfl rfl h 7 rfl gq rfl ?_))))))))
 replace h := h.pair 1 2 (by decide)
 replace h := h.pair 1 3 (by decide)
 replace h := h.pair 1 4 (by decide)
 replace h := h.pair 1 5 (by decide)
 obtain rfl := fJ hs
 subst Bo
 obtain ⟨o1, o2, o3⟩ := h.q8 1 (C := (cT sb xS xU (iB.2.status) (iB.2.aK) iB.2.frames uZ iB.2.cells u6)) rfl ⟨⟨⟨⟨trivial, trivial⟩, trivial⟩, trivial⟩, trivial⟩
 exact ⟨o2, xS, xU, uZ, u6, rfl, o1, o3⟩
 refine nG (aa (bz rfl rfl) (aa (ae (v := (.bool (decide ((aL.op : Int) = 5)))) rfl) (nN (aG hs rfl (fun Qv hs => ?_) (fun Qv hs => ?_)))))
 refine aP ?_
 replace h := h.iY 3 8 rfl rfl (by decide) (kr (aH e4).2) e9 rfl
 refine ky (L := (fun b => Chunk.own' (cT sb jq vs1 (sx.status) (sx.aK) (sx.frames.set (((sx.frames.length : Int) - 1)).toNat ({ x3 with at_ := (min (x3.at_ + 1) ((aY.code.length : Int) - 1)) })) jU sx.cells jG) b ∨ b = b1)) mixed h fun w h => bB 1 (aI.refl _ _) rfl aj (by kernel_rfl) (by kernel_rfl) (by kernel_rfl) (fun w hk => ag (v := (.pointer (some ⟨sb, 0, none⟩))) rfl) (bB 2 (aI.refl _ _) rfl aj (by kernel_rfl) (by kernel_rfl) (by kernel_rfl) (fun w hk => have h := ((((h.pair 1 2 (by decide)).pair 1 3 (by decide)).pair 1 4 (by decide)).pair 1 5 (by decide)).BH 1 7 (by decide) rfl rfl hk; cK (vs := [(I6 aL.op), (I6 aL.a), (I6 aL.b), (I6 aL.c), kg]) h 177 rfl qh rfl rfl rfl) ?_)
 obtain ⟨iC, Oo, hs⟩ := aJ hs
 obtain ⟨ws100, WS⟩ : ∃ x, x = w := ⟨_, rfl⟩
 have wY : aI (fun b => Chunk.own' (cT sb jq vs1 (sx.status) (sx.aK) (sx.frames.set (((sx.frames.length : Int) - 1)).toNat ({ x3 with at_ := (min (x3.at_ + 1) ((aY.code.length : Int) - 1)) })) jU sx.cells jG) b ∨ b = b1) ws100 w := WS ▸ aI.refl (fun b => Chunk.own' (cT sb jq vs1 (sx.status) (sx.aK) (sx.frames.set (((sx.frames.length : Int) - 1)).toNat ({ x3 with at_ := (min (x3.at_ + 1) ((aY.code.length : Int) - 1)) })) jU sx.cells jG) b ∨ b = b1) w
 refine qX WS.symm (oZ 0 3 (by kernel_rfl) rfl aj rfl aj ?_ ?_)
 refine aa (cK (vs := [(.bool (false)), (I6 0), (.bool (false))]) h 7 rfl gq rfl rfl rfl) (az (aQ wY (bF 3 (by kernel_rfl) rfl aj ?_)))
 replace h := h.pair 1 2 (by decide)
 replace h := h.pair 1 3 (by decide)
 replace h := h.pair 1 4 (by decide)
 replace h := h.pair 1 5 (by decide)
 obtain ⟨Gl, Gm, Gn⟩ := h.xH 1 (C := (cT sb jq vs1 (sx.status) (sx.aK) (sx.frames.set (((sx.frames.length : Int) - 1)).toNat ({ x3 with at_ := (min (x3.at_ + 1) ((aY.code.length : Int) - 1)) })) jU sx.cells jG)) rfl ⟨⟨⟨⟨trivial, trivial⟩, trivial⟩, trivial⟩, trivial⟩
 refine aS Vu rfl rfl (I8 N _ _ Gn sb (⟨(sx.frames.set (((sx.frames.length : Int) - 1)).toNat ({ x3 with at_ := (min (x3.at_ + 1) ((aY.code.length : Int) - 1)) })), sx.cells, sx.status, sx.aK⟩ : LX.State) jq vs1 jU jG Gl Gm aL kg (h.Rq 1 154 rfl rfl) _ Oo) ?_
 rintro _ w ⟨Cg, xV, xW, u7, vg, rfl, Ji, Gp⟩
 refine ⟨_, rfl, ?_⟩
 replace h := h.back 1 (C := (cT sb jq vs1 (sx.status) (sx.aK) (sx.frames.set (((sx.frames.length : Int) - 1)).toNat ({ x3 with at_ := (min (x3.at_ + 1) ((aY.code.length : Int) - 1)) })) jU sx.cells jG)) (C' := (cT sb xV xW (iC.2.status) (iC.2.aK) iC.2.frames u7 iC.2.cells vg)) rfl ⟨⟨⟨⟨trivial, trivial⟩, trivial⟩, trivial⟩, trivial⟩ Ji Cg Gp
 replace h := h.bG 1 5 (by decide) rfl rfl
 replace h := h.bG 1 4 (by decide) rfl rfl
 replace h := h.bG 1 3 (by decide) rfl rfl
 replace h := h.bG 1 2 (by decide) rfl rfl
 replace wY := aI.step wY Cg (fun _ hx _ => .inl (hx))
 refine az (aQ wY (bF 4 (by kernel_rfl) rfl aj (qY (vs := [(.bool (false)), (I6 0), (.bool (false))]) h 7 [(.bool (false)), (I6 0), (.bool (false))] rfl gq rfl rfl rfl rfl rfl (ai rfl (ai rfl (ai rfl aR))) fun w h Jj => ?_)))
 replace wY := aI.step wY Jj (fun _ hx _ => .inr (hx))
 refine az (aQ wY (cO 5 wY rfl (by kernel_rfl) (fun w hk => ae (v := (.bool (iC.1))) rfl) (fB (by kernel_rfl) (ak (tK (aD (ay (ko (vs := [(.bool (false)), (I6 0), (.bool (false))]) (v2 := (.bool (iC.1))) Tryz.results65 rfl rfl h 7 rfl gq rfl ?_))))))))
 replace h := h.pair 1 2 (by decide)
 replace h := h.pair 1 3 (by decide)
 replace h := h.pair 1 4 (by decide)
 replace h := h.pair 1 5 (by decide)
 obtain rfl := fJ hs
 subst Bo
 obtain ⟨o1, o2, o3⟩ := h.q8 1 (C := (cT sb xV xW (iC.2.status) (iC.2.aK) iC.2.frames u7 iC.2.cells vg)) rfl ⟨⟨⟨⟨trivial, trivial⟩, trivial⟩, trivial⟩, trivial⟩
 exact ⟨o2, xV, xW, u7, vg, rfl, o1, o3⟩
 replace h := h.pair 1 2 (by decide)
 replace h := h.pair 1 3 (by decide)
 replace h := h.pair 1 4 (by decide)
 replace h := h.pair 1 5 (by decide)
 obtain ⟨Gl, Gm, Gn⟩ := h.xH 1 (C := (cT sb jq vs1 (sx.status) (sx.aK) (sx.frames.set (((sx.frames.length : Int) - 1)).toNat ({ x3 with at_ := (min (x3.at_ + 1) ((aY.code.length : Int) - 1)) })) jU sx.cells jG)) rfl ⟨⟨⟨⟨trivial, trivial⟩, trivial⟩, trivial⟩, trivial⟩
 refine aS Vu rfl rfl (I8 N _ _ Gn sb (⟨(sx.frames.set (((sx.frames.length : Int) - 1)).toNat ({ x3 with at_ := (min (x3.at_ + 1) ((aY.code.length : Int) - 1)) })), sx.cells, sx.status, sx.aK⟩ : LX.State) jq vs1 jU jG Gl Gm aL kg (h.Rq 1 154 rfl rfl) _ Oo) ?_
 rintro _ w ⟨Cg, xV, xW, u7, vg, rfl, Ji, Gp⟩
 refine ⟨_, rfl, ?_⟩
 replace h := h.back 1 (C := (cT sb jq vs1 (sx.status) (sx.aK) (sx.frames.set (((sx.frames.length : Int) - 1)).toNat ({ x3 with at_ := (min (x3.at_ + 1) ((aY.code.length : Int) - 1)) })) jU sx.cells jG)) (C' := (cT sb xV xW (iC.2.status) (iC.2.aK) iC.2.frames u7 iC.2.cells vg)) rfl ⟨⟨⟨⟨trivial, trivial⟩, trivial⟩, trivial⟩, trivial⟩ Ji Cg Gp
 replace h := h.bG 1 5 (by decide) rfl rfl
 replace h := h.bG 1 4 (by decide) rfl rfl
 replace h := h.bG 1 3 (by decide) rfl rfl
 replace h := h.bG 1 2 (by decide) rfl rfl
 replace wY := aI.step wY Cg (fun _ hx _ => .inl (hx))
 refine az (aQ wY (bF 0 (by kernel_rfl) rfl aj (aa (cK (vs := [(.bool (false)), (I6 0), (.bool (false))]) h 7 rfl gq rfl rfl rfl) (az (aQ wY (bF 4 (by kernel_rfl) rfl aj (qY (vs := [(.bool (false)), (I6 0), (.bool (false))]) h 7 [(.bool (false)), (I6 0), (.bool (false))] rfl gq rfl rfl rfl rfl rfl (ai rfl (ai rfl (ai rfl aR))) fun w h Jj => ?_)))))))
 replace wY := aI.step wY Jj (fun _ hx _ => .inr (hx))
 refine az (aQ wY (cO 5 wY rfl (by kernel_rfl) (fun w hk => ae (v := (.bool (iC.1))) rfl) (fB (by kernel_rfl) (ak (tK (aD (ay (ko (vs := [(.bool (false)), (I6 0), (.bool (false))]) (v2 := (.bool (iC.1))) Tryz.results65 rfl rfl h 7 rfl gq rfl ?_))))))))
 replace h := h.pair 1 2 (by decide)
 replace h := h.pair 1 3 (by decide)
 replace h := h.pair 1 4 (by decide)
 replace h := h.pair 1 5 (by decide)
 obtain rfl := fJ hs
 subst Bo
 obtain ⟨o1, o2, o3⟩ := h.q8 1 (C := (cT sb xV xW (iC.2.status) (iC.2.aK) iC.2.frames u7 iC.2.cells vg)) rfl ⟨⟨⟨⟨trivial, trivial⟩, trivial⟩, trivial⟩, trivial⟩
 exact ⟨o2, xV, xW, u7, vg, rfl, o1, o3⟩
 refine nG (aa (bz rfl rfl) (aa (ae (v := (.bool (decide ((aL.op : Int) = 7)))) rfl) (nN (aG hs rfl (fun VZ hs => ?_) (fun VZ hs => ?_)))))
 refine aP ?_
 replace h := h.iY 3 8 rfl rfl (by decide) (kr (aH e4).2) e9 rfl
 refine ky (L := (fun b => Chunk.own' (cT sb jq vs1 (sx.status) (sx.aK) (sx.frames.set (((sx.frames.length : Int) - 1)).toNat ({ x3 with at_ := (min (x3.at_ + 1) ((aY.code.length : Int) - 1)) })) jU sx.cells jG) b ∨ b = b1)) mixed h fun w h => bB 1 (aI.refl _ _) rfl aj (by kernel_rfl) (by kernel_rfl) (by kernel_rfl) (fun w hk => ag (v := va) rfl) (bB 2 (aI.refl _ _) rfl aj (by kernel_rfl) (by kernel_rfl) (by kernel_rfl) (fun w hk => ag (v := (.pointer (some ⟨sb, 0, none⟩))) rfl) (bB 3 (aI.refl _ _) rfl aj (by kernel_rfl) (by kernel_rfl) (by kernel_rfl) (fun w hk => have h := ((((h.pair 1 2 (by decide)).pair 1 3 (by decide)).pair 1 4 (by decide)).pair 1 5 (by decide)).BH 1 7 (by decide) rfl rfl hk; cK (vs := [(I6 aL.op), (I6 aL.a), (I6 aL.b), (I6 aL.c), kg]) h 177 rfl qh rfl rfl rfl) ?_))
 obtain ⟨fP, La, hs⟩ := aJ hs
 obtain ⟨ws114, WT⟩ : ∃ x, x = w := ⟨_, rfl⟩
 have wZ : aI (fun b => Chunk.own' (cT sb jq vs1 (sx.status) (sx.aK) (sx.frames.set (((sx.frames.length : Int) - 1)).toNat ({ x3 with at_ := (min (x3.at_ + 1) ((aY.code.length : Int) - 1)) })) jU sx.cells jG) b ∨ b = b1) ws114 w := WT ▸ aI.refl (fun b => Chunk.own' (cT sb jq vs1 (sx.status) (sx.aK) (sx.frames.set (((sx.frames.length : Int) - 1)).toNat ({ x3 with at_ := (min (x3.at_ + 1) ((aY.code.length : Int) - 1)) })) jU sx.cells jG) b ∨ b = b1) w
 refine qX WT.symm (oZ 0 4 (by kernel_rfl) rfl aj rfl aj ?_ ?_)
 refine aa (cK (vs := [(.bool (false)), (I6 0), (.bool (false))]) h 7 rfl gq rfl rfl rfl) (az (aQ wZ (bF 4 (by kernel_rfl) rfl aj ?_)))
 replace h := h.pair 1 2 (by decide)
 replace h := h.pair 1 3 (by decide)
 replace h := h.pair 1 4 (by decide)
 replace h := h.pair 1 5 (by decide)
 obtain ⟨Ea, Eb, Ec⟩ := h.xH 1 (C := (cT sb jq vs1 (sx.status) (sx.aK) (sx.frames.set (((sx.frames.length : Int) - 1)).toNat ({ x3 with at_ := (min (x3.at_ + 1) ((aY.code.length : Int) - 1)) })) jU sx.cells jG)) rfl ⟨⟨⟨⟨trivial, trivial⟩, trivial⟩, trivial⟩, trivial⟩
 refine aS Vv rfl rfl (K4 _ _ Ec sb (⟨(sx.frames.set (((sx.frames.length : Int) - 1)).toNat ({ x3 with at_ := (min (x3.at_ + 1) ((aY.code.length : Int) - 1)) })), sx.cells, sx.status, sx.aK⟩ : LX.State) jq vs1 jU jG Ea Eb va a (h.Rq 1 6 rfl rfl) aL kg (h.Rq 1 154 rfl rfl) _ La) ?_
 rintro _ w ⟨zU, vk, vo, si, sj, rfl, Gq, Ed⟩
 refine ⟨_, rfl, ?_⟩
 replace h := h.back 1 (C := (cT sb jq vs1 (sx.status) (sx.aK) (sx.frames.set (((sx.frames.length : Int) - 1)).toNat ({ x3 with at_ := (min (x3.at_ + 1) ((aY.code.length : Int) - 1)) })) jU sx.cells jG)) (C' := (cT sb vk vo (fP.2.status) (fP.2.aK) fP.2.frames si fP.2.cells sj)) rfl ⟨⟨⟨⟨trivial, trivial⟩, trivial⟩, trivial⟩, trivial⟩ Gq zU Ed
 replace h := h.bG 1 5 (by decide) rfl rfl
 replace h := h.bG 1 4 (by decide) rfl rfl
 replace h := h.bG 1 3 (by decide) rfl rfl
 replace h := h.bG 1 2 (by decide) rfl rfl
 replace wZ := aI.step wZ zU (fun _ hx _ => .inl (hx))
 refine az (aQ wZ (bF 5 (by kernel_rfl) rfl aj (qY (vs := [(.bool (false)), (I6 0), (.bool (false))]) h 7 [(.bool (false)), (I6 0), (.bool (false))] rfl gq rfl rfl rfl rfl rfl (ai rfl (ai rfl (ai rfl aR))) fun w h Gr => ?_)))
 replace wZ := aI.step wZ Gr (fun _ hx _ => .inr (hx))
 refine az (aQ wZ (cO 6 wZ rfl (by kernel_rfl) (fun w hk => ae (v := (.bool (fP.1))) rfl) (fB (by kernel_rfl) (ak (tK (aD (ay (ko (vs := [(.bool (false)), (I6 0), (.bool (false))]) (v2 := (.bool (fP.1))) Tryz.results65 rfl rfl h 7 rfl gq rfl ?_))))))))
 replace h := h.pair 1 2 (by decide)
 replace h := h.pair 1 3 (by decide)
 replace h := h.pair 1 4 (by decide)
 replace h := h.pair 1 5 (by decide)
 obtain rfl := fJ hs
 subst Bo
 obtain ⟨o1, o2, o3⟩ := h.q8 1 (C := (cT sb vk vo (fP.2.status) (fP.2.aK) fP.2.frames si fP.2.cells sj)) rfl ⟨⟨⟨⟨trivial, trivial⟩, trivial⟩, trivial⟩, trivial⟩
 exact ⟨o2, vk, vo, si, sj, rfl, o1, o3⟩
 replace h := h.pair 1 2 (by decide)
 replace h := h.pair 1 3 (by decide)
 replace h := h.pair 1 4 (by decide)
 replace h := h.pair 1 5 (by decide)
 obtain ⟨Ea, Eb, Ec⟩ := h.xH 1 (C := (cT sb jq vs1 (sx.status) (sx.aK) (sx.frames.set (((sx.frames.length : Int) - 1)).toNat ({ x3 with at_ := (min (x3.at_ + 1) ((aY.code.length : Int) - 1)) })) jU sx.cells jG)) rfl ⟨⟨⟨⟨trivial, trivial⟩, trivial⟩, trivial⟩, trivial⟩
 refine aS Vv rfl rfl (K4 _ _ Ec sb (⟨(sx.frames.set (((sx.frames.length : Int) - 1)).toNat ({ x3 with at_ := (min (x3.at_ + 1) ((aY.code.length : Int) - 1)) })), sx.cells, sx.status, sx.aK⟩ : LX.State) jq vs1 jU jG Ea Eb va a (h.Rq 1 6 rfl rfl) aL kg (h.Rq 1 154 rfl rfl) _ La) ?_
 rintro _ w ⟨zU, vk, vo, si, sj, rfl, Gq, Ed⟩
 refine ⟨_, rfl, ?_⟩
 replace h := h.back 1 (C := (cT sb jq vs1 (sx.status) (sx.aK) (sx.frames.set (((sx.frames.length : Int) - 1)).toNat ({ x3 with at_ := (min (x3.at_ + 1) ((aY.code.length : Int) - 1)) })) jU sx.cells jG)) (C' := (cT sb vk vo (fP.2.status) (fP.2.aK) fP.2.frames si fP.2.cells sj)) rfl ⟨⟨⟨⟨trivial, trivial⟩, trivial⟩, trivial⟩, trivial⟩ Gq zU Ed
 replace h := h.bG 1 5 (by decide) rfl rfl
 replace h := h.bG 1 4 (by decide) rfl rfl
 replace h := h.bG 1 3 (by decide) rfl rfl
 replace h := h.bG 1 2 (by decide) rfl rfl
 replace wZ := aI.step wZ zU (fun _ hx _ => .inl (hx))
 refine az (aQ wZ (bF 0 (by kernel_rfl) rfl aj (aa (cK (vs := [(.bool (false)), (I6 0), (.bool (false))]) h 7 rfl gq rfl rfl rfl) (az (aQ wZ (bF 5 (by kernel_rfl) rfl aj (qY (vs := [(.bool (false)), (I6 0), (.bool (false))]) h 7 [(.bool (false)), (I6 0), (.bool (false))] rfl gq rfl rfl rfl rfl rfl (ai rfl (ai rfl (ai rfl aR))) fun w h Gr => ?_)))))))
 replace wZ := aI.step wZ Gr (fun _ hx _ => .inr (hx))
 refine az (aQ wZ (cO 6 wZ rfl (by kernel_rfl) (fun w hk => ae (v := (.bool (fP.1))) rfl) (fB (by kernel_rfl) (ak (tK (aD (ay (ko (vs := [(.bool (false)), (I6 0), (.bool (false))]) (v2 := (.bool (fP.1))) Tryz.results65 rfl rfl h 7 rfl gq rfl ?_))))))))
 replace h := h.pair 1 2 (by decide)
 replace h := h.pair 1 3 (by decide)
 replace h := h.pair 1 4 (by decide)
 replace h := h.pair 1 5 (by decide)
 obtain rfl := fJ hs
 subst Bo
 obtain ⟨o1, o2, o3⟩ := h.q8 1 (C := (cT sb vk vo (fP.2.status) (fP.2.aK) fP.2.frames si fP.2.cells sj)) rfl ⟨⟨⟨⟨trivial, trivial⟩, trivial⟩, trivial⟩, trivial⟩
 exact ⟨o2, vk, vo, si, sj, rfl, o1, o3⟩
 refine nG (aa (bz rfl rfl) (aa (ae (v := (.bool (decide ((aL.op : Int) = 8)))) rfl) (nN (aG hs rfl (fun c116 hs => ?_) (fun c116 hs => ?_)))))
 refine rP 10 mixed (by kernel_rfl) h fun w h => aM (ag (v := (.pointer (some ⟨sb, 0, none⟩))) rfl) (aM (ag (v := u8) rfl) (aM (ah kE rfl) (aM (aB h 177 rfl aW rfl rfl) ?_)))
 obtain ⟨WE, e118, hs⟩ := aJ hs
 obtain ⟨b120, q121, i119⟩ := h.xy 8 rfl bO rfl (aH e118).1 (aH e118).2
 refine aM (i119 _ _ _ _ _ _ _ _ _ rfl rfl) ?_
 obtain ⟨cs122, m123, r124⟩ := h.Af 8 rfl q121 (aH e118).2
 obtain rfl := r124
 refine aM (pI (k := 0) (vs := [(I6 WE.kind), (I6 WE.n)]) m123 bT rfl rfl rfl (bD rfl)) (aM (ag (v := (.pointer (some ⟨b6, (((sx.frames.length : Int) - 1)).toNat * 4, none⟩))) rfl) (aM (bL rfl) (aM (ah CG rfl) ?_)))
 obtain ⟨cs125, m126, r127⟩ := h.Af 2 rfl q7 (fE (kr (aH e4).2) e9)
 obtain ⟨rfl, -⟩ := r127
 refine aM (pY (k := 3) m126 aW rfl rfl) (Be ?_)
 replace h := h.iY 3 8 rfl rfl (by decide) (kr (aH e4).2) e9 rfl
 replace h := h.pair 1 2 (by decide)
 replace h := h.pair 1 3 (by decide)
 replace h := h.pair 1 4 (by decide)
 replace h := h.pair 1 5 (by decide)
 obtain ⟨l128a, l128b, l128c⟩ := h.xH 1 (C := (cT sb jq vs1 (sx.status) (sx.aK) (sx.frames.set (((sx.frames.length : Int) - 1)).toNat ({ x3 with at_ := (min (x3.at_ + 1) ((aY.code.length : Int) - 1)) })) jU sx.cells jG)) rfl ⟨⟨⟨⟨trivial, trivial⟩, trivial⟩, trivial⟩, trivial⟩
 obtain ⟨wM, e130, hs⟩ := aJ hs
 refine aS aax rfl rfl (Ty _ _ l128c sb (⟨(sx.frames.set (((sx.frames.length : Int) - 1)).toNat ({ x3 with at_ := (min (x3.at_ + 1) ((aY.code.length : Int) - 1)) })), sx.cells, sx.status, sx.aK⟩ : LX.State) jq vs1 jU jG l128a l128b WE x3.mH _ e130) ?_
 rintro _ w ⟨k135, u131, u133, ZB, ZC, rfl, h136, h137⟩
 refine ⟨_, rfl, ?_⟩
 replace h := h.back 1 (C := (cT sb jq vs1 (sx.status) (sx.aK) (sx.frames.set (((sx.frames.length : Int) - 1)).toNat ({ x3 with at_ := (min (x3.at_ + 1) ((aY.code.length : Int) - 1)) })) jU sx.cells jG)) (C' := (cT sb u131 u133 (wM.status) (wM.aK) wM.frames ZB wM.cells ZC)) rfl ⟨⟨⟨⟨trivial, trivial⟩, trivial⟩, trivial⟩, trivial⟩ h136 k135 h137
 replace h := h.bG 1 5 (by decide) rfl rfl
 replace h := h.bG 1 4 (by decide) rfl rfl
 replace h := h.bG 1 3 (by decide) rfl rfl
 replace h := h.bG 1 2 (by decide) rfl rfl
 refine az (ax (au ?_))
 exact bP (false, u131, ZB, wM.frames, u133, ZC, wM.cells, wM.status, wM.aK) ⟨h.cn _, hs⟩
 refine nG (aa (bz rfl rfl) (aa (ae (v := (.bool (decide ((aL.op : Int) = 9)))) rfl) (nN (aG hs rfl (fun c138 hs => ?_) (fun c138 hs => ?_)))))
 refine aP (ky (L := (fun x => x = b1)) mixed h fun w h => bB 0 (aI.refl _ _) rfl aj (by kernel_rfl) (by kernel_rfl) (by kernel_rfl) (fun w hk => ag (v := u8) rfl) (bB 1 (aI.refl _ _) rfl aj (by kernel_rfl) (by kernel_rfl) (by kernel_rfl) (fun w hk => ah kE rfl) (bB 2 (aI.refl _ _) rfl aj (by kernel_rfl) (by kernel_rfl) (by kernel_rfl) (fun w hk => have h := h.rD 7 rfl hk; aB h 177 rfl aW rfl rfl) ?_)))
 obtain ⟨nQ, xB, hs⟩ := aJ hs
 obtain ⟨bq142x3_4, Lb, TM⟩ := h.xy 8 rfl bO rfl (aH xB).1 (aH xB).2
 refine bB 3 (aI.refl _ _) rfl aj (by kernel_rfl) (by kernel_rfl) (by kernel_rfl) (fun w hk => TM _ _ _ _ _ _ _ _ _ rfl rfl) (bB 4 (aI.refl _ _) rfl aj (by kernel_rfl) (by kernel_rfl) (by kernel_rfl) (fun w hk => ah iG rfl) ?_)
 obtain ⟨csq142x5_1, TN, TP⟩ := h.Af 8 rfl Lb (aH xB).2
 obtain rfl := TP
 have TQ : ¬ (_ = b1) := (h.apart 8 7 (by decide) _ Lb)
 refine bB 5 (aI.refl _ _) rfl aj (by kernel_rfl) (by kernel_rfl) (by kernel_rfl) (fun w hk => have h := h.rD 7 rfl hk; pY (k := 1) (TN.hold hk TQ) aW rfl rfl) (bB 6 (aI.refl _ _) rfl aj (by kernel_rfl) (by kernel_rfl) (by kernel_rfl) (fun w hk => dQ (pv := [(0, (.bool (true))), (1, (I6 nQ.n))]) (out := [(.bool (true)), (I6 nQ.n), (.bool (false))]) SB rfl ⟨0, 1, [(.bool (true))], rfl, rfl, rfl, bD rfl, ⟨1, 1, [(I6 nQ.n)], rfl, rfl, rfl, bD rfl, rfl⟩⟩) (bB 7 (aI.refl _ _) rfl aj (by kernel_rfl) (by kernel_rfl) (by kernel_rfl) (fun w hk => ag (v := u8) rfl) (bB 8 (aI.refl _ _) rfl aj (by kernel_rfl) (by kernel_rfl) (by kernel_rfl) (fun w hk => ah kE rfl) (bB 9 (aI.refl _ _) rfl aj (by kernel_rfl) (by kernel_rfl) (by kernel_rfl) (fun w hk => have h := h.rD 7 rfl hk; aB h 177 rfl aW rfl rfl) ?_))))
 obtain ⟨bq142x10_2, Jk, Qw⟩ := h.xy 8 rfl bO rfl (aH xB).1 (aH xB).2
 refine bB 10 (aI.refl _ _) rfl aj (by kernel_rfl) (by kernel_rfl) (by kernel_rfl) (fun w hk => Qw _ _ _ _ _ _ _ _ _ rfl rfl) (bB 11 (aI.refl _ _) rfl aj (by kernel_rfl) (by kernel_rfl) (by kernel_rfl) (fun w hk => ah tQ rfl) ?_)
 obtain ⟨ZE, Qx, Qy⟩ := h.Af 8 rfl Jk (aH xB).2
 obtain rfl := Qy
 have Qz : ¬ (_ = b1) := (h.apart 8 7 (by decide) _ Jk)
 refine bB 12 (aI.refl _ _) rfl aj (by kernel_rfl) (by kernel_rfl) (by kernel_rfl) (fun w hk => have h := h.rD 7 rfl hk; pY (k := 0) (Qx.hold hk Qz) aW rfl rfl) (bB 13 (aI.refl _ _) rfl aj (by kernel_rfl) (by kernel_rfl) (by kernel_rfl) (fun w hk => bz rfl rfl) ?_)
 obtain ⟨ws143, WU⟩ : ∃ x, x = w := ⟨_, rfl⟩
 have RN : aI (fun x => x = b1) ws143 w := WU ▸ aI.refl (fun x => x = b1) w
 refine qX WU.symm (bF 14 (by kernel_rfl) rfl aj (qY (vs := [(.bool (true)), (I6 nQ.n), (.bool (false))]) h 7 [(.bool (true)), (I6 nQ.n), (.bool (false))] rfl gq rfl rfl rfl rfl rfl (ai rfl (ai rfl (ai rfl aR))) fun w h QA => ?_))
 replace RN := RN.same QA
 refine az (aQ RN (cO 15 RN rfl (by kernel_rfl) (fun w hk => ae (v := (.bool (decide ((nQ.kind : Int) = 1)))) rfl) (fB (by kernel_rfl) (ak (tK (aD (ay (ko (vs := [(.bool (true)), (I6 nQ.n), (.bool (false))]) (v2 := (.bool (decide ((nQ.kind : Int) = 1)))) Tryz.results65 rfl rfl h 7 rfl gq rfl ?_))))))))
 replace h := h.iY 3 8 rfl rfl (by decide) (kr (aH e4).2) e9 rfl
 replace h := h.pair 1 2 (by decide)
 replace h := h.pair 1 3 (by decide)
 replace h := h.pair 1 4 (by decide)
 replace h := h.pair 1 5 (by decide)
 obtain rfl := fJ hs
 subst Bo
 obtain ⟨o1, o2, o3⟩ := h.q8 1 (C := (cT sb jq vs1 (sx.status) (sx.aK) (sx.frames.set (((sx.frames.length : Int) - 1)).toNat ({ x3 with at_ := (min (x3.at_ + 1) ((aY.code.length : Int) - 1)) })) jU sx.cells jG)) rfl ⟨⟨⟨⟨trivial, trivial⟩, trivial⟩, trivial⟩, trivial⟩
 exact ⟨o2, jq, vs1, jU, jG, rfl, o1, o3⟩
 refine nG (aa (bz rfl rfl) (aa (ae (v := (.bool (decide ((aL.op : Int) = 10)))) rfl) (nN (aG hs rfl (fun c145 hs => ?_) (fun c145 hs => ?_)))))
 refine aC (aa (ah Iz rfl) (fA h 7 [(.bool (false)), (I6 0), (.bool (true))] rfl yn rfl rfl rfl rfl rfl fun w h => az (ax ?_)))
 replace h := h.iY 3 8 rfl rfl (by decide) (kr (aH e4).2) e9 rfl
 refine au ?_
 exact bP (true, jq, jU, (sx.frames.set (((sx.frames.length : Int) - 1)).toNat ({ x3 with at_ := (min (x3.at_ + 1) ((aY.code.length : Int) - 1)) })), vs1, jG, sx.cells, sx.status, sx.aK) ⟨h.cn _, hs⟩
 refine nG (aa (bz rfl rfl) (aa (ae (v := (.bool (decide ((aL.op : Int) = 11)))) rfl) (nN (aG hs rfl (fun c146 hs => ?_) (fun c146 hs => ?_)))))
 refine aP (nG (aa (ag (v := u8) rfl) (aa (ah kE rfl) (aa (aB h 177 rfl aW rfl rfl) ?_))))
 obtain ⟨WG, Oq, hs⟩ := aJ hs
 obtain ⟨b150, q151, i149⟩ := h.xy 8 rfl bO rfl (aH Oq).1 (aH Oq).2
 refine aa (i149 _ _ _ _ _ _ _ _ _ rfl rfl) (aa (ah tQ rfl) ?_)
 obtain ⟨cs152, m153, r154⟩ := h.Af 8 rfl q151 (aH Oq).2
 obtain rfl := r154
 refine aa (pY (k := 0) m153 aW rfl rfl) (aa (gN rfl rfl) (nN (aG hs rfl (fun c155 hs => ?_) (fun c155 hs => ?_))))
 refine nG (aa (cK (vs := [(.bool (false)), (I6 0), (.bool (false))]) h 7 rfl gq rfl rfl rfl) (dm (vs := [(.bool (false)), (I6 0), (.bool (false))]) h 7 [(.bool (false)), (I6 0), (.bool (false))] rfl gq rfl rfl rfl rfl rfl (ai rfl (ai rfl (ai rfl aR))) fun w h => aa (ae (v := (.bool (false))) rfl) (nR (ay (aD (ay (ko (vs := [(.bool (false)), (I6 0), (.bool (false))]) (v2 := (.bool (false))) Tryz.results65 rfl rfl h 7 rfl gq rfl ?_)))))))
 replace h := h.iY 3 8 rfl rfl (by decide) (kr (aH e4).2) e9 rfl
 replace h := h.pair 1 2 (by decide)
 replace h := h.pair 1 3 (by decide)
 replace h := h.pair 1 4 (by decide)
 replace h := h.pair 1 5 (by decide)
 obtain rfl := fJ hs
 subst Bo
 obtain ⟨o1, o2, o3⟩ := h.q8 1 (C := (cT sb jq vs1 (sx.status) (sx.aK) (sx.frames.set (((sx.frames.length : Int) - 1)).toNat ({ x3 with at_ := (min (x3.at_ + 1) ((aY.code.length : Int) - 1)) })) jU sx.cells jG)) rfl ⟨⟨⟨⟨trivial, trivial⟩, trivial⟩, trivial⟩, trivial⟩
 exact ⟨o2, jq, vs1, jU, jG, rfl, o1, o3⟩
 refine aF (ak (aC (aa (ag (v := (.pointer (some ⟨sb, 0, none⟩))) rfl) (aa (ag (v := (.pointer (some ⟨sb, 0, none⟩))) rfl) (aa (ag (v := u8) rfl) (aa (ah kE rfl) (aa (aB h 177 rfl aW rfl rfl) ?_)))))))
 obtain ⟨b157, q158, i156⟩ := h.xy 8 rfl bO rfl (aH Oq).1 (aH Oq).2
 refine aa (i156 _ _ _ _ _ _ _ _ _ rfl rfl) (aa (ah iG rfl) ?_)
 obtain ⟨cs159, m160, r161⟩ := h.Af 8 rfl q158 (aH Oq).2
 obtain rfl := r161
 refine aa (pY (k := 1) m160 aW rfl rfl) (aa (bL rfl) (aa (ah lQ rfl) (fA h 1 [jq, vs1, (I6 3), (I6 sx.aK)] rfl aW rfl rfl rfl rfl rfl fun w h => aa (bL rfl) (aa (ah Aw rfl) (fA h 1 [jq, vs1, (I6 3), (I6 WG.n)] rfl aW rfl rfl rfl rfl rfl fun w h => aa (ah Iz rfl) (fA h 7 [(.bool (false)), (I6 0), (.bool (true))] rfl yn rfl rfl rfl rfl rfl fun w h => az (ax ?_)))))))
 replace h := h.iY 3 8 rfl rfl (by decide) (kr (aH e4).2) e9 rfl
 refine au ?_
 exact bP (true, jq, jU, (sx.frames.set (((sx.frames.length : Int) - 1)).toNat ({ x3 with at_ := (min (x3.at_ + 1) ((aY.code.length : Int) - 1)) })), vs1, jG, sx.cells, 3, WG.n) ⟨h.cn _, hs⟩
 refine nG (aa (bz rfl rfl) (aa (ae (v := (.bool (decide ((aL.op : Int) = 12)))) rfl) (nN (aG hs rfl (fun c162 hs => ?_) (fun c162 hs => ?_)))))
 refine aC (aa (ag (v := (.pointer (some ⟨b6, (((sx.frames.length : Int) - 1)).toNat * 4, none⟩))) rfl) (aa (ah iR rfl) (aa (aB h 177 rfl aW rfl rfl) (aa (bL rfl) (aa (ah vC rfl) (KD (a' := (({ x3 with at_ := aL.b }), u8)) h 2 rfl q7 rfl (fE (kr (aH e4).2) e9) aW rfl rfl rfl rfl (by rintro _ ⟨rfl, hq⟩; exact ⟨rfl, hq⟩) fun w h => ?_))))))
 rw [Iq e9] at h
 replace h := h.Z6 3 ({ x3 with at_ := aL.b }) rfl
 refine az (ax ?_)
 replace h := h.iY 3 8 rfl rfl (by decide) (kr (kr (aH e4).2)) e9 rfl
 refine au ?_
 exact bP (false, jq, jU, ((sx.frames.set (((sx.frames.length : Int) - 1)).toNat ({ x3 with at_ := (min (x3.at_ + 1) ((aY.code.length : Int) - 1)) })).set (((sx.frames.length : Int) - 1)).toNat ({ x3 with at_ := aL.b })), vs1, jG, sx.cells, sx.status, sx.aK) ⟨h.cn _, hs⟩
 refine nG (aa (bz rfl rfl) (aa (ae (v := (.bool (decide ((aL.op : Int) = 13)))) rfl) (nN (aG hs rfl (fun c163 hs => ?_) (fun c163 hs => ?_)))))
 refine nG (aa (ag (v := u8) rfl) (aa (ah kE rfl) (aa (aB h 177 rfl aW rfl rfl) ?_)))
 obtain ⟨D9, e165, hs⟩ := aJ hs
 obtain ⟨b167, q168, i166⟩ := h.xy 8 rfl bO rfl (aH e165).1 (aH e165).2
 refine aa (i166 _ _ _ _ _ _ _ _ _ rfl rfl) ?_
 obtain ⟨cs169, m170, r171⟩ := h.Af 8 rfl q168 (aH e165).2
 obtain rfl := r171
 refine aa (pI (k := 0) (vs := [(I6 D9.kind), (I6 D9.n)]) m170 bT rfl rfl rfl (bD rfl)) (bU h 995 bT fun w b172 h => dm (vs := [(I6 D9.kind), (I6 D9.n)]) h 995 [(I6 D9.kind), (I6 D9.n)] rfl bT rfl rfl rfl rfl rfl (ai rfl (ai rfl aR)) fun w h => nJ (aa (ah tQ rfl) (aa (aB h 995 rfl aW rfl rfl) (aa (bz rfl rfl) (aa (ag (v := (.bool (decide ((D9.kind : Int) = 0)))) rfl) (aA rfl rfl (fun q => ah tQ rfl) (aA rfl rfl (fun q => aB h 995 rfl aW (dz q) rfl) (aA rfl rfl (fun q => bz (dz q) rfl) (aA rfl rfl (fun q => ag (v := (.bool (decide ((D9.kind : Int) = 1)))) (dz q)) (mi (decide ((D9.kind : Int) = 0) == false) rfl rfl (fun q => ah iG rfl) (mi (decide ((D9.kind : Int) = 0) == false) rfl rfl (fun q => aB h 995 rfl aW (dz q) rfl) (mi (decide ((D9.kind : Int) = 0) == false) rfl rfl (fun q => bz (dz q) rfl) (aA rfl rfl (fun q => fD (dz q) (Uy q) lX) (aa (gW rfl rfl lX) (nN (aG hs rfl (fun c173 hs => ?_) (fun c173 hs => ?_)))))))))))))))))
 refine aC (aa (ag (v := (.pointer (some ⟨b6, (((sx.frames.length : Int) - 1)).toNat * 4, none⟩))) rfl) (aa (ah iR rfl) (aa (aB h 177 rfl aW rfl rfl) (aa (bL rfl) (aa (ah vC rfl) (KD (a' := (({ x3 with at_ := aL.b }), u8)) h 2 rfl q7 rfl (fE (kr (aH e4).2) e9) aW rfl rfl rfl rfl (by rintro _ ⟨rfl, hq⟩; exact ⟨rfl, hq⟩) fun w h => ?_))))))
 rw [Iq e9] at h
 replace h := h.Z6 3 ({ x3 with at_ := aL.b }) rfl
 refine az (ax ?_)
 replace h := h.iY 3 8 rfl rfl (by decide) (kr (kr (aH e4).2)) e9 rfl
 refine au ?_
 exact bP (false, jq, jU, ((sx.frames.set (((sx.frames.length : Int) - 1)).toNat ({ x3 with at_ := (min (x3.at_ + 1) ((aY.code.length : Int) - 1)) })).set (((sx.frames.length : Int) - 1)).toNat ({ x3 with at_ := aL.b })), vs1, jG, sx.cells, sx.status, sx.aK) ⟨h.cn _, hs⟩
 refine aF (ax ?_)
 replace h := h.iY 3 8 rfl rfl (by decide) (kr (aH e4).2) e9 rfl
 refine au ?_
 exact bP (false, jq, jU, (sx.frames.set (((sx.frames.length : Int) - 1)).toNat ({ x3 with at_ := (min (x3.at_ + 1) ((aY.code.length : Int) - 1)) })), vs1, jG, sx.cells, sx.status, sx.aK) ⟨h.cn _, hs⟩
 refine aF (ax ?_)
 replace h := h.iY 3 8 rfl rfl (by decide) (kr (aH e4).2) e9 rfl
 refine au ?_
 exact bP (false, jq, jU, (sx.frames.set (((sx.frames.length : Int) - 1)).toNat ({ x3 with at_ := (min (x3.at_ + 1) ((aY.code.length : Int) - 1)) })), vs1, jG, sx.cells, sx.status, sx.aK) ⟨h.cn _, hs⟩
 refine nG (aa (bz rfl rfl) (aa (ae (v := (.bool (decide ((aL.op : Int) = 4)))) rfl) (nN (aG hs rfl (fun c174 hs => ?_) (fun c174 hs => ?_)))))
 refine aF (au ?_)
 exact bP (decide ((aL.op : Int) = 4)) ⟨h.cn _, hs⟩
 refine aC (aa (bz rfl rfl) (aa (ae (v := (.bool (decide ((aL.op : Int) = 6)))) rfl) (az (au ?_))))
 exact bP (decide ((aL.op : Int) = 6)) ⟨h.cn _, hs⟩
def sS (AV : List Int) (x20 : Int) (y23 : List LX.Frame) (Na : List (List Val)) (y27 : Int) (y28 : Int) : Option (LX.State × List Int × Int × Int) :=
  some ((⟨y23, Na, y27, y28⟩ : LX.State), AV, x20, 0)
def xX (gT : Dv × Bool × LX.State) (Eg : Int) (Kk : (List Int × Int × List LX.Frame × List (List Val) × Int × Int) → Option (LX.State × List Int × Int × Int)) (MU : List Int) : Option (LX.State × List Int × Int × Int) :=
  bif gT.1.Fz then sS MU (Eg + 1) gT.2.2.frames gT.2.2.cells gT.2.2.status gT.2.2.aK else Kk (MU, (Eg + 1), gT.2.2.frames, gT.2.2.cells, gT.2.2.status, gT.2.2.aK)
def xY (N : Nat) (qp : List Int) (Eg : Int) (vD : List LX.Frame) (ym : List (List Val)) (MV : Int) (Ia : Int) (a : List bN) (Kk : (List Int × Int × List LX.Frame × List (List Val) × Int × Int) → Option (LX.State × List Int × Int × Int)) (x93 : Bool) : Option (LX.State × List Int × Int × Int) :=
  bif x93 then sS qp Eg vD ym MV Ia else (AZ (⟨vD, ym, MV, Ia⟩ : LX.State)).bind fun y95 => (oN N y95 a).bind fun gT => gL (jN (Eg + 1)) (bif (!gT.2.1) then sS qp (Eg + 1) vD ym 2 Ia else bif gT.1.said then gL (Room 8 qp [gT.1.n]) (xX gT Eg Kk (qp ++ [gT.1.n])) else xX gT Eg Kk qp)
def su (N : Nat) (c : Int) (a : List bN) (s : List Int × Int × List LX.Frame × List (List Val) × Int × Int) (Kk : List Int × Int × List LX.Frame × List (List Val) × Int × Int → Option (LX.State × List Int × Int × Int)) : Option (LX.State × List Int × Int × Int) :=
  match s with | (qp, Eg, vD, ym, MV, Ia) => bif (decide ((Eg : Int) < c) && decide ((MV : Int) = 0)) then gL (jN ((vD.length : Int) - 1)) ((idx vD ((vD.length : Int) - 1)).bind fun x82 => bif decide (((qp.length : Int) : Int) = 40) then (idx a x82.proc).bind fun IM => (idx IM.code x82.at_).bind fun YF => xY N qp Eg vD ym MV Ia a Kk (decide ((YF.op : Int) = 9)) else xY N qp Eg vD ym MV Ia a Kk false) else sS qp Eg vD ym MV Ia
def yT (N : Nat) (a : List bN) (b : LX.State) (c : Int) : Option (LX.State × List Int × Int × Int) :=
  (uy a b).bind fun y3 => bif decide ((y3 : Int) ≠ 0) then some ((⟨[], [], 0, 0⟩ : LX.State), [], 0, y3) else bif (decide ((c : Int) < 0) || decide ((2000 : Int) < c)) then some ((⟨[], [], 0, 0⟩ : LX.State), [], 0, 3) else bif decide ((b.status : Int) ≠ 0) then some ((⟨[], [], 0, 0⟩ : LX.State), [], 0, 7) else (AZ b).bind fun y9 => again (su N c a) N ([], 0, y9.frames, y9.cells, y9.status, y9.aK)
theorem xZ (N : Nat) (w0 : World) (M : BS) (hM : ∀ b, M b → b < w0.heap.size) (va : Value) (a : List bN) (ha : fu jF w0 M va a) (b : LX.State) (vb0 vb1 : Value) (hb0 : gB dB w0 BE M vb0 b.frames) (hb1 : gB (mP bM) w0 BE M vb1 b.cells) (c : Int) (r : LX.State × List Int × Int × Int) (hs : yT N a b c = some r) :
    Calls Tryz.prog 28 #[va, (.agg #[vb0, vb1, (I6 b.status), (I6 b.aK)]), (I6 c)] w0 (fun e w' => Grow w0 w' ∧ ∃ xM, ∃ Bq, ∃ u1, e = .returned (.tuple #[.agg #[xM, Bq, .int .i64 r.1.status, .int .i64 r.1.aK], u1, .int .i64 r.2.2.1, .int .i64 r.2.2.2]) ∧ fu dB w' (fun b => M b ∨ ob u1 b) xM r.1.frames ∧ fu (mP bM) w' (fun b => M b ∨ ob u1 b) Bq r.1.cells ∧ dW dU 3 w' M u1 r.2.1 ∧ (∀ b, ob u1 b → w0.heap.size ≤ b)) := by
 refine aN (args := [va, (.agg #[vb0, vb1, (I6 b.status), (I6 b.aK)]), (I6 c)]) Tryz.func28 rfl Tryz.ntmps28 (bD rfl) ?_
 have h := SH.init hM
 replace h := h.Y9 1 ha bC
 replace h := h.fw 2 hb0 (vJ bC)
 replace h := h.fw 3 hb1 (cZ (vJ bC))
 have vR := ha.bV
 refine nG (oW (cs := [vb0, vb1, (I6 b.status), (I6 b.aK)]) h 4 rfl rfl fun w b1 h => bU h 5 bE fun w b2 h => aa (ae (v := (.slice none 0 0)) rfl) (aa (ae (v := (I6 0)) rfl) (aa (ae (v := (I6 0)) rfl) (nK (aa (ag (v := va) rfl) (aa (cK (vs := [vb0, vb1, (I6 b.status), (I6 b.aK)]) h 4 rfl bE rfl rfl rfl) ?_))))))
 obtain ⟨y3, e4, hs⟩ := aJ hs
 refine aS FB rfl rfl (uU _ _ h.lt va a (h.mM 1 rfl) b vb0 vb1 (h.gM 2 rfl) (h.gM 3 rfl) _ e4) ?_
 rintro _ w ⟨k5, rfl⟩
 refine ⟨_, rfl, ?_⟩
 replace h := h.grow k5
 refine aa (ae (v := (I6 y3)) rfl) (nJ (aa (ag (v := (I6 y3)) rfl) (aa (gN rfl rfl) (nN (aG hs rfl (fun c6 hs => ?_) (fun c6 hs => ?_))))))
 refine nG (aa (dQ (pv := []) (out := [(.slice none 0 0), (.slice none 0 0), (I6 0), (I6 0)]) xJ rfl rfl) (aa (ag (v := (I6 y3)) rfl) (dm (vs := [(.slice none 0 0), (.slice none 0 0), (I6 0), (I6 0)]) h 5 [(.slice none 0 0), (.slice none 0 0), (I6 0), (I6 0)] rfl bE rfl rfl rfl rfl rfl (ai rfl (ai rfl (ai rfl (ai rfl aR)))) fun w h => aa (ae (v := (.slice none 0 0)) rfl) (aa (ae (v := (I6 0)) rfl) (aa (ae (v := (I6 y3)) rfl) (nR (ay (Eu (vs := [(.slice none 0 0), (.slice none 0 0), (I6 0), (I6 0)]) (v2 := (.slice none 0 0)) (v3 := (I6 0)) (v4 := (I6 y3)) Tryz.results28 rfl rfl rfl rfl h 5 rfl bE rfl ?_))))))))
 obtain rfl := fJ hs
 exact ⟨h.grown, _, _, _, rfl, gB.nil, gB.nil, dW.nil, mh⟩
 refine aF (ak (aP (nG (aa (ag (v := (I6 c)) rfl) (aa (dP rfl rfl) (aa (ag (v := (.bool (decide ((c : Int) < 0)))) rfl) (aA rfl rfl (fun q => ag (v := (I6 c)) rfl) (aA rfl rfl (fun q => jT (dz q) rfl) (aa (gW rfl rfl lX) (nN (aG hs rfl (fun c7 hs => ?_) (fun c7 hs => ?_))))))))))))
 refine nG (aa (dQ (pv := []) (out := [(.slice none 0 0), (.slice none 0 0), (I6 0), (I6 0)]) xJ rfl rfl) (dm (vs := [(.slice none 0 0), (.slice none 0 0), (I6 0), (I6 0)]) h 5 [(.slice none 0 0), (.slice none 0 0), (I6 0), (I6 0)] rfl bE rfl rfl rfl rfl rfl (ai rfl (ai rfl (ai rfl (ai rfl aR)))) fun w h => aa (ae (v := (.slice none 0 0)) rfl) (aa (ae (v := (I6 0)) rfl) (aa (ae (v := (I6 3)) rfl) (nR (ay (Eu (vs := [(.slice none 0 0), (.slice none 0 0), (I6 0), (I6 0)]) (v2 := (.slice none 0 0)) (v3 := (I6 0)) (v4 := (I6 3)) Tryz.results28 rfl rfl rfl rfl h 5 rfl bE rfl ?_)))))))
 obtain rfl := fJ hs
 exact ⟨h.grown, _, _, _, rfl, gB.nil, gB.nil, dW.nil, mh⟩
 refine aF (ak (aP (nG (aa (ah lQ rfl) (aa (aB h 4 rfl aW rfl rfl) (aa (gN rfl rfl) (nN (aG hs rfl (fun c8 hs => ?_) (fun c8 hs => ?_)))))))))
 refine nG (aa (dQ (pv := []) (out := [(.slice none 0 0), (.slice none 0 0), (I6 0), (I6 0)]) xJ rfl rfl) (dm (vs := [(.slice none 0 0), (.slice none 0 0), (I6 0), (I6 0)]) h 5 [(.slice none 0 0), (.slice none 0 0), (I6 0), (I6 0)] rfl bE rfl rfl rfl rfl rfl (ai rfl (ai rfl (ai rfl (ai rfl aR)))) fun w h => aa (ae (v := (.slice none 0 0)) rfl) (aa (ae (v := (I6 0)) rfl) (aa (ae (v := (I6 7)) rfl) (nR (ay (Eu (vs := [(.slice none 0 0), (.slice none 0 0), (I6 0), (I6 0)]) (v2 := (.slice none 0 0)) (v3 := (I6 0)) (v4 := (I6 7)) Tryz.results28 rfl rfl rfl rfl h 5 rfl bE rfl ?_)))))))
 obtain rfl := fJ hs
 exact ⟨h.grown, _, _, _, rfl, gB.nil, gB.nil, dW.nil, mh⟩
 refine nS (aa (cK (vs := [vb0, vb1, (I6 b.status), (I6 b.aK)]) h 4 rfl bE rfl rfl rfl) ?_)
 obtain ⟨y9, e10, hs⟩ := aJ hs
 refine aS Mo rfl rfl (CR _ _ h.lt b vb0 vb1 (h.gM 2 rfl) (h.gM 3 rfl) _ e10) ?_
 rintro _ w ⟨k17, u11, Pj, FO, us14, rfl, h15, h16⟩
 refine ⟨_, rfl, ?_⟩
 replace h := h.Fx 6 (C := (cU u11 Pj y9.frames FO y9.cells us14)) k17 ⟨⟨⟨trivial, trivial⟩, trivial⟩, trivial⟩ h15 h16
 replace h := h.bG 6 9 (by decide) rfl rfl
 replace h := h.bG 6 8 (by decide) rfl rfl
 replace h := h.bG 6 7 (by decide) rfl rfl
 refine dm (vs := [u11, Pj, (I6 y9.status), (I6 y9.aK)]) h 4 [u11, Pj, (I6 y9.status), (I6 y9.aK)] rfl bE rfl rfl rfl rfl rfl (ai (h.dD 6 rfl).one (ai (h.dD 8 rfl).one (ai rfl (ai rfl aR)))) fun w h => nJ (aa (ae (v := (.slice none 0 0)) rfl) (nJ (aa (ae (v := (I6 0)) rfl) (nN (bW (σ := Value × List Int × Int × Value × List Value × List LX.Frame × Value × List Value × List (List Val) × Int × Int) (inl (rg 11 6 ++ rg 37 55)) (fun ⟨v18, AV, x20, v21, YG, y23, v24, YH, Na, y27, y28⟩ => [(11, v18), (12, (I6 x20))]) (fun ⟨v18, AV, x20, v21, YG, y23, v24, YH, Na, y27, y28⟩ w => SH w0 M BE w (hset [(4, .blk b1 [v21, v24, (I6 y27), (I6 y28)]), (5, .blk b2 [(.slice none 0 0), (.slice none 0 0), (I6 0), (I6 0)]), (10, .own bR.raw 49 v21 (List.zip y23 YG)), (11, .gZ (dC bM 51 hn YG (List.map bR.sub y23))), (12, .own (ed Val).raw 47 v24 (List.zip Na YH)), (13, .gZ (dC bM 51 hn YH (List.map (ed Val).sub Na))), (25, .own dU 3 v18 AV)]) ∧ sS AV x20 y23 Na y27 y28 = some r) ?_ ?_)))))
 rintro ⟨v18, AV, x20, v21, YG, y23, v24, YH, Na, y27, y28⟩ w dx ⟨h, hs⟩
 refine nG (aa (cK (vs := [v21, v24, (I6 y27), (I6 y28)]) h 4 rfl bE rfl rfl rfl) (aa (ag (v := v18) rfl) (aa (ag (v := (I6 x20)) rfl) (dm (vs := [v21, v24, (I6 y27), (I6 y28)]) h 5 [v21, v24, (I6 y27), (I6 y28)] rfl bE rfl rfl rfl rfl rfl (ai (h.dD 10 rfl).one (ai (h.dD 12 rfl).one (ai rfl (ai rfl aR)))) fun w h => aa (ae (v := v18) rfl) (aa (ae (v := (I6 x20)) rfl) (aa (ae (v := (I6 0)) rfl) (nR (Eu (vs := [v21, v24, (I6 y27), (I6 y28)]) (v2 := v18) (v3 := (I6 x20)) (v4 := (I6 0)) Tryz.results28 rfl rfl rfl rfl h 5 rfl bE rfl ?_))))))))
 replace h := h.ny (N := bR) (R' := dB) 10 11 rfl rfl (by decide) rfl j4
 replace h := h.ny (N := (ed Val)) (R' := (mP bM)) 12 13 rfl rfl (by decide) rfl p9
 obtain rfl := fJ hs
 exact ⟨h.grown, _, _, _, rfl, h.UQ 10 25 rfl rfl, h.UQ 12 25 rfl rfl, (h.ng 25 rfl).1, (h.ng 25 rfl).2⟩
 refine aO ?_
 replace h := h.xC (R := dU) (E := 3) 41
 replace h := (h.fC 42).moveC 6 42 rfl rfl (by decide)
 replace h := (h.fC 43).moveC 7 43 rfl rfl (by decide)
 replace h := (h.fC 44).moveC 8 44 rfl rfl (by decide)
 replace h := (h.fC 45).moveC 9 45 rfl rfl (by decide)
 refine gF (σ := Nat × Value × List Int × Int × Value × List Value × List LX.Frame × Value × List Value × List (List Val) × Int × Int) (inl (rg 11 6 ++ rg 37 55)) (fun ⟨m76, v62, qp, Eg, v65, Kl, vD, v68, Km, ym, MV, Ia⟩ => [(11, v62), (12, (I6 Eg))]) (fun ⟨m76, v62, qp, Eg, v65, Kl, vD, v68, Km, ym, MV, Ia⟩ w => SH w0 M BE w (hset [(1, .rd jF va a), (4, .blk b1 [v65, v68, (I6 MV), (I6 Ia)]), (5, .blk b2 [(.slice none 0 0), (.slice none 0 0), (I6 0), (I6 0)]), (41, .own dU 3 v62 qp), (42, .own bR.raw 49 v65 (List.zip vD Kl)), (43, .gZ (dC bM 51 hn Kl (List.map bR.sub vD))), (44, .own (ed Val).raw 47 v68 (List.zip ym Km)), (45, .gZ (dC bM 51 hn Km (List.map (ed Val).sub ym)))]) ∧ again (su N c a) m76 (qp, Eg, vD, ym, MV, Ia) = some r) (fun ⟨m76, v62, qp, Eg, v65, Kl, vD, v68, Km, ym, MV, Ia⟩ => m76) ⟨N, (.slice none 0 0), [], 0, u11, FO, y9.frames, Pj, us14, y9.cells, y9.status, y9.aK⟩ ⟨rfl, rfl, trivial⟩ ?_ ?_
 exact ⟨h.cn _, hs⟩
 rintro ⟨m76, v62, qp, Eg, v65, Kl, vD, v68, Km, ym, MV, Ia⟩ w dx ⟨h, hs⟩
 obtain ⟨m761, m76e, m76h⟩ := pG hs
 subst m76e
 replace hs := m76h
 generalize hnx77 : again (su N c a) m761 = Kk at hs
 refine aP (nG (aa (ag (v := (I6 Eg)) rfl) (aa (ag (v := (I6 c)) rfl) (aa (dP rfl rfl) (aa (ag (v := (.bool (decide ((Eg : Int) < c)))) rfl) (aA rfl rfl (fun q => ah lQ rfl) (aA rfl rfl (fun q => aB h 4 rfl aW (dz q) rfl) (aA rfl rfl (fun q => bz (dz q) rfl) (aa (fD rfl rfl lX) (nN (aG hs rfl (fun c80 hs => ?_) (fun c80 hs => ?_))))))))))))
 refine aF (ak (aO (nG (aa (ah eH rfl) (aa (aB h 4 rfl jd rfl rfl) (aa (ah eH rfl) (aa (aB h 4 rfl jd rfl rfl) (aa (qZ (N := bR) dA rfl (h.dV 42 rfl) (h.iM 43 rfl)) ?_))))))))
 obtain ⟨a81, hs⟩ := bg hs
 refine aa (mZ rfl rfl a81) ?_
 obtain ⟨x82, e83, hs⟩ := aJ hs
 obtain ⟨u87, e88, h⟩ := h.rT 43 46 x82.regs rfl rfl (by decide) (aH e83).2 rfl
 obtain ⟨J8, q86, i84⟩ := h.xy 42 rfl dA rfl (aH e83).1 (fE (aH e83).2 e88)
 refine aa (i84 _ _ _ _ _ _ _ _ _ rfl rfl) ?_
 obtain ⟨cs89, m90, r91⟩ := h.Af 42 rfl q86 (fE (aH e83).2 e88)
 obtain ⟨rfl, -⟩ := r91
 refine aa (pI (k := 0) (vs := [(I6 x82.proc), (I6 x82.at_), u87, (I6 x82.mH)]) m90 jh rfl rfl rfl (bD rfl)) (bU h 47 jh fun w b92 h => dm (vs := [(I6 x82.proc), (I6 x82.at_), u87, (I6 x82.mH)]) h 47 [(I6 x82.proc), (I6 x82.at_), u87, (I6 x82.mH)] rfl jh rfl rfl rfl rfl rfl (ai rfl (ai rfl (ai (h.dD 46 rfl).one (ai rfl aR)))) fun w h => nN (aP (bW (σ := Bool) (inl (rg 53 17)) (fun x93 => [(69, (.bool (x93)))]) (fun x93 w => SH w0 M BE w (hset [(1, .rd jF va a), (4, .blk b1 [v65, v68, (I6 MV), (I6 Ia)]), (5, .blk b2 [(.slice none 0 0), (.slice none 0 0), (I6 0), (I6 0)]), (41, .own dU 3 v62 qp), (42, .own bR.raw 49 v65 (List.zip vD Kl)), (43, .gZ (dC bM 51 hn Kl (List.map bR.sub vD))), (44, .own (ed Val).raw 47 v68 (List.zip ym Km)), (45, .gZ (dC bM 51 hn Km (List.map (ed Val).sub ym)))]) ∧ xY N qp Eg vD ym MV Ia a Kk x93 = some r) ?_ ?_)))
 rintro x93 w dx ⟨h, hs⟩
 refine aG hs rfl (fun c94 hs => ?_) (fun c94 hs => ?_)
 refine gV (bA (rW (by decide) (bA (dE (au ?_)))))
 replace h := h.zi 41 25 rfl rfl (by decide)
 replace h := (h.fC 10).moveC 42 10 rfl rfl (by decide)
 replace h := (h.fC 11).moveC 43 11 rfl rfl (by decide)
 replace h := (h.fC 12).moveC 44 12 rfl rfl (by decide)
 replace h := (h.fC 13).moveC 45 13 rfl rfl (by decide)
 exact bP (v62, qp, Eg, v65, Kl, vD, v68, Km, ym, MV, Ia) ⟨h.cn _, hs⟩
 refine nS (aa (cK (vs := [v65, v68, (I6 MV), (I6 Ia)]) h 4 rfl bE rfl rfl rfl) ?_)
 obtain ⟨y95, e96, hs⟩ := aJ hs
 refine aS Mo rfl rfl (CR _ BE (fun _ h => h.elim) (⟨vD, ym, MV, Ia⟩ : LX.State) v65 v68 (h.rf (N := bR) (R' := dB) 42 43 rfl rfl (by decide) rfl j4) (h.rf (N := (ed Val)) (R' := (mP bM)) 44 45 rfl rfl (by decide) rfl p9) _ e96) ?_
 rintro _ w ⟨k103, Yp, u99, YI, RO, rfl, h101, h102⟩
 refine ⟨_, rfl, ?_⟩
 replace h := h.Zi 48 (C := (cU Yp u99 y95.frames YI y95.cells RO)) k103 ⟨⟨⟨trivial, trivial⟩, trivial⟩, trivial⟩ ⟨⟨⟨(fun _ _ _ _ _ h => h), (CF (fun _ _ _ _ _ h => h))⟩, (fun _ _ _ _ _ h => h)⟩, (CF (fun _ _ _ _ _ h => h))⟩ h101 h102
 replace h := h.bG 48 51 (by decide) rfl rfl
 replace h := h.bG 48 50 (by decide) rfl rfl
 replace h := h.bG 48 49 (by decide) rfl rfl
 refine bU h 52 bE fun w YJ h => dm (vs := [Yp, u99, (I6 y95.status), (I6 y95.aK)]) h 52 [Yp, u99, (I6 y95.status), (I6 y95.aK)] rfl bE rfl rfl rfl rfl rfl (ai (h.dD 48 rfl).one (ai (h.dD 50 rfl).one (ai rfl (ai rfl aR)))) fun w h => nJ (aa (ag (v := va) rfl) ?_)
 replace h := h.pair 52 48 (by decide)
 replace h := h.pair 52 49 (by decide)
 replace h := h.pair 52 50 (by decide)
 replace h := h.pair 52 51 (by decide)
 obtain ⟨l105a, l105b, l105c⟩ := h.xH 52 (C := (cT YJ Yp u99 (y95.status) (y95.aK) y95.frames YI y95.cells RO)) rfl ⟨⟨⟨⟨trivial, trivial⟩, trivial⟩, trivial⟩, trivial⟩
 obtain ⟨gT, e107, hs⟩ := aJ hs
 refine aS aas rfl rfl (TA N _ _ l105c YJ y95 Yp u99 YI RO l105a l105b va a (h.Rq 52 1 rfl rfl) _ e107) ?_
 rintro _ w ⟨k112, Ot, De, Ou, Ov, rfl, h113, h114⟩
 refine ⟨_, rfl, ?_⟩
 replace h := h.back 52 (C := (cT YJ Yp u99 (y95.status) (y95.aK) y95.frames YI y95.cells RO)) (C' := (cT YJ Ot De (gT.2.2.status) (gT.2.2.aK) gT.2.2.frames Ou gT.2.2.cells Ov)) rfl ⟨⟨⟨⟨trivial, trivial⟩, trivial⟩, trivial⟩, trivial⟩ h113 k112 h114
 replace h := h.bG 52 51 (by decide) rfl rfl
 replace h := h.bG 52 50 (by decide) rfl rfl
 replace h := h.bG 52 49 (by decide) rfl rfl
 replace h := h.bG 52 48 (by decide) rfl rfl
 refine aa (ag (v := (.tuple #[(.agg #[(.bool (gT.1.said)), (I6 gT.1.n), (.bool (gT.1.Fz))]), (.bool (gT.2.1))])) rfl) (aa (aU rfl rfl) (aa (aU rfl rfl) (bU h 53 gq fun w b115 h => dm (vs := [(.bool (gT.1.said)), (I6 gT.1.n), (.bool (gT.1.Fz))]) h 53 [(.bool (gT.1.said)), (I6 gT.1.n), (.bool (gT.1.Fz))] rfl gq rfl rfl rfl rfl rfl (ai rfl (ai rfl (ai rfl aR))) fun w h => aa (ae (v := (.bool (gT.2.1))) rfl) (nJ (aa (ag (v := (I6 Eg)) rfl) ?_)))))
 obtain ⟨a116, hs⟩ := bg hs
 refine aa (dw rfl rfl a116) (aa (ae (v := (I6 ((Eg + 1)))) rfl) (nK (aa (ag (v := (.bool (gT.2.1))) rfl) (aa (ic rfl) (nN (aG hs rfl (fun c117 hs => ?_) (fun c117 hs => ?_)))))))
 refine nG (aa (ah lQ rfl) (fA h 4 [v65, v68, (I6 2), (I6 Ia)] rfl aW rfl rfl rfl rfl rfl fun w h => nN (gV (bA (rW (by decide) (bA (dE (au ?_))))))))
 replace h := h.zi 41 25 rfl rfl (by decide)
 replace h := (h.fC 10).moveC 42 10 rfl rfl (by decide)
 replace h := (h.fC 11).moveC 43 11 rfl rfl (by decide)
 replace h := (h.fC 12).moveC 44 12 rfl rfl (by decide)
 replace h := (h.fC 13).moveC 45 13 rfl rfl (by decide)
 exact bP (v62, qp, (Eg + 1), v65, Kl, vD, v68, Km, ym, 2, Ia) ⟨h.cn _, hs⟩
 refine aF (ak (bW (σ := Value × List Int) (inl ([11] ++ rg 82 8)) (fun ⟨TR, MU⟩ => [(11, TR)]) (fun ⟨TR, MU⟩ w => SH w0 M BE w (hset [(1, .rd jF va a), (4, .blk b1 [Ot, De, (I6 gT.2.2.status), (I6 gT.2.2.aK)]), (5, .blk b2 [(.slice none 0 0), (.slice none 0 0), (I6 0), (I6 0)]), (41, .own dU 3 TR MU), (48, .own bR.raw 49 Ot (List.zip gT.2.2.frames Ou)), (49, .gZ (dC bM 51 hn Ou (List.map bR.sub gT.2.2.frames))), (50, .own (ed Val).raw 47 De (List.zip gT.2.2.cells Ov)), (51, .gZ (dC bM 51 hn Ov (List.map (ed Val).sub gT.2.2.cells))), (53, .blk b115 [(.bool (gT.1.said)), (I6 gT.1.n), (.bool (gT.1.Fz))])]) ∧ xX gT Eg Kk MU = some r) ?_ ?_))
 rintro ⟨TR, MU⟩ w dx ⟨h, hs⟩
 refine nG (aa (ah Iz rfl) (aa (aB h 53 rfl yn rfl rfl) (nN (aG hs rfl (fun c120 hs => ?_) (fun c120 hs => ?_)))))
 refine gV (rW (by decide) (bA (dE (au ?_))))
 replace h := h.zi 41 25 rfl rfl (by decide)
 replace h := (h.fC 10).moveC 48 10 rfl rfl (by decide)
 replace h := (h.fC 11).moveC 49 11 rfl rfl (by decide)
 replace h := (h.fC 12).moveC 50 12 rfl rfl (by decide)
 replace h := (h.fC 13).moveC 51 13 rfl rfl (by decide)
 exact bP (TR, MU, (Eg + 1), Ot, Ou, gT.2.2.frames, De, Ov, gT.2.2.cells, gT.2.2.status, gT.2.2.aK) ⟨h.cn _, hs⟩
 refine aF (ax (au ?_))
 replace h := (h.fC 42).moveC 48 42 rfl rfl (by decide)
 replace h := (h.fC 43).moveC 49 43 rfl rfl (by decide)
 replace h := (h.fC 44).moveC 50 44 rfl rfl (by decide)
 replace h := (h.fC 45).moveC 51 45 rfl rfl (by decide)
 subst hnx77
 exact jV ⟨m761, TR, MU, (Eg + 1), Ot, Ou, gT.2.2.frames, De, Ov, gT.2.2.cells, gT.2.2.status, gT.2.2.aK⟩ ⟨h.cn _, hs⟩
 refine nG (aa (cK (vs := [Ot, De, (I6 gT.2.2.status), (I6 gT.2.2.aK)]) h 52 rfl bE rfl rfl rfl) (dm (vs := [Ot, De, (I6 gT.2.2.status), (I6 gT.2.2.aK)]) h 4 [Ot, De, (I6 gT.2.2.status), (I6 gT.2.2.aK)] rfl bE rfl rfl rfl rfl rfl (ai (h.dD 48 rfl).one (ai (h.dD 50 rfl).one (ai rfl (ai rfl aR)))) fun w h => nJ (aa (ah Vh rfl) (aa (aB h 53 rfl yn rfl rfl) (nN (aG hs rfl (fun c121 hs => ?_) (fun c121 hs => ?_)))))))
 refine aC (aa (ag (v := v62) rfl) (aa (ah Vi rfl) (aa (aB h 53 rfl aW rfl rfl) (uQ (R := dU) (vs := [(I6 gT.1.n)]) (xs := [gT.1.n]) h 54 jg rfl rfl rfl ⟨rfl, trivial⟩ rfl fun w u122 h => ?_))))
 obtain ⟨a123, hs⟩ := bg hs
 refine mo (R := dU) (m := [gT.1.n]) h 41 rfl (h.dV 54 rfl) jg rfl rfl rfl a123.1 a123.2 fun w u124 h => aa (ae (v := u124) rfl) (az (au ?_))
 exact bP (u124, (qp ++ [gT.1.n])) ⟨h.cn _, hs⟩
 refine aF (au ?_)
 exact bP (v62, qp) ⟨h.cn _, hs⟩
 refine BC mixed (by kernel_rfl) h fun w h => aM (ag (v := v62) rfl) (aM (bS bY rfl (h.dV 41 rfl)) (aM (bz rfl rfl) (aM (ag (v := (.bool (decide (((qp.length : Int) : Int) = 40)))) rfl) (jf (b := decide (((qp.length : Int) : Int) = 40)) hs (fun rZ hs => ?_) (fun rZ hs => ?_)))))
 refine iX rfl (cB rZ) (aM (ag (v := va) rfl) (iX rfl (cB rZ) (aM (ah yE rfl) (iX rfl (cB rZ) (aM (aB h 47 rfl aW rfl rfl) (iX rfl (cB rZ) ?_))))))
 obtain ⟨IM, e127, hs⟩ := aJ hs
 obtain ⟨b129, o130, cs131, h, r132, i128⟩ := h.Fj 1 55 rfl jP rfl (aH e127).1 (aH e127).2
 obtain ⟨u133, rfl, g134⟩ := om r132
 replace h := h.bX 56 g134.up
 refine aM (i128 _ _ _ _ _ _ _ _ _ rfl rfl) (iX rfl (cB rZ) (aM (ah rU rfl) (iX rfl (cB rZ) (aM (dZ (k := 2) h 55 rfl Bh rfl rfl) (iX rfl (cB rZ) (aM (ah vC rfl) (iX rfl (cB rZ) (aM (aB h 47 rfl aW rfl rfl) (iX rfl (cB rZ) ?_)))))))))
 obtain ⟨YF, e136, hs⟩ := aJ hs
 obtain ⟨b138, o139, cs140, h, r141, i137⟩ := h.Fj 56 57 rfl jC rfl (aH e136).1 (aH e136).2
 obtain ⟨u142, rfl, g143⟩ := CB r141
 replace h := h.bX 58 g143.up
 refine aM (i137 _ _ _ _ _ _ _ _ _ rfl rfl) (iX rfl (cB rZ) (aM (ah qa rfl) (iX rfl (cB rZ) (aM (dZ (k := 0) h 57 rfl aW rfl rfl) (iX rfl (cB rZ) (aM (bz rfl rfl) (aM (dn (b := true) (v := (.bool (decide ((YF.op : Int) = 9)))) (cB rZ) rfl) (Am ?_))))))))
 replace h := h.iY 43 46 rfl rfl (by decide) (aH e83).2 e88 rfl
 refine au ?_
 exact bP (decide ((YF.op : Int) = 9)) ⟨h.cn _, hs⟩
 refine gz (b' := false) rfl (cB rZ) rfl (gz (b' := false) rfl (cB rZ) rfl (gz (b' := false) rfl (cB rZ) rfl (gz (b' := false) rfl (cB rZ) rfl (gz (b' := false) rfl (cB rZ) rfl (gz (b' := false) rfl (cB rZ) rfl (gz (b' := false) rfl (cB rZ) rfl (gz (b' := false) rfl (cB rZ) rfl (gz (b' := false) rfl (cB rZ) rfl (gz (b' := false) rfl (cB rZ) rfl (gz (b' := false) rfl (cB rZ) rfl (gz (b' := false) rfl (cB rZ) rfl (aM (dn (b := false) (v := (.bool (false))) (cB rZ) rfl) (Am ?_)))))))))))))
 replace h := h.iY 43 46 rfl rfl (by decide) (aH e83).2 e88 rfl
 refine au ?_
 exact bP false ⟨h.cn _, hs⟩
 refine gV (bA (bA (dE (au ?_))))
 replace h := h.zi 41 25 rfl rfl (by decide)
 replace h := (h.fC 10).moveC 42 10 rfl rfl (by decide)
 replace h := (h.fC 11).moveC 43 11 rfl rfl (by decide)
 replace h := (h.fC 12).moveC 44 12 rfl rfl (by decide)
 replace h := (h.fC 13).moveC 45 13 rfl rfl (by decide)
 exact bP (v62, qp, Eg, v65, Kl, vD, v68, Km, ym, MV, Ia) ⟨h.cn _, hs⟩
def RP (a : List bN) (b : LX.State) : Option (LX.State × Int) :=
  (uy a b).bind fun y3 => bif decide ((y3 : Int) ≠ 0) then some ((⟨[], [], 0, 0⟩ : LX.State), y3) else bif decide ((b.status : Int) ≠ 3) then some ((⟨[], [], 0, 0⟩ : LX.State), 7) else (AZ b).bind fun y8 => some ((⟨y8.frames, y8.cells, 0, 0⟩ : LX.State), 0)
theorem TS (w0 : World) (M : BS) (hM : ∀ b, M b → b < w0.heap.size) (va : Value) (a : List bN) (ha : gB jF w0 BE M va a) (b : LX.State) (vb0 vb1 : Value) (hb0 : gB dB w0 BE M vb0 b.frames) (hb1 : gB (mP bM) w0 BE M vb1 b.cells) (r : LX.State × Int) (hs : RP a b = some r) :
    Calls Tryz.prog 30 #[va, (.agg #[vb0, vb1, (I6 b.status), (I6 b.aK)])] w0 (fun e w' => Grow w0 w' ∧ ∃ xM, ∃ Bq, e = .returned (.tuple #[.agg #[xM, Bq, .int .i64 r.1.status, .int .i64 r.1.aK], .int .i64 r.2]) ∧ fu dB w' M xM r.1.frames ∧ fu (mP bM) w' M Bq r.1.cells) := by
 refine aN (args := [va, (.agg #[vb0, vb1, (I6 b.status), (I6 b.aK)])]) Tryz.func30 rfl Tryz.ntmps30 (bD rfl) ?_
 have h := SH.init hM
 replace h := h.fw 1 ha bC
 replace h := h.fw 2 hb0 (cZ bC)
 replace h := h.fw 3 hb1 (cZ (cZ bC))
 have vR := ha.bV
 refine nG (oW (cs := [vb0, vb1, (I6 b.status), (I6 b.aK)]) h 4 rfl rfl fun w b1 h => bU h 5 bE fun w b2 h => aa (ae (v := (I6 0)) rfl) (nK (aa (ag (v := va) rfl) (aa (cK (vs := [vb0, vb1, (I6 b.status), (I6 b.aK)]) h 4 rfl bE rfl rfl rfl) ?_))))
 obtain ⟨y3, e4, hs⟩ := aJ hs
 refine aS FB rfl rfl (uU _ _ h.lt va a (h.gM 1 rfl) b vb0 vb1 (h.gM 2 rfl) (h.gM 3 rfl) _ e4) ?_
 rintro _ w ⟨k5, rfl⟩
 refine ⟨_, rfl, ?_⟩
 replace h := h.grow k5
 refine aa (ae (v := (I6 y3)) rfl) (nJ (aa (ag (v := (I6 y3)) rfl) (aa (gN rfl rfl) (nN (aG hs rfl (fun c6 hs => ?_) (fun c6 hs => ?_))))))
 refine nG (aa (dQ (pv := []) (out := [(.slice none 0 0), (.slice none 0 0), (I6 0), (I6 0)]) xJ rfl rfl) (aa (ag (v := (I6 y3)) rfl) (dm (vs := [(.slice none 0 0), (.slice none 0 0), (I6 0), (I6 0)]) h 5 [(.slice none 0 0), (.slice none 0 0), (I6 0), (I6 0)] rfl bE rfl rfl rfl rfl rfl (ai rfl (ai rfl (ai rfl (ai rfl aR)))) fun w h => aa (ae (v := (I6 y3)) rfl) (nR (ay (ko (vs := [(.slice none 0 0), (.slice none 0 0), (I6 0), (I6 0)]) (v2 := (I6 y3)) Tryz.results30 rfl rfl h 5 rfl bE rfl ?_))))))
 obtain rfl := fJ hs
 exact ⟨h.grown, _, _, rfl, gB.nil, gB.nil⟩
 refine aF (ak (aP (nG (aa (ah lQ rfl) (aa (aB h 4 rfl aW rfl rfl) (aa (gN rfl rfl) (nN (aG hs rfl (fun c7 hs => ?_) (fun c7 hs => ?_)))))))))
 refine nG (aa (dQ (pv := []) (out := [(.slice none 0 0), (.slice none 0 0), (I6 0), (I6 0)]) xJ rfl rfl) (dm (vs := [(.slice none 0 0), (.slice none 0 0), (I6 0), (I6 0)]) h 5 [(.slice none 0 0), (.slice none 0 0), (I6 0), (I6 0)] rfl bE rfl rfl rfl rfl rfl (ai rfl (ai rfl (ai rfl (ai rfl aR)))) fun w h => aa (ae (v := (I6 7)) rfl) (nR (ay (ko (vs := [(.slice none 0 0), (.slice none 0 0), (I6 0), (I6 0)]) (v2 := (I6 7)) Tryz.results30 rfl rfl h 5 rfl bE rfl ?_)))))
 obtain rfl := fJ hs
 exact ⟨h.grown, _, _, rfl, gB.nil, gB.nil⟩
 refine nS (aa (cK (vs := [vb0, vb1, (I6 b.status), (I6 b.aK)]) h 4 rfl bE rfl rfl rfl) ?_)
 obtain ⟨y8, e9, hs⟩ := aJ hs
 refine aS Mo rfl rfl (CR _ _ h.lt b vb0 vb1 (h.gM 2 rfl) (h.gM 3 rfl) _ e9) ?_
 rintro _ w ⟨k16, YK, XI, IY, us13, rfl, h14, h15⟩
 refine ⟨_, rfl, ?_⟩
 replace h := h.Fx 6 (C := (cU YK XI y8.frames IY y8.cells us13)) k16 ⟨⟨⟨trivial, trivial⟩, trivial⟩, trivial⟩ h14 h15
 replace h := h.bG 6 9 (by decide) rfl rfl
 replace h := h.bG 6 8 (by decide) rfl rfl
 replace h := h.bG 6 7 (by decide) rfl rfl
 refine dm (vs := [YK, XI, (I6 y8.status), (I6 y8.aK)]) h 4 [YK, XI, (I6 y8.status), (I6 y8.aK)] rfl bE rfl rfl rfl rfl rfl (ai (h.dD 6 rfl).one (ai (h.dD 8 rfl).one (ai rfl (ai rfl aR)))) fun w h => nJ (aa (ah lQ rfl) (fA h 4 [YK, XI, (I6 0), (I6 y8.aK)] rfl aW rfl rfl rfl rfl rfl fun w h => aa (ah Aw rfl) (fA h 4 [YK, XI, (I6 0), (I6 0)] rfl aW rfl rfl rfl rfl rfl fun w h => nJ (aa (cK (vs := [YK, XI, (I6 0), (I6 0)]) h 4 rfl bE rfl rfl rfl) (dm (vs := [YK, XI, (I6 0), (I6 0)]) h 5 [YK, XI, (I6 0), (I6 0)] rfl bE rfl rfl rfl rfl rfl (ai (h.dD 6 rfl).one (ai (h.dD 8 rfl).one (ai rfl (ai rfl aR)))) fun w h => aa (ae (v := (I6 0)) rfl) (nR (ko (vs := [YK, XI, (I6 0), (I6 0)]) (v2 := (I6 0)) Tryz.results30 rfl rfl h 5 rfl bE rfl ?_)))))))
 replace h := h.ny (N := bR) (R' := dB) 6 7 rfl rfl (by decide) rfl j4
 replace h := h.ny (N := (ed Val)) (R' := (mP bM)) 8 9 rfl rfl (by decide) rfl p9
 obtain rfl := fJ hs
 exact ⟨h.grown, _, _, rfl, h.UO 6 rfl, h.UO 8 rfl⟩
def mX (a : List Int) (b : List Int) (i3 : Int) (s : Unit) (G7 : Unit → Option Bool) : Option Bool :=
  (idx a i3).bind fun x9 => (idx b i3).bind fun mW => bif decide ((x9 : Int) ≠ mW) then some false else G7 ()
def ry (s : Unit) : Option Bool :=
  some true
def slices_Equal_int (a : List Int) (b : List Int) : Option Bool :=
  bif decide (((a.length : Int) : Int) ≠ (b.length : Int)) then some false else upto (mX a b) ry 0 ((a.length : Int)).toNat ()
theorem oO (w0 : World) (M : BS) (hM : ∀ b, M b → b < w0.heap.size) (va : Value) (a : List Int) (ha : gB dU w0 BE M va a) (vb : Value) (b : List Int) (hb : gB dU w0 BE M vb b) (r : Bool) (hs : slices_Equal_int a b = some r) :
    Calls Tryz.prog 18 #[va, vb] w0 (fun e w' => Grow w0 w' ∧ e = .returned (.bool r)) := by
 refine aN (args := [va, vb]) Tryz.func18 rfl Tryz.ntmps18 (bD rfl) ?_
 have h := SH.init hM
 replace h := h.fw 1 ha bC
 replace h := h.fw 2 hb (cZ bC)
 have vR := ha.bV
 have Ms := hb.bV
 refine nG (aa (ae (v := (.bool (false))) rfl) (nK (aa (ag (v := va) rfl) (aa (bS bY rfl (h.gM 1 rfl)) (aa (ag (v := vb) rfl) (aa (bS bY rfl (h.gM 2 rfl)) (aa (gN rfl rfl) (nN (aG hs rfl (fun c1 hs => ?_) (fun c1 hs => ?_))))))))))
 refine nG (aa (ae (v := (.bool (false))) rfl) (nR (ay (bQ (v := (.bool (false))) Tryz.results18 rfl ?_))))
 obtain rfl := fJ hs
 exact ⟨h.grown, rfl⟩
 refine aF (ak (aP (nG (aa (ag (v := va) rfl) (aa (bS bY rfl (h.gM 1 rfl)) (aa (ag (v := (I6 0)) rfl) (nN (aO ?_))))))))
 have hli3 := (h.gM 1 rfl).bV
 refine gF (σ := Nat × Int) (inl ([4, 5] ++ rg 13 13)) (fun ⟨k2, i3⟩ => [(13, (I6 i3))]) (fun ⟨k2, i3⟩ w => SH w0 M BE w (hset [(1, .sr dU va a), (2, .sr dU vb b)]) ∧ i3 = (k2 : Int) ∧ upto (mX a b) ry i3 (((a.length : Int)).toNat - k2) () = some r) (fun ⟨k2, i3⟩ => ((a.length : Int)).toNat - k2) ⟨0, 0⟩ ⟨rfl, trivial⟩ ?_ ?_
 exact ⟨h.cn _, rfl, hs⟩
 rintro ⟨k2, i3⟩ w dx ⟨h, hik, hs⟩
 refine nG ?_
 refine aa (dP rfl rfl) (nN ?_)
 refine aP (iE rfl (fun e7 => ?_) (fun e7 => ?_))
 refine aF (ak ?_)
 rw [vw (by have := rq e7; omega)] at hs
 generalize IE : upto (mX a b) ry (i3 + 1) (((a.length : Int)).toNat - (k2 + 1)) = G7 at hs
 have Vz : jN (i3 + 1) := (by have := rq e7; have := hli3; exact jN.mk (by omega) (by omega))
 refine aP (aO (nG (aa (ag (v := (I6 i3)) rfl) (aa (ae (v := (I6 i3)) rfl) (nN (aP (BC mixed (by kernel_rfl) h fun w h => aM (ag (v := va) rfl) (aM (ag (v := (I6 i3)) rfl) ?_))))))))
 obtain ⟨x9, e10, hs⟩ := aJ hs
 obtain ⟨b12, o13, cs14, h, r15, i11⟩ := h.zg 1 3 rfl bY rfl (aH e10).1 (aH e10).2
 obtain rfl := r15
 refine aM (i11 _ _ _ _ _ _ _ _ _ rfl rfl) (aM (dZ (k := 0) h 3 rfl aW rfl rfl) (aM (ag (v := vb) rfl) (aM (ag (v := (I6 i3)) rfl) ?_)))
 obtain ⟨mW, e17, hs⟩ := aJ hs
 obtain ⟨b19, o20, cs21, h, r22, i18⟩ := h.zg 2 4 rfl bY rfl (aH e17).1 (aH e17).2
 obtain rfl := r22
 refine aM (i18 _ _ _ _ _ _ _ _ _ rfl rfl) (aM (dZ (k := 0) h 4 rfl aW rfl rfl) (aM (gN rfl rfl) (Am (ak (aG hs rfl (fun c23 hs => ?_) (fun c23 hs => ?_))))))
 refine nG (aa (ae (v := (.bool (false))) rfl) (nR (aD (ay (ay (aD (ay (bQ (v := (.bool (false))) Tryz.results18 rfl ?_))))))))
 obtain rfl := fJ hs
 exact ⟨h.grown, rfl⟩
 refine aF (ax (ak (aC (aa (dw rfl rfl Vz) (aa (ag (v := (I6 ((i3 + 1)))) rfl) (az (au ?_)))))))
 subst IE
 exact jV ⟨k2 + 1, i3 + 1⟩ ⟨h.cn _, by omega, hs⟩ (by have := rq e7; dsimp only; omega)
 rw [vz (by have := of_decide_eq_false e7; omega)] at hs
 refine nE (aa (ae (v := (.bool (true))) rfl) (nR (bQ (v := (.bool (true))) Tryz.results18 rfl ?_)))
 obtain rfl := fJ hs
 exact ⟨h.grown, rfl⟩
def pz (N : Nat) : Option Bool :=
  (kz N).bind fun y1 => (yG N y1).bind fun y7 => (Wh y7).bind fun y13 => (yT N y7 y13.1 100).bind fun y21 => (RP y7 y21.1).bind fun y31 => (yT N y7 y31.1 1).bind fun y38 => (yT N y7 y38.1 100).bind fun uI => bif ((((decide ((y13.2 : Int) = 0) && decide ((y21.2.2.2 : Int) = 0)) && decide ((y31.2 : Int) = 0)) && decide ((y38.2.2.2 : Int) = 0)) && decide ((uI.2.2.2 : Int) = 0)) then (slices_Equal_int y21.2.1 [9]).bind fun y61 => bif ((y61 && decide (((y38.2.1.length : Int) : Int) = 0)) && decide ((y38.2.2.1 : Int) = 1)) then (slices_Equal_int uI.2.1 [4]).bind fun NW => bif NW then (uy y7 y38.1).bind fun ym => some (decide ((ym : Int) = 0)) else some false else some false else some false
theorem yH (N : Nat) (w0 : World) (M : BS) (hM : ∀ b, M b → b < w0.heap.size) (hT : vK Tryz.prog 4 w0)  (r : Bool) (hs : pz N = some r) :
    Calls Tryz.prog 26 #[] w0 (fun e w' => Grow w0 w' ∧ e = .returned (.bool r)) := by
 refine aN (args := []) Tryz.func26 rfl Tryz.ntmps26 (bD rfl) ?_
 have h := SH.init hM
 refine nG (aa (ae (v := (.bool (false))) rfl) (nJ ?_))
 obtain ⟨y1, e2, hs⟩ := aJ hs
 refine aS aal rfl rfl (Bp N _ _ h.lt (hT.go h.keep)  _ e2) ?_
 rintro _ w ⟨k6, u3, rfl, g4, g5⟩
 refine ⟨_, rfl, ?_⟩
 replace h := h.jO 1 k6 g4 g5
 obtain ⟨y7, e8, hs⟩ := aJ hs
 refine aS aak rfl rfl (Dc N _ _ h.lt u3 y1 (h.dV 1 rfl) _ e8) ?_
 rintro _ w ⟨k12, u9, rfl, g10, g11⟩
 refine ⟨_, rfl, ?_⟩
 replace h := h.jO 2 k12 g10 g11
 refine aa (ae (v := u9) rfl) (nJ (aa (ag (v := u9) rfl) ?_))
 obtain ⟨y13, e14, hs⟩ := aJ hs
 refine aS aai rfl rfl (Wi _ _ h.lt u9 y7 (h.dV 2 rfl) _ e14) ?_
 rintro _ w ⟨k19, G8, H6, rfl, g16, g18⟩
 refine ⟨_, rfl, ?_⟩
 replace h := h.Ky 3 k19 g16
 replace h := h.bX 4 g18.up
 refine aa (ag (v := (.tuple #[(.agg #[G8, H6, (I6 y13.1.status), (I6 y13.1.aK)]), (I6 y13.2)])) rfl) (aa (aU rfl rfl) (aa (aU rfl rfl) (bU h 5 bE fun w b20 h => dm (vs := [G8, H6, (I6 y13.1.status), (I6 y13.1.aK)]) h 5 [G8, H6, (I6 y13.1.status), (I6 y13.1.aK)] rfl bE rfl rfl rfl rfl rfl (ai (h.fo 3 rfl).one (ai (h.fo 4 rfl).one (ai rfl (ai rfl aR)))) fun w h => aa (ae (v := (I6 y13.2)) rfl) (nJ (aa (ag (v := u9) rfl) (aa (cK (vs := [G8, H6, (I6 y13.1.status), (I6 y13.1.aK)]) h 5 rfl bE rfl rfl rfl) ?_))))))
 replace h := h.freeze 2 rfl
 obtain ⟨y21, e22, hs⟩ := aJ hs
 refine aS Dx rfl rfl (xZ N _ _ h.lt u9 y7 (h.fo 2 rfl) y13.1 G8 H6 (h.mM 3 rfl) (h.mM 4 rfl) 100 _ e22) ?_
 rintro _ w ⟨k30, u23, u25, u27, rfl, g24, g26, g28, g29⟩
 refine ⟨_, rfl, ?_⟩
 replace h := h.jO 8 k30 g28 g29
 replace h := h.bX 6 g24.Rk
 replace h := h.bX 7 g26.Rk.up
 refine aa (ag (v := (.tuple #[(.agg #[u23, u25, (I6 y21.1.status), (I6 y21.1.aK)]), u27, (I6 y21.2.2.1), (I6 y21.2.2.2)])) rfl) (aa (aU rfl rfl) (aa (aU rfl rfl) (aa (aU rfl rfl) (aa (aU rfl rfl) (dm (vs := [u23, u25, (I6 y21.1.status), (I6 y21.1.aK)]) h 5 [u23, u25, (I6 y21.1.status), (I6 y21.1.aK)] rfl bE rfl rfl rfl rfl rfl (ai (h.fo 6 rfl).one (ai (h.fo 7 rfl).one (ai rfl (ai rfl aR)))) fun w h => aa (ae (v := u27) rfl) (aa (ae (v := (I6 y21.2.2.1)) rfl) (aa (ae (v := (I6 y21.2.2.2)) rfl) (nJ (aa (ag (v := u9) rfl) (aa (cK (vs := [u23, u25, (I6 y21.1.status), (I6 y21.1.aK)]) h 5 rfl bE rfl rfl rfl) ?_))))))))))
 obtain ⟨y31, e32, hs⟩ := aJ hs
 refine aS aaj rfl rfl (TS _ _ h.lt u9 y7 (h.mM 2 rfl) y21.1 u23 u25 (h.mM 6 rfl) (h.mM 7 rfl) _ e32) ?_
 rintro _ w ⟨k37, u33, u35, rfl, g34, g36⟩
 refine ⟨_, rfl, ?_⟩
 replace h := h.Ky 9 k37 g34
 replace h := h.bX 10 g36.up
 refine aa (ag (v := (.tuple #[(.agg #[u33, u35, (I6 y31.1.status), (I6 y31.1.aK)]), (I6 y31.2)])) rfl) (aa (aU rfl rfl) (aa (aU rfl rfl) (dm (vs := [u33, u35, (I6 y31.1.status), (I6 y31.1.aK)]) h 5 [u33, u35, (I6 y31.1.status), (I6 y31.1.aK)] rfl bE rfl rfl rfl rfl rfl (ai (h.fo 9 rfl).one (ai (h.fo 10 rfl).one (ai rfl (ai rfl aR)))) fun w h => aa (ae (v := (I6 y31.2)) rfl) (nJ (aa (ag (v := u9) rfl) (aa (cK (vs := [u33, u35, (I6 y31.1.status), (I6 y31.1.aK)]) h 5 rfl bE rfl rfl rfl) ?_))))))
 obtain ⟨y38, e39, hs⟩ := aJ hs
 refine aS Dx rfl rfl (xZ N _ _ h.lt u9 y7 (h.fo 2 rfl) y31.1 u33 u35 (h.mM 9 rfl) (h.mM 10 rfl) 1 _ e39) ?_
 rintro _ w ⟨k47, u40, u42, u44, rfl, g41, g43, g45, g46⟩
 refine ⟨_, rfl, ?_⟩
 replace h := h.jO 13 k47 g45 g46
 replace h := h.bX 11 g41.Rk
 replace h := h.bX 12 g43.Rk.up
 refine aa (ag (v := (.tuple #[(.agg #[u40, u42, (I6 y38.1.status), (I6 y38.1.aK)]), u44, (I6 y38.2.2.1), (I6 y38.2.2.2)])) rfl) (aa (aU rfl rfl) (aa (aU rfl rfl) (aa (aU rfl rfl) (aa (aU rfl rfl) (dm (vs := [u40, u42, (I6 y38.1.status), (I6 y38.1.aK)]) h 5 [u40, u42, (I6 y38.1.status), (I6 y38.1.aK)] rfl bE rfl rfl rfl rfl rfl (ai (h.fo 11 rfl).one (ai (h.fo 12 rfl).one (ai rfl (ai rfl aR)))) fun w h => aa (ae (v := u44) rfl) (aa (ae (v := (I6 y38.2.2.1)) rfl) (aa (ae (v := (I6 y38.2.2.2)) rfl) (nJ (aa (ag (v := u9) rfl) (aa (cK (vs := [u40, u42, (I6 y38.1.status), (I6 y38.1.aK)]) h 5 rfl bE rfl rfl rfl) ?_))))))))))
 obtain ⟨uI, e49, hs⟩ := aJ hs
 refine aS Dx rfl rfl (xZ N _ _ h.lt u9 y7 (h.fo 2 rfl) y38.1 u40 u42 (h.mM 11 rfl) (h.mM 12 rfl) 100 _ e49) ?_
 rintro _ w ⟨k57, u50, Zl, V5, rfl, g51, g53, g55, g56⟩
 refine ⟨_, rfl, ?_⟩
 replace h := h.jO 16 k57 g55 g56
 replace h := h.bX 14 g51.Rk
 replace h := h.bX 15 g53.Rk.up
 refine aa (ag (v := (.tuple #[(.agg #[u50, Zl, (I6 uI.1.status), (I6 uI.1.aK)]), V5, (I6 uI.2.2.1), (I6 uI.2.2.2)])) rfl) (aa (aU rfl rfl) (aa (aU rfl rfl) (aa (aU rfl rfl) (aa (aU rfl rfl) (bU h 17 bE fun w b58 h => dm (vs := [u50, Zl, (I6 uI.1.status), (I6 uI.1.aK)]) h 17 [u50, Zl, (I6 uI.1.status), (I6 uI.1.aK)] rfl bE rfl rfl rfl rfl rfl (ai (h.fo 14 rfl).one (ai (h.fo 15 rfl).one (ai rfl (ai rfl aR)))) fun w h => aa (ae (v := V5) rfl) (aa (ae (v := (I6 uI.2.2.1)) rfl) (aa (ae (v := (I6 uI.2.2.2)) rfl) (nJ (aa (ag (v := (I6 y13.2)) rfl) (aa (bz rfl rfl) (aa (ag (v := (.bool (decide ((y13.2 : Int) = 0)))) rfl) (aA rfl rfl (fun q => ag (v := (I6 y21.2.2.2)) rfl) (aA rfl rfl (fun q => bz (dz q) rfl) (aa (fD rfl rfl lX) (aa (ag (v := (.bool ((decide ((y13.2 : Int) = 0) && decide ((y21.2.2.2 : Int) = 0))))) rfl) (aA rfl rfl (fun q => ag (v := (I6 y31.2)) rfl) (aA rfl rfl (fun q => bz (dz q) rfl) (aa (fD rfl rfl lX) ?_))))))))))))))))))
 refine aa (ag (v := (.bool (((decide ((y13.2 : Int) = 0) && decide ((y21.2.2.2 : Int) = 0)) && decide ((y31.2 : Int) = 0))))) rfl) (aA rfl rfl (fun q => ag (v := (I6 y38.2.2.2)) rfl) (aA rfl rfl (fun q => bz (dz q) rfl) (aa (fD rfl rfl lX) (aa (ag (v := (.bool ((((decide ((y13.2 : Int) = 0) && decide ((y21.2.2.2 : Int) = 0)) && decide ((y31.2 : Int) = 0)) && decide ((y38.2.2.2 : Int) = 0))))) rfl) (aA rfl rfl (fun q => ag (v := (I6 uI.2.2.2)) rfl) (aA rfl rfl (fun q => bz (dz q) rfl) (aa (fD rfl rfl lX) (aa (ag (v := (.bool (((((decide ((y13.2 : Int) = 0) && decide ((y21.2.2.2 : Int) = 0)) && decide ((y31.2 : Int) = 0)) && decide ((y38.2.2.2 : Int) = 0)) && decide ((uI.2.2.2 : Int) = 0))))) rfl) (jf (b := ((((decide ((y13.2 : Int) = 0) && decide ((y21.2.2.2 : Int) = 0)) && decide ((y31.2 : Int) = 0)) && decide ((y38.2.2.2 : Int) = 0)) && decide ((uI.2.2.2 : Int) = 0))) hs (fun c59 hs => ?_) (fun c59 hs => ?_))))))))))
 refine dH rfl (cB c59) (aa (ag (v := u27) rfl) (dH rfl (cB c59) (uQ (R := dU) (vs := [(I6 9)]) (xs := [9]) h 18 jg rfl rfl rfl ⟨rfl, trivial⟩ rfl fun w u60 h => dH rfl (cB c59) ?_)))
 obtain ⟨y61, e62, hs⟩ := aJ hs
 refine aS Mm rfl rfl (oO _ _ h.lt u27 y21.2.1 (h.dV 8 rfl) u60 [9] (h.dV 18 rfl) _ e62) ?_
 rintro _ w ⟨XJ, rfl⟩
 refine ⟨_, rfl, ?_⟩
 replace h := h.grow XJ
 refine aa (dn (b := true) (v := (.bool (y61))) (cB c59) rfl) (aa (ag (v := (.bool (y61))) rfl) (aA rfl rfl (fun q => ag (v := u44) rfl) (aA rfl rfl (fun q => bS bY (dz q) (h.dV 13 rfl)) (aA rfl rfl (fun q => bz (dz q) rfl) (aa (fD rfl rfl lX) (aa (ag (v := (.bool ((y61 && decide (((y38.2.1.length : Int) : Int) = 0))))) rfl) (aA rfl rfl (fun q => ag (v := (I6 y38.2.2.1)) rfl) (aA rfl rfl (fun q => bz (dz q) rfl) (aa (fD rfl rfl lX) (aa (ag (v := (.bool (((y61 && decide (((y38.2.1.length : Int) : Int) = 0)) && decide ((y38.2.2.1 : Int) = 1))))) rfl) (jf (b := ((y61 && decide (((y38.2.1.length : Int) : Int) = 0)) && decide ((y38.2.2.1 : Int) = 1))) hs (fun c64 hs => ?_) (fun c64 hs => ?_))))))))))))
 refine dH rfl (cB c64) (aa (ag (v := V5) rfl) (dH rfl (cB c64) (uQ (R := dU) (vs := [(I6 4)]) (xs := [4]) h 19 jg rfl rfl rfl ⟨rfl, trivial⟩ rfl fun w YL h => dH rfl (cB c64) ?_)))
 obtain ⟨NW, e67, hs⟩ := aJ hs
 refine aS Mm rfl rfl (oO _ _ h.lt V5 uI.2.1 (h.dV 16 rfl) YL [4] (h.dV 19 rfl) _ e67) ?_
 rintro _ w ⟨k68, rfl⟩
 refine ⟨_, rfl, ?_⟩
 replace h := h.grow k68
 refine aa (dn (b := true) (v := (.bool (NW))) (cB c64) rfl) (aa (ag (v := (.bool (NW))) rfl) (jf (b := NW) hs (fun Tp hs => ?_) (fun Tp hs => ?_)))
 refine dH rfl (cB Tp) (aa (ag (v := u9) rfl) (dH rfl (cB Tp) (aa (cK (vs := [u40, u42, (I6 y38.1.status), (I6 y38.1.aK)]) h 5 rfl bE rfl rfl rfl) (dH rfl (cB Tp) ?_))))
 obtain ⟨ym, V6, hs⟩ := aJ hs
 refine aS FB rfl rfl (uU _ _ h.lt u9 y7 (h.mM 2 rfl) y38.1 u40 u42 (h.mM 11 rfl) (h.mM 12 rfl) _ V6) ?_
 rintro _ w ⟨k72, rfl⟩
 refine ⟨_, rfl, ?_⟩
 replace h := h.grow k72
 refine dH rfl (cB Tp) (aa (bz rfl rfl) (aa (dn (b := true) (v := (.bool (decide ((ym : Int) = 0)))) (cB Tp) rfl) (aa (ae (v := (.bool (decide ((ym : Int) = 0)))) rfl) (nR (bQ (v := (.bool (decide ((ym : Int) = 0)))) Tryz.results26 rfl ?_)))))
 obtain rfl := fJ hs
 exact ⟨h.grown, rfl⟩
 refine vB rfl (cB Tp) rfl (vB rfl (cB Tp) rfl (vB rfl (cB Tp) rfl (vB rfl (cB Tp) rfl (aa (dn (b := false) (v := (.bool (false))) (cB Tp) rfl) (aa (ae (v := (.bool (false))) rfl) (nR (bQ (v := (.bool (false))) Tryz.results26 rfl ?_)))))))
 obtain rfl := fJ hs
 exact ⟨h.grown, rfl⟩
 refine vB rfl (cB c64) rfl (vB rfl (cB c64) rfl (vB rfl (cB c64) rfl (aa (dn (b := false) (v := (.bool (false))) (cB c64) rfl) (aa (ag (v := (.bool (false))) rfl) (gy (b' := false) rfl rfl rfl (gy (b' := false) rfl rfl rfl (gy (b' := false) rfl rfl rfl (gy (b' := false) rfl rfl rfl (aa (dn (b := false) (v := (.bool (false))) rfl rfl) (aa (ae (v := (.bool (false))) rfl) (nR (bQ (v := (.bool (false))) Tryz.results26 rfl ?_))))))))))))
 obtain rfl := fJ hs
 exact ⟨h.grown, rfl⟩
 refine vB rfl (cB c59) rfl (vB rfl (cB c59) rfl (vB rfl (cB c59) rfl (aa (dn (b := false) (v := (.bool (false))) (cB c59) rfl) (aa (ag (v := (.bool (false))) rfl) (gy (b' := false) rfl rfl rfl (gy (b' := false) rfl rfl rfl (gy (b' := false) rfl rfl rfl (aa (dn (b := false) (v := (.bool (false))) rfl rfl) (aa (ag (v := (.bool (false))) rfl) (gy (b' := false) rfl rfl rfl (gy (b' := false) rfl rfl rfl (aa (dn (b := false) (v := (.bool (false))) rfl rfl) (aa (ag (v := (.bool (false))) rfl) (gy (b' := false) rfl rfl rfl (gy (b' := false) rfl rfl rfl (gy (b' := false) rfl rfl rfl (aa (dn (b := false) (v := (.bool (false))) rfl rfl) (aa (ag (v := (.bool (false))) rfl) (gy (b' := false) rfl rfl rfl (gy (b' := false) rfl rfl rfl (gy (b' := false) rfl rfl rfl (gy (b' := false) rfl rfl rfl (aa (dn (b := false) (v := (.bool (false))) rfl rfl) ?_)))))))))))))))))))))))
 refine aa (ae (v := (.bool (false))) rfl) (nR (bQ (v := (.bool (false))) Tryz.results26 rfl ?_))
 obtain rfl := fJ hs
 exact ⟨h.grown, rfl⟩
def lU (a : List Val) (b : List Val) (i3 : Int) (s : Unit) (G7 : Unit → Option Bool) : Option Bool :=
  (idx a i3).bind fun x9 => (idx b i3).bind fun mW => bif !(decide (x9.kind = mW.kind) && decide (x9.n = mW.n)) then some false else G7 ()
def pV (s : Unit) : Option Bool :=
  some true
def jS (a : List Val) (b : List Val) : Option Bool :=
  bif decide (((a.length : Int) : Int) ≠ (b.length : Int)) then some false else upto (lU a b) pV 0 ((a.length : Int)).toNat ()
theorem wH (w0 : World) (M : BS) (hM : ∀ b, M b → b < w0.heap.size) (va : Value) (a : List Val) (ha : gB bM w0 BE M va a) (vb : Value) (b : List Val) (hb : gB bM w0 BE M vb b) (r : Bool) (hs : jS a b = some r) :
    Calls Tryz.prog 47 #[va, vb] w0 (fun e w' => Grow w0 w' ∧ e = .returned (.bool r)) := by
 refine aN (args := [va, vb]) Tryz.func47 rfl Tryz.ntmps47 (bD rfl) ?_
 have h := SH.init hM
 replace h := h.fw 1 ha bC
 replace h := h.fw 2 hb (cZ bC)
 have vR := ha.bV
 have Ms := hb.bV
 refine nG (aa (ae (v := (.bool (false))) rfl) (nK (aa (ag (v := va) rfl) (aa (bS bO rfl (h.gM 1 rfl)) (aa (ag (v := vb) rfl) (aa (bS bO rfl (h.gM 2 rfl)) (aa (gN rfl rfl) (nN (aG hs rfl (fun c1 hs => ?_) (fun c1 hs => ?_))))))))))
 refine nG (aa (ae (v := (.bool (false))) rfl) (nR (ay (bQ (v := (.bool (false))) Tryz.results47 rfl ?_))))
 obtain rfl := fJ hs
 exact ⟨h.grown, rfl⟩
 refine aF (ak (aP (nG (aa (ag (v := va) rfl) (aa (bS bO rfl (h.gM 1 rfl)) (aa (ag (v := (I6 0)) rfl) (nN (aO ?_))))))))
 have hli3 := (h.gM 1 rfl).bV
 refine gF (σ := Nat × Int) (inl ([4, 5] ++ rg 13 13)) (fun ⟨k2, i3⟩ => [(13, (I6 i3))]) (fun ⟨k2, i3⟩ w => SH w0 M BE w (hset [(1, .sr bM va a), (2, .sr bM vb b)]) ∧ i3 = (k2 : Int) ∧ upto (lU a b) pV i3 (((a.length : Int)).toNat - k2) () = some r) (fun ⟨k2, i3⟩ => ((a.length : Int)).toNat - k2) ⟨0, 0⟩ ⟨rfl, trivial⟩ ?_ ?_
 exact ⟨h.cn _, rfl, hs⟩
 rintro ⟨k2, i3⟩ w dx ⟨h, hik, hs⟩
 refine nG ?_
 refine aa (dP rfl rfl) (nN ?_)
 refine aP (iE rfl (fun e7 => ?_) (fun e7 => ?_))
 refine aF (ak ?_)
 rw [vw (by have := rq e7; omega)] at hs
 generalize IE : upto (lU a b) pV (i3 + 1) (((a.length : Int)).toNat - (k2 + 1)) = G7 at hs
 have Vz : jN (i3 + 1) := (by have := rq e7; have := hli3; exact jN.mk (by omega) (by omega))
 refine aP (aO (nG (aa (ag (v := (I6 i3)) rfl) (aa (ae (v := (I6 i3)) rfl) (nN (aP (BC mixed (by kernel_rfl) h fun w h => aM (ag (v := va) rfl) (aM (ag (v := (I6 i3)) rfl) ?_))))))))
 obtain ⟨x9, e10, hs⟩ := aJ hs
 obtain ⟨b12, o13, cs14, h, r15, i11⟩ := h.zg 1 3 rfl bO rfl (aH e10).1 (aH e10).2
 obtain rfl := r15
 refine aM (i11 _ _ _ _ _ _ _ _ _ rfl rfl) (aM (jH (k := 0) (vs := [(I6 x9.kind), (I6 x9.n)]) h 3 rfl bT rfl rfl rfl (bD rfl)) (aM (ag (v := vb) rfl) (aM (ag (v := (I6 i3)) rfl) ?_)))
 obtain ⟨mW, e17, hs⟩ := aJ hs
 obtain ⟨b19, o20, cs21, h, r22, i18⟩ := h.zg 2 4 rfl bO rfl (aH e17).1 (aH e17).2
 obtain rfl := r22
 refine aM (i18 _ _ _ _ _ _ _ _ _ rfl rfl) (aM (jH (k := 0) (vs := [(I6 mW.kind), (I6 mW.n)]) h 4 rfl bT rfl rfl rfl (bD rfl)) (aM (ZU RF rfl rfl) (Am (ak (aG hs rfl (fun c23 hs => ?_) (fun c23 hs => ?_))))))
 refine nG (aa (ae (v := (.bool (false))) rfl) (nR (aD (ay (ay (aD (ay (bQ (v := (.bool (false))) Tryz.results47 rfl ?_))))))))
 obtain rfl := fJ hs
 exact ⟨h.grown, rfl⟩
 refine aF (ax (ak (aC (aa (dw rfl rfl Vz) (aa (ag (v := (I6 ((i3 + 1)))) rfl) (az (au ?_)))))))
 subst IE
 exact jV ⟨k2 + 1, i3 + 1⟩ ⟨h.cn _, by omega, hs⟩ (by have := rq e7; dsimp only; omega)
 rw [vz (by have := of_decide_eq_false e7; omega)] at hs
 refine nE (aa (ae (v := (.bool (true))) rfl) (nR (bQ (v := (.bool (true))) Tryz.results47 rfl ?_)))
 obtain rfl := fJ hs
 exact ⟨h.grown, rfl⟩
def xu (b : List (List Val)) (i3 : Int) (x4 : List Val) (s : Unit) (G7 : Unit → Option Bool) : Option Bool :=
  (idx b i3).bind fun mW => (jS x4 mW).bind fun y25 => bif (!y25) then some false else G7 ()
def A9 (s : Unit) : Option Bool :=
  some true
def CZ (a : List (List Val)) (b : List (List Val)) : Option Bool :=
  bif decide (((a.length : Int) : Int) ≠ (b.length : Int)) then some false else eO (xu b) A9 0 a ()
theorem Ow (w0 : World) (M : BS) (hM : ∀ b, M b → b < w0.heap.size) (va : Value) (a : List (List Val)) (ha : gB (mP bM) w0 BE M va a) (vb : Value) (b : List (List Val)) (hb : gB (mP bM) w0 BE M vb b) (r : Bool) (hs : CZ a b = some r) :
    Calls Tryz.prog 44 #[va, vb] w0 (fun e w' => Grow w0 w' ∧ e = .returned (.bool r)) := by
 refine aN (args := [va, vb]) Tryz.func44 rfl Tryz.ntmps44 (bD rfl) ?_
 have h := SH.init hM
 replace h := h.fw 1 ha bC
 replace h := h.fw 2 hb (cZ bC)
 have vR := ha.bV
 have Ms := hb.bV
 refine nG (aa (ae (v := (.bool (false))) rfl) (nJ (aa (ag (v := va) rfl) (aa (ag (v := vb) rfl) (jK (args := [va, vb, (.func (.func 79) #[] #[])]) aau rfl rfl (aN (args := [va, vb, (.func (.func 79) #[] #[])]) Tryz.func78 rfl Tryz.ntmps78 (bD rfl) (nG (aa (ae (v := (.bool (false))) rfl) (nK (aa (ag (v := va) rfl) (aa (bS eX rfl (h.gM 1 rfl)) (aa (ag (v := vb) rfl) (aa (bS eX rfl (h.gM 2 rfl)) (aa (gN rfl rfl) ?_))))))))))))))
 refine nN (aG hs rfl (fun c1 hs => ?_) (fun c1 hs => ?_))
 refine nG (aa (ae (v := (.bool (false))) rfl) (nR (ay (bQ (v := (.bool (false))) Tryz.results78 rfl (⟨_, rfl, ?_⟩)))))
 refine aa (ae (v := (.bool (false))) rfl) (nR (bQ (v := (.bool (false))) Tryz.results44 rfl ?_))
 obtain rfl := fJ hs
 exact ⟨h.grown, rfl⟩
 refine aF (ak (aP (nG (aa (ag (v := va) rfl) (aa (bS eX rfl (h.gM 1 rfl)) (aa (ag (v := (I6 0)) rfl) (nN (aO (gF (σ := Nat × Int) (inl ([6, 7, 8, 9] ++ rg 17 15)) (fun ⟨k2, i3⟩ => [(17, (I6 i3))]) (fun ⟨k2, i3⟩ w => SH w0 M BE w (hset [(1, .sr (mP bM) va a), (2, .sr (mP bM) vb b)]) ∧ i3 = (k2 : Int) ∧ eO (xu b) A9 i3 (a.drop k2) () = some r) (fun ⟨k2, i3⟩ => a.length - k2) ⟨0, 0⟩ ⟨rfl, trivial⟩ ?_ ?_)))))))))
 exact ⟨h.cn _, rfl, hs⟩
 rintro ⟨k2, i3⟩ w dx ⟨h, hik, hs⟩
 refine nG ?_
 refine aa (dP rfl rfl) (nN ?_)
 refine aP (iE rfl (fun e7 => ?_) (fun e7 => ?_))
 refine aF (ak ?_)
 obtain ⟨x4, e8a, e8b⟩ := fV (hik ▸ e7)
 rw [e8b, iT] at hs
 generalize IE : eO (xu b) A9 (i3 + 1) (a.drop (k2 + 1)) = G7 at hs
 have Vz := gp ((h.gM 1 rfl)).bV hik e7
 refine aP (aO (nG (aa (ag (v := (I6 i3)) rfl) ?_)))
 obtain ⟨b10, o11, cs12, h, r13, i9⟩ := h.zg 1 3 rfl eX rfl (iO hik) (gm hik e8a)
 obtain ⟨KR, rfl, g15⟩ := r13
 replace h := h.bX 4 g15.up
 refine aa (i9 _ _ _ _ _ _ _ _ _ rfl rfl) (aa (dZ (k := 0) h 3 rfl nA rfl rfl) (aa (ae (v := (I6 i3)) rfl) (aa (ae (v := KR) rfl) (nJ (aa (ag (v := vb) rfl) (aa (ag (v := (I6 i3)) rfl) ?_))))))
 obtain ⟨mW, e17, hs⟩ := aJ hs
 obtain ⟨b19, o20, cs21, h, r22, i18⟩ := h.zg 2 5 rfl eX rfl (aH e17).1 (aH e17).2
 obtain ⟨u23, rfl, g24⟩ := r22
 replace h := h.bX 6 g24.up
 refine aa (i18 _ _ _ _ _ _ _ _ _ rfl rfl) (aa (dZ (k := 0) h 5 rfl nA rfl rfl) (aa (ae (v := u23) rfl) (nJ (aa (ag (v := (.func (.func 79) #[] #[])) rfl) (aa (ag (v := KR) rfl) (aa (ag (v := u23) rfl) (jK (args := [KR, u23]) aav rfl rfl (aN (args := [KR, u23]) Tryz.func79 rfl Tryz.ntmps79 (bD rfl) (nG (aa (ae (v := (.bool (false))) rfl) (nJ (aa (ag (v := KR) rfl) (aa (ag (v := u23) rfl) ?_)))))))))))))
 obtain ⟨y25, e26, hs⟩ := aJ hs
 refine aS Vm rfl rfl (wH _ _ h.lt KR x4 (h.mM 4 rfl) u23 mW (h.mM 6 rfl) _ e26) ?_
 rintro _ w ⟨k27, rfl⟩
 refine ⟨_, rfl, ?_⟩
 replace h := h.grow k27
 refine aa (ae (v := (.bool (y25))) rfl) (nR (bQ (v := (.bool (y25))) Tryz.results79 rfl (⟨_, rfl, ?_⟩)))
 refine aa (ic rfl) (nN (aG hs rfl (fun c28 hs => ?_) (fun c28 hs => ?_)))
 refine nG (aa (ae (v := (.bool (false))) rfl) (nR (aD (ay (ay (aD (ay (bQ (v := (.bool (false))) Tryz.results78 rfl (⟨_, rfl, ?_⟩)))))))))
 refine aa (ae (v := (.bool (false))) rfl) (nR (bQ (v := (.bool (false))) Tryz.results44 rfl ?_))
 obtain rfl := fJ hs
 exact ⟨h.grown, rfl⟩
 refine aF (ax (ak (aC (aa (dw rfl rfl Vz) (aa (ag (v := (I6 ((i3 + 1)))) rfl) (az (au ?_)))))))
 subst IE
 exact jV ⟨k2 + 1, i3 + 1⟩ ⟨h.cn _, by omega, hs⟩ (by have := rq e7; dsimp only; omega)
 rw [fZ (hik ▸ e7), ni] at hs
 refine nE (aa (ae (v := (.bool (true))) rfl) (nR (bQ (v := (.bool (true))) Tryz.results78 rfl (⟨_, rfl, ?_⟩))))
 refine aa (ae (v := (.bool (true))) rfl) (nR (bQ (v := (.bool (true))) Tryz.results44 rfl ?_))
 obtain rfl := fJ hs
 exact ⟨h.grown, rfl⟩
def sU (nZ : Unit → Option Bool) (x34 : Bool) : Option Bool :=
  bif x34 then some false else nZ ()
def yI (b : LX.State) (i10 : Int) (eu : LX.Frame) (s : Unit) (nZ : Unit → Option Bool) : Option Bool :=
  (idx b.frames i10).bind fun x24 => bif ((decide ((eu.proc : Int) = x24.proc) && decide ((eu.at_ : Int) = x24.at_)) && decide ((eu.mH : Int) = x24.mH)) then (jS eu.regs x24.regs).bind fun y39 => sU nZ (!y39) else sU nZ true
def Ch (s : Unit) : Option Bool :=
  some true
def EN (a : LX.State) (b : LX.State) : Option Bool :=
  bif (decide ((a.status : Int) = b.status) && decide ((a.aK : Int) = b.aK)) then (CZ a.cells b.cells).bind fun y4 => bif y4 then bif decide (((a.frames.length : Int) : Int) ≠ (b.frames.length : Int)) then some false else eO (yI b) Ch 0 a.frames () else some false else some false
theorem Lc (w0 : World) (M : BS) (hM : ∀ b, M b → b < w0.heap.size) (a : LX.State) (Ef EG : Value) (ha0 : gB dB w0 BE M Ef a.frames) (ha1 : gB (mP bM) w0 BE M EG a.cells) (b : LX.State) (vb0 vb1 : Value) (hb0 : gB dB w0 BE M vb0 b.frames) (hb1 : gB (mP bM) w0 BE M vb1 b.cells) (r : Bool) (hs : EN a b = some r) :
    Calls Tryz.prog 19 #[(.agg #[Ef, EG, (I6 a.status), (I6 a.aK)]), (.agg #[vb0, vb1, (I6 b.status), (I6 b.aK)])] w0 (fun e w' => Grow w0 w' ∧ e = .returned (.bool r)) := by
 refine aN (args := [(.agg #[Ef, EG, (I6 a.status), (I6 a.aK)]), (.agg #[vb0, vb1, (I6 b.status), (I6 b.aK)])]) Tryz.func19 rfl Tryz.ntmps19 (bD rfl) ?_
 have h := SH.init hM
 replace h := h.fw 1 ha0 bC
 replace h := h.fw 2 ha1 (cZ bC)
 replace h := h.fw 3 hb0 (cZ (cZ bC))
 replace h := h.fw 4 hb1 (cZ (cZ (cZ bC)))
 refine nG (oW (cs := [Ef, EG, (I6 a.status), (I6 a.aK)]) h 5 rfl rfl fun w b1 h => oW (cs := [vb0, vb1, (I6 b.status), (I6 b.aK)]) h 6 rfl rfl fun w b2 h => aa (ae (v := (.bool (false))) rfl) (nJ (aa (ah lQ rfl) (aa (aB h 5 rfl aW rfl rfl) (aa (ah lQ rfl) (aa (aB h 6 rfl aW rfl rfl) (aa (bz rfl rfl) (aa (ag (v := (.bool (decide ((a.status : Int) = b.status)))) rfl) (aA rfl rfl (fun q => ah Aw rfl) (aA rfl rfl (fun q => aB h 5 rfl aW (dz q) rfl) (aA rfl rfl (fun q => ah Aw rfl) (aA rfl rfl (fun q => aB h 6 rfl aW (dz q) rfl) (aA rfl rfl (fun q => bz (dz q) (dz q)) (aa (fD rfl rfl lX) (aa (ag (v := (.bool ((decide ((a.status : Int) = b.status) && decide ((a.aK : Int) = b.aK))))) rfl) (jf (b := (decide ((a.status : Int) = b.status) && decide ((a.aK : Int) = b.aK))) hs (fun c3 hs => ?_) (fun c3 hs => ?_)))))))))))))))))
 refine dH rfl (cB c3) (aa (ah jW rfl) (dH rfl (cB c3) (aa (aB h 5 rfl o8 rfl rfl) (dH rfl (cB c3) (aa (ah jW rfl) (dH rfl (cB c3) (aa (aB h 6 rfl o8 rfl rfl) (dH rfl (cB c3) ?_))))))))
 obtain ⟨y4, e5, hs⟩ := aJ hs
 refine aS aam rfl rfl (Ow _ _ h.lt EG a.cells (h.gM 2 rfl) vb1 b.cells (h.gM 4 rfl) _ e5) ?_
 rintro _ w ⟨k6, rfl⟩
 refine ⟨_, rfl, ?_⟩
 replace h := h.grow k6
 refine aa (dn (b := true) (v := (.bool (y4))) (cB c3) rfl) (aa (ag (v := (.bool (y4))) rfl) (jf (b := y4) hs (fun c7 hs => ?_) (fun c7 hs => ?_)))
 refine dH rfl (cB c7) (aa (ah eH rfl) (dH rfl (cB c7) (aa (aB h 5 rfl jd rfl rfl) (dH rfl (cB c7) (aa (ah eH rfl) (dH rfl (cB c7) (aa (aB h 6 rfl jd rfl rfl) (dH rfl (cB c7) (jK (args := [Ef, vb0, (.func (.func 46) #[] #[])]) aan rfl rfl (aN (args := [Ef, vb0, (.func (.func 46) #[] #[])]) Tryz.func45 rfl Tryz.ntmps45 (bD rfl) (nG (aa (ae (v := (.bool (false))) rfl) (nK (aa (ag (v := Ef) rfl) (aa (bS dA rfl (h.gM 1 rfl)) (aa (ag (v := vb0) rfl) (aa (bS dA rfl (h.gM 3 rfl)) (aa (gN rfl rfl) ?_))))))))))))))))))
 refine nN (aG hs rfl (fun c8 hs => ?_) (fun c8 hs => ?_))
 refine nG (aa (ae (v := (.bool (false))) rfl) (nR (ay (bQ (v := (.bool (false))) Tryz.results45 rfl (⟨_, rfl, ?_⟩)))))
 refine aa (dn (b := true) (v := (.bool (false))) (cB c7) rfl) (aa (ae (v := (.bool (false))) rfl) (nR (bQ (v := (.bool (false))) Tryz.results19 rfl ?_)))
 obtain rfl := fJ hs
 exact ⟨h.grown, rfl⟩
 refine aF (ak (aP (nG (aa (ag (v := Ef) rfl) (aa (bS dA rfl (h.gM 1 rfl)) (aa (ag (v := (I6 0)) rfl) (nN (aO (gF (σ := Nat × Int) (inl ([6, 7, 8, 9] ++ rg 17 15)) (fun ⟨k9, i10⟩ => [(17, (I6 i10))]) (fun ⟨k9, i10⟩ w => SH w0 M BE w (hset [(1, .sr dB Ef a.frames), (3, .sr dB vb0 b.frames)]) ∧ i10 = (k9 : Int) ∧ eO (yI b) Ch i10 (a.frames.drop k9) () = some r) (fun ⟨k9, i10⟩ => a.frames.length - k9) ⟨0, 0⟩ ⟨rfl, trivial⟩ ?_ ?_)))))))))
 exact ⟨h.cn _, rfl, hs⟩
 rintro ⟨k9, i10⟩ w dx ⟨h, hik, hs⟩
 refine nG ?_
 refine aa (dP rfl rfl) (nN ?_)
 refine aP (iE rfl (fun e14 => ?_) (fun e14 => ?_))
 refine aF (ak ?_)
 obtain ⟨eu, PM, PN⟩ := fV (hik ▸ e14)
 rw [PN, iT] at hs
 generalize IJ : eO (yI b) Ch (i10 + 1) (a.frames.drop (k9 + 1)) = nZ at hs
 have PO := gp ((h.gM 1 rfl)).bV hik e14
 refine aP (aO (nG (aa (ag (v := (I6 i10)) rfl) ?_)))
 obtain ⟨b17, o18, Yn, h, VQ, i16⟩ := h.zg 1 7 rfl dA rfl (iO hik) (gm hik PM)
 obtain ⟨u21, rfl, g22⟩ := vL VQ
 replace h := h.bX 8 g22.up
 refine aa (i16 _ _ _ _ _ _ _ _ _ rfl rfl) (aa (jH (k := 0) (vs := [(I6 eu.proc), (I6 eu.at_), u21, (I6 eu.mH)]) h 7 rfl jh rfl rfl rfl (bD rfl)) (bU h 9 jh fun w Dn h => aa (ae (v := (I6 i10)) rfl) (dm (vs := [(I6 eu.proc), (I6 eu.at_), u21, (I6 eu.mH)]) h 9 [(I6 eu.proc), (I6 eu.at_), u21, (I6 eu.mH)] rfl jh rfl rfl rfl rfl rfl (ai rfl (ai rfl (ai (h.fo 8 rfl).one (ai rfl aR)))) fun w h => nJ (aa (ag (v := vb0) rfl) (aa (ag (v := (I6 i10)) rfl) ?_)))))
 obtain ⟨x24, e25, hs⟩ := aJ hs
 obtain ⟨b27, o28, cs29, h, r30, i26⟩ := h.zg 3 10 rfl dA rfl (aH e25).1 (aH e25).2
 obtain ⟨u31, rfl, g32⟩ := vL r30
 replace h := h.bX 11 g32.up
 refine aa (i26 _ _ _ _ _ _ _ _ _ rfl rfl) (aa (jH (k := 0) (vs := [(I6 x24.proc), (I6 x24.at_), u31, (I6 x24.mH)]) h 10 rfl jh rfl rfl rfl (bD rfl)) (bU h 12 jh fun w b33 h => dm (vs := [(I6 x24.proc), (I6 x24.at_), u31, (I6 x24.mH)]) h 12 [(I6 x24.proc), (I6 x24.at_), u31, (I6 x24.mH)] rfl jh rfl rfl rfl rfl rfl (ai rfl (ai rfl (ai (h.fo 11 rfl).one (ai rfl aR)))) fun w h => nN (bW (σ := Bool) (inl [26, 27, 28, 29, 30]) (fun x34 => [(30, (.bool (x34)))]) (fun x34 w => SH w0 M BE w (hset [(1, .sr dB Ef a.frames), (3, .sr dB vb0 b.frames)]) ∧ sU nZ x34 = some r) ?_ ?_)))
 rintro x34 w dx ⟨h, hs⟩
 refine aG hs rfl (fun c35 hs => ?_) (fun c35 hs => ?_)
 refine nG (aa (ae (v := (.bool (false))) rfl) (nR (aD (ay (ay (aD (ay (bQ (v := (.bool (false))) Tryz.results45 rfl (⟨_, rfl, ?_⟩)))))))))
 refine aa (dn (b := true) (v := (.bool (false))) (cB c7) rfl) (aa (ae (v := (.bool (false))) rfl) (nR (bQ (v := (.bool (false))) Tryz.results19 rfl ?_)))
 obtain rfl := fJ hs
 exact ⟨h.grown, rfl⟩
 refine aF (ax (ak (aC (aa (dw rfl rfl PO) (aa (ag (v := (I6 ((i10 + 1)))) rfl) (az (au ?_)))))))
 subst IJ
 exact jV ⟨k9 + 1, i10 + 1⟩ ⟨h.cn _, by omega, hs⟩ (by have := rq e14; dsimp only; omega)
 refine aC (aa (ag (v := (.func (.func 46) #[] #[])) rfl) (aa (cK (vs := [(I6 eu.proc), (I6 eu.at_), u21, (I6 eu.mH)]) h 9 rfl jh rfl rfl rfl) (aa (cK (vs := [(I6 x24.proc), (I6 x24.at_), u31, (I6 x24.mH)]) h 12 rfl jh rfl rfl rfl) (jK (args := [(.agg #[(I6 eu.proc), (I6 eu.at_), u21, (I6 eu.mH)]), (.agg #[(I6 x24.proc), (I6 x24.at_), u31, (I6 x24.mH)])]) aao rfl rfl (aN (args := [(.agg #[(I6 eu.proc), (I6 eu.at_), u21, (I6 eu.mH)]), (.agg #[(I6 x24.proc), (I6 x24.at_), u31, (I6 x24.mH)])]) Tryz.func46 rfl Tryz.ntmps46 (bD rfl) (nG (oW (cs := [(I6 eu.proc), (I6 eu.at_), u21, (I6 eu.mH)]) h 13 rfl rfl fun w b36 h => oW (cs := [(I6 x24.proc), (I6 x24.at_), u31, (I6 x24.mH)]) h 14 rfl rfl fun w b37 h => aa (ae (v := (.bool (false))) rfl) (nJ (aa (ah yE rfl) (aa (aB h 13 rfl aW rfl rfl) (aa (ah yE rfl) (aa (aB h 14 rfl aW rfl rfl) (aa (bz rfl rfl) (aa (ag (v := (.bool (decide ((eu.proc : Int) = x24.proc)))) rfl) (aA rfl rfl (fun q => ah vC rfl) (aA rfl rfl (fun q => aB h 13 rfl aW (dz q) rfl) (aA rfl rfl (fun q => ah vC rfl) ?_)))))))))))))))))
 refine aA rfl rfl (fun q => aB h 14 rfl aW (dz q) rfl) (aA rfl rfl (fun q => bz (dz q) (dz q)) (aa (fD rfl rfl lX) (aa (ag (v := (.bool ((decide ((eu.proc : Int) = x24.proc) && decide ((eu.at_ : Int) = x24.at_))))) rfl) (aA rfl rfl (fun q => ah CG rfl) (aA rfl rfl (fun q => aB h 13 rfl aW (dz q) rfl) (aA rfl rfl (fun q => ah CG rfl) (aA rfl rfl (fun q => aB h 14 rfl aW (dz q) rfl) (aA rfl rfl (fun q => bz (dz q) (dz q)) (aa (fD rfl rfl lX) (aa (ag (v := (.bool (((decide ((eu.proc : Int) = x24.proc) && decide ((eu.at_ : Int) = x24.at_)) && decide ((eu.mH : Int) = x24.mH))))) rfl) (jf (b := ((decide ((eu.proc : Int) = x24.proc) && decide ((eu.at_ : Int) = x24.at_)) && decide ((eu.mH : Int) = x24.mH))) hs (fun NG hs => ?_) (fun NG hs => ?_))))))))))))
 refine dH rfl (cB NG) (aa (ah mV rfl) (dH rfl (cB NG) (aa (aB h 13 rfl nA rfl rfl) (dH rfl (cB NG) (aa (ah mV rfl) (dH rfl (cB NG) (aa (aB h 14 rfl nA rfl rfl) (dH rfl (cB NG) ?_))))))))
 obtain ⟨y39, e40, hs⟩ := aJ hs
 refine aS Vm rfl rfl (wH _ _ h.lt u21 eu.regs (h.mM 8 rfl) u31 x24.regs (h.mM 11 rfl) _ e40) ?_
 rintro _ w ⟨k41, rfl⟩
 refine ⟨_, rfl, ?_⟩
 replace h := h.grow k41
 refine aa (dn (b := true) (v := (.bool (y39))) (cB NG) rfl) (aa (ae (v := (.bool (y39))) rfl) (nR (bQ (v := (.bool (y39))) Tryz.results46 rfl (⟨_, rfl, ?_⟩))))
 refine aa (ic rfl) (az (au ?_))
 exact bP (!y39) ⟨h.cn _, hs⟩
 refine vB rfl (cB NG) rfl (vB rfl (cB NG) rfl (vB rfl (cB NG) rfl (vB rfl (cB NG) rfl (vB rfl (cB NG) rfl (aa (dn (b := false) (v := (.bool (false))) (cB NG) rfl) (aa (ae (v := (.bool (false))) rfl) (nR (bQ (v := (.bool (false))) Tryz.results46 rfl (⟨_, rfl, ?_⟩)))))))))
 refine aa (ic rfl) (az (au ?_))
 exact bP true ⟨h.cn _, hs⟩
 rw [fZ (hik ▸ e14), ni] at hs
 refine nE (aa (ae (v := (.bool (true))) rfl) (nR (bQ (v := (.bool (true))) Tryz.results45 rfl (⟨_, rfl, ?_⟩))))
 refine aa (dn (b := true) (v := (.bool (true))) (cB c7) rfl) (aa (ae (v := (.bool (true))) rfl) (nR (bQ (v := (.bool (true))) Tryz.results19 rfl ?_)))
 obtain rfl := fJ hs
 exact ⟨h.grown, rfl⟩
 refine vB rfl (cB c7) rfl (vB rfl (cB c7) rfl (vB rfl (cB c7) rfl (vB rfl (cB c7) rfl (vB rfl (cB c7) rfl (aa (dn (b := false) (v := (.bool (false))) (cB c7) rfl) (aa (ae (v := (.bool (false))) rfl) (nR (bQ (v := (.bool (false))) Tryz.results19 rfl ?_))))))))
 obtain rfl := fJ hs
 exact ⟨h.grown, rfl⟩
 refine vB rfl (cB c3) rfl (vB rfl (cB c3) rfl (vB rfl (cB c3) rfl (vB rfl (cB c3) rfl (vB rfl (cB c3) rfl (aa (dn (b := false) (v := (.bool (false))) (cB c3) rfl) (aa (ag (v := (.bool (false))) rfl) (gy (b' := false) rfl rfl rfl (gy (b' := false) rfl rfl rfl (gy (b' := false) rfl rfl rfl (gy (b' := false) rfl rfl rfl (gy (b' := false) rfl rfl rfl (aa (dn (b := false) (v := (.bool (false))) rfl rfl) (aa (ae (v := (.bool (false))) rfl) (nR (bQ (v := (.bool (false))) Tryz.results19 rfl ?_)))))))))))))))
 obtain rfl := fJ hs
 exact ⟨h.grown, rfl⟩
def qE (a : Int) (b : Int) : Option Int :=
  gL (0 < b) (bif decide (((Int.tmod a b) : Int) < 0) then gL (jN ((Int.tmod a b) + b)) (some ((Int.tmod a b) + b)) else some (Int.tmod a b))
theorem zV (w0 : World) (M : BS) (hM : ∀ b, M b → b < w0.heap.size) (a : Int) (b : Int) (r : Int) (hs : qE a b = some r) :
    Calls Tryz.prog 16 #[(I6 a), (I6 b)] w0 (fun e w' => Grow w0 w' ∧ e = .returned (.int .i64 r)) := by
 refine aN (args := [(I6 a), (I6 b)]) Tryz.func16 rfl Tryz.ntmps16 (bD rfl) ?_
 have h := SH.init hM
 refine nG (aa (ae (v := (I6 0)) rfl) (nJ (aa (ag (v := (I6 a)) rfl) (aa (ag (v := (I6 b)) rfl) ?_))))
 obtain ⟨a1, hs⟩ := bg hs
 refine aa (r_rem rfl rfl a1) (aa (ae (v := (I6 ((Int.tmod a b)))) rfl) (nK (aa (ag (v := (I6 ((Int.tmod a b)))) rfl) (aa (dP rfl rfl) (nN (aG hs rfl (fun c2 hs => ?_) (fun c2 hs => ?_)))))))
 refine aC (aa (ag (v := (I6 ((Int.tmod a b)))) rfl) (aa (ag (v := (I6 b)) rfl) ?_))
 obtain ⟨a3, hs⟩ := bg hs
 refine aa (dw rfl rfl a3) (aa (ae (v := (I6 (((Int.tmod a b) + b)))) rfl) (nJ (aa (ag (v := (I6 (((Int.tmod a b) + b)))) rfl) (aa (ae (v := (I6 (((Int.tmod a b) + b)))) rfl) (nR (bQ (v := (I6 (((Int.tmod a b) + b)))) Tryz.results16 rfl ?_))))))
 obtain rfl := fJ hs
 exact ⟨h.grown, rfl⟩
 refine nS (aa (ag (v := (I6 ((Int.tmod a b)))) rfl) (aa (ae (v := (I6 ((Int.tmod a b)))) rfl) (nR (bQ (v := (I6 ((Int.tmod a b)))) Tryz.results16 rfl ?_))))
 obtain rfl := fJ hs
 exact ⟨h.grown, rfl⟩
def fe (N : Nat) (a : List bN) (uf : List Int) (Hf : List LX.Frame) (UC : List (List Val)) (AR : Int) (Bz : Int) (s : Int × List Int × List LX.Frame × List (List Val) × Int × Int) (nx59 : Int × List Int × List LX.Frame × List (List Val) × Int × Int → Option Bool) : Option Bool :=
  match s with | (Kn, Jf, wI, yt, Dz, G9) => bif (decide ((0 : Int) < Kn) && decide ((Dz : Int) = 0)) then (yT N a (⟨wI, yt, Dz, G9⟩ : LX.State) (min Kn 2000)).bind fun Ba => bif (decide ((Ba.2.2.2 : Int) ≠ 0) || decide ((Ba.2.2.1 : Int) = 0)) then some false else gL (jN (Kn - Ba.2.2.1)) (gL (Room 8 Jf Ba.2.1) (nx59 ((Kn - Ba.2.2.1), (Jf ++ Ba.2.1), Ba.1.frames, Ba.1.cells, Ba.1.status, Ba.1.aK))) else bif decide ((Kn : Int) = 0) then (slices_Equal_int Jf uf).bind fun Ci => bif Ci then (rJ N (⟨wI, yt, Dz, G9⟩ : LX.State)).bind fun Cj => (rJ N (⟨Hf, UC, AR, Bz⟩ : LX.State)).bind fun zW => (EN Cj zW).bind fun zX => some zX else some false else some false
def jr (N : Nat) (a : List bN) (b : LX.State) (yu : Int) (uf : List Int) (Hf : List LX.Frame) (UC : List (List Val)) (AR : Int) (Bz : Int) : Option Bool :=
  again (fe N a uf Hf UC AR Bz) N (yu, [], b.frames, b.cells, b.status, b.aK)
def iI (N : Nat) (a : List bN) (b : LX.State) (WV : Int) (s : Int × List Int × List LX.Frame × List (List Val) × Int × Int) (ZF : Int × List Int × List LX.Frame × List (List Val) × Int × Int → Option Bool) : Option Bool :=
  match s with | (Df, uJ, Jl, wM, Hl, Hm) => (qE WV 60).bind fun FR => (yT N a (⟨Jl, wM, Hl, Hm⟩ : LX.State) FR).bind fun mJ => bif (decide ((mJ.2.2.2 : Int) ≠ 0) || decide ((FR : Int) < mJ.2.2.1)) then some false else (rJ N mJ.1).bind fun y159 => gL (Room 8 uJ mJ.2.1) (gL (jN (Df + mJ.2.2.1)) ((uy a y159).bind fun y171 => bif decide ((y171 : Int) ≠ 0) then some false else bif decide ((y159.status : Int) ≠ 0) then jr N a b (Df + mJ.2.2.1) (uJ ++ mJ.2.1) y159.frames y159.cells y159.status y159.aK else ZF ((Df + mJ.2.2.1), (uJ ++ mJ.2.1), y159.frames, y159.cells, y159.status, y159.aK)))
def iJ (N : Nat) (a : List bN) (b : LX.State) (s : Int × List Int × List LX.Frame × List (List Val) × Int × Int) : Option Bool :=
  match s with | (Df, uJ, Jl, wM, Hl, Hm) => jr N a b Df uJ Jl wM Hl Hm
def nT (N : Nat) (a : List bN) (Ho : List Int) (Hq : List LX.Frame) (Hr : List (List Val)) (Gs : Int) (Gt : Int) (s : Int × List Int × List LX.Frame × List (List Val) × Int × Int) (ZG : Int × List Int × List LX.Frame × List (List Val) × Int × Int → Option Bool) : Option Bool :=
  match s with | (yU, Jm, Ko, Kq, Gu, Ht) => bif (decide ((0 : Int) < yU) && decide ((Gu : Int) = 0)) then (yT N a (⟨Ko, Kq, Gu, Ht⟩ : LX.State) (min yU 2000)).bind fun oP => bif (decide ((oP.2.2.2 : Int) ≠ 0) || decide ((oP.2.2.1 : Int) = 0)) then some false else gL (jN (yU - oP.2.2.1)) (gL (Room 8 Jm oP.2.1) (ZG ((yU - oP.2.2.1), (Jm ++ oP.2.1), oP.1.frames, oP.1.cells, oP.1.status, oP.1.aK))) else bif decide ((yU : Int) = 0) then (slices_Equal_int Jm Ho).bind fun zY => bif zY then (rJ N (⟨Ko, Kq, Gu, Ht⟩ : LX.State)).bind fun zZ => (rJ N (⟨Hq, Hr, Gs, Gt⟩ : LX.State)).bind fun yc => (EN zZ yc).bind fun yf => some yf else some false else some false
def nU (N : Nat) (a : List bN) (b : LX.State) (QB : Int) (Ho : List Int) (Hq : List LX.Frame) (Hr : List (List Val)) (Gs : Int) (Gt : Int) : Option Bool :=
  again (nT N a Ho Hq Hr Gs Gt) N (QB, [], b.frames, b.cells, b.status, b.aK)
def sV (N : Nat) (a : List bN) (b : LX.State) (WW : Int) (s : Int × List Int × List LX.Frame × List (List Val) × Int × Int) (ZH : Int × List Int × List LX.Frame × List (List Val) × Int × Int → Option Bool) : Option Bool :=
  match s with | (Dh, EO, Jn, Jo, Hu, Hw) => (qE WW 60).bind fun QC => (yT N a (⟨Jn, Jo, Hu, Hw⟩ : LX.State) QC).bind fun rz => bif (decide ((rz.2.2.2 : Int) ≠ 0) || decide ((QC : Int) < rz.2.2.1)) then some false else (rJ N rz.1).bind fun uK => gL (Room 8 EO rz.2.1) (gL (jN (Dh + rz.2.2.1)) ((uy a uK).bind fun y337 => bif decide ((y337 : Int) ≠ 0) then some false else bif decide ((uK.status : Int) ≠ 0) then nU N a b (Dh + rz.2.2.1) (EO ++ rz.2.1) uK.frames uK.cells uK.status uK.aK else ZH ((Dh + rz.2.2.1), (EO ++ rz.2.1), uK.frames, uK.cells, uK.status, uK.aK)))
def sW (N : Nat) (a : List bN) (b : LX.State) (s : Int × List Int × List LX.Frame × List (List Val) × Int × Int) : Option Bool :=
  match s with | (Dh, EO, Jn, Jo, Hu, Hw) => nU N a b Dh EO Jn Jo Hu Hw
def iK (N : Nat) (c : List Int) (a : List bN) (b : LX.State) (x2 : Bool) : Option Bool :=
  bif x2 then (pz N).bind fun y4 => some y4 else (sub? c 0 (min (c.length : Int) 30)).bind fun x91 => each (iI N a b) (iJ N a b) x91 (0, [], b.frames, b.cells, b.status, b.aK)
def rA (N : Nat) (a : List bN) (b : LX.State) (c : List Int) : Option Bool :=
  (pz N).bind fun YM => bif (!YM) then iK N c a b true else (uy a b).bind fun WX => iK N c a b (decide ((WX : Int) ≠ 0) || decide ((b.status : Int) ≠ 0))
end
end Go.Proofs.YtfclkapelkhlpaaGreatDoor
namespace Go.Proofs.YtfclkapelkhlpaaGreatDoor
open Go Go.Proofs Go.LX
noncomputable section
theorem Bt (N : Nat) (w0 : World) (M : BS) (hM : ∀ b, M b → b < w0.heap.size) (hT : vK Tryz.prog 4 w0) (va : Value) (a : List bN) (ha : fu jF w0 M va a) (b : LX.State) (vb0 vb1 : Value) (hb0 : gB dB w0 BE M vb0 b.frames) (hb1 : gB (mP bM) w0 BE M vb1 b.cells) (vc : Value) (c : List Int) (hc : gB dU w0 BE M vc c) (r : Bool) (hs : rA N a b c = some r) :
    Calls Tryz.prog 5 #[va, (.agg #[vb0, vb1, (I6 b.status), (I6 b.aK)]), vc] w0 (fun e w' => Grow w0 w' ∧ e = .returned (.bool r)) := by
 refine aN (args := [va, (.agg #[vb0, vb1, (I6 b.status), (I6 b.aK)]), vc]) Tryz.func5 rfl Tryz.ntmps5 (bD rfl) ?_
 have h := SH.init hM
 replace h := h.Y9 1 ha bC
 replace h := h.fw 2 hb0 (vJ bC)
 replace h := h.fw 3 hb1 (cZ (vJ bC))
 replace h := h.fw 4 hc (cZ (cZ (vJ bC)))
 have vR := ha.bV
 have hl_c := hc.bV
 refine nG (oW (cs := [vb0, vb1, (I6 b.status), (I6 b.aK)]) h 5 rfl rfl fun w b1 h => aa (ae (v := (.bool (false))) rfl) (nN (aP (bW (σ := Bool) (inl (rg 22 13)) (fun x2 => [(34, (.bool (x2)))]) (fun x2 w => SH w0 M BE w (hset [(1, .rd jF va a), (2, .sr dB vb0 b.frames), (3, .sr (mP bM) vb1 b.cells), (4, .sr dU vc c), (5, .blk b1 [vb0, vb1, (I6 b.status), (I6 b.aK)])]) ∧ iK N c a b x2 = some r) ?_ ?_))))
 rintro x2 w dx ⟨h, hs⟩
 refine aG hs rfl (fun c3 hs => ?_) (fun c3 hs => ?_)
 refine nG ?_
 obtain ⟨y4, e5, hs⟩ := aJ hs
 refine aS Vl rfl rfl (yH N _ _ h.lt (hT.go h.keep)  _ e5) ?_
 rintro _ w ⟨k6, rfl⟩
 refine ⟨_, rfl, ?_⟩
 replace h := h.grow k6
 refine aa (ae (v := (.bool (y4))) rfl) (nR (ay (bQ (v := (.bool (y4))) Tryz.results5 rfl ?_)))
 obtain rfl := fJ hs
 exact ⟨h.grown, rfl⟩
 refine nS (aa (ae (v := (I6 0)) rfl) (nN (aP (Ap mixed h fun w h => eP 0 (aI.refl BE _) rfl aj (by kernel_rfl) (by kernel_rfl) (by kernel_rfl) (fun w hk => have h := h.grow hk; cK (vs := [vb0, vb1, (I6 b.status), (I6 b.aK)]) h 5 rfl bE rfl rfl rfl) (eP 1 (aI.refl BE _) rfl aj (by kernel_rfl) (by kernel_rfl) (by kernel_rfl) (fun w hk => have h := h.grow hk; cK (vs := [vb0, vb1, (I6 b.status), (I6 b.aK)]) h 5 rfl bE rfl rfl rfl) ?_)))))
 obtain ⟨ws8, ws8e⟩ : ∃ x, x = w := ⟨_, rfl⟩
 have Fg : Grow ws8 w := ws8e ▸ aI.refl BE w
 refine En ws8e.symm (Rl 2 3 (by kernel_rfl) rfl aj rfl aj ?_ ?_)
 refine uS h 30 bE fun w oQ h Jp Jq => ?_
 have Jr : ws8.heap.size ≤ oQ := Nat.le_trans Fg.size Jq
 replace Fg := Fg.trans Jp
 refine az (iF Fg (kM 3 (by kernel_rfl) rfl aj (uS h 42 bE fun w xw h Js Jt => ?_)))
 have Ju : ws8.heap.size ≤ xw := Nat.le_trans Fg.size Jt
 replace Fg := Fg.trans Js
 refine az (iF Fg (kM 4 (by kernel_rfl) rfl aj (qY (vs := [vb0, vb1, (I6 b.status), (I6 b.aK)]) h 30 [vb0, vb1, (I6 b.status), (I6 b.aK)] rfl bE rfl rfl rfl rfl rfl (ai (h.Dr 2 rfl).one (ai (h.Dr 3 rfl).one (ai rfl (ai rfl aR)))) fun w h MW => ?_)))
 replace Fg := Fg.fresh MW (fun x hx => hx ▸ Jr)
 refine az (iF Fg (kM 5 (by kernel_rfl) rfl aj (qY (vs := [vb0, vb1, (I6 b.status), (I6 b.aK)]) h 42 [vb0, vb1, (I6 b.status), (I6 b.aK)] rfl bE rfl rfl rfl rfl rfl (ai (h.Dr 2 rfl).one (ai (h.Dr 3 rfl).one (ai rfl (ai rfl aR)))) fun w h MX => ?_)))
 replace Fg := Fg.fresh MX (fun x hx => hx ▸ Ju)
 refine az (iF Fg (qH (by kernel_rfl) (ak (nG (aa (ae (v := (.slice none 0 0)) rfl) (aa (ae (v := (.slice none 0 0)) rfl) (nN (bW (σ := Int × Value × List Int × Value × List LX.Frame × Value × List (List Val) × Int × Int) (inl ([6, 7, 11, 13, 14, 15, 16, 17] ++ rg 38 44)) (fun ⟨yu, v11, uf, v13, Hf, v15, UC, AR, Bz⟩ => [(7, (I6 yu)), (11, v11)]) (fun ⟨yu, v11, uf, v13, Hf, v15, UC, AR, Bz⟩ w => SH w0 M BE w (hset [(1, .rd jF va a), (2, .sr dB vb0 b.frames), (3, .sr (mP bM) vb1 b.cells), (30, .blk oQ [vb0, vb1, (I6 b.status), (I6 b.aK)]), (42, .blk xw [v13, v15, (I6 AR), (I6 Bz)]), (90, .sr dB v13 Hf), (91, .sr (mP bM) v15 UC), (100, .own dU 3 v11 uf)]) ∧ jr N a b yu uf Hf UC AR Bz = some r) ?_ ?_))))))))
 rintro ⟨yu, v11, uf, v13, Hf, v15, UC, AR, Bz⟩ w dx ⟨h, hs⟩
 refine aP (aO ?_)
 replace h := h.xC (R := dU) (E := 3) 110
 replace h := h.Bf 2 111 rfl
 replace h := h.Bf 3 112 rfl
 refine gF (σ := Nat × Int × Value × List Int × Value × List LX.Frame × Value × List (List Val) × Int × Int) (inl ([6, 7, 10, 18, 19, 20, 21] ++ rg 82 30)) (fun ⟨m58, Kn, v47, Jf, v49, wI, v51, yt, Dz, G9⟩ => [(7, (I6 Kn)), (10, v47)]) (fun ⟨m58, Kn, v47, Jf, v49, wI, v51, yt, Dz, G9⟩ w => SH w0 M BE w (hset [(1, .rd jF va a), (30, .blk oQ [v49, v51, (I6 Dz), (I6 G9)]), (42, .blk xw [v13, v15, (I6 AR), (I6 Bz)]), (90, .sr dB v13 Hf), (91, .sr (mP bM) v15 UC), (100, .own dU 3 v11 uf), (110, .own dU 3 v47 Jf), (111, .sr dB v49 wI), (112, .sr (mP bM) v51 yt)]) ∧ again (fe N a uf Hf UC AR Bz) m58 (Kn, Jf, wI, yt, Dz, G9) = some r) (fun ⟨m58, Kn, v47, Jf, v49, wI, v51, yt, Dz, G9⟩ => m58) ⟨N, yu, (.slice none 0 0), [], vb0, b.frames, vb1, b.cells, b.status, b.aK⟩ ⟨rfl, rfl, trivial⟩ ?_ ?_
 exact ⟨h.cn _, hs⟩
 rintro ⟨m58, Kn, v47, Jf, v49, wI, v51, yt, Dz, G9⟩ w dx ⟨h, hs⟩
 obtain ⟨m581, m58e, m58h⟩ := pG hs
 subst m58e
 replace hs := m58h
 generalize hnx59 : again (fe N a uf Hf UC AR Bz) m581 = nx59 at hs
 refine aP (nG (aa (ag (v := (I6 Kn)) rfl) (aa (jT rfl rfl) (aa (ag (v := (.bool (decide ((0 : Int) < Kn)))) rfl) (aA rfl rfl (fun q => ah lQ rfl) (aA rfl rfl (fun q => aB h 30 rfl aW (dz q) rfl) (aA rfl rfl (fun q => bz (dz q) rfl) (aa (fD rfl rfl lX) (nN (aG hs rfl (fun c62 hs => ?_) (fun c62 hs => ?_)))))))))))
 refine aF (ak (aO (nG (aa (ag (v := va) rfl) (aa (cK (vs := [v49, v51, (I6 Dz), (I6 G9)]) h 30 rfl bE rfl rfl rfl) (aa (ag (v := (I6 Kn)) rfl) (aa (Nn rfl rfl) ?_)))))))
 obtain ⟨Ba, e64, hs⟩ := aJ hs
 refine aS Dx rfl rfl (xZ N _ _ h.lt va a (h.fo 1 rfl) (⟨wI, yt, Dz, G9⟩ : LX.State) v49 v51 (h.gM 111 rfl) (h.gM 112 rfl) (min Kn 2000) _ e64) ?_
 rintro _ w ⟨k72, YL, u67, u69, rfl, g66, g68, g70, g71⟩
 refine ⟨_, rfl, ?_⟩
 replace h := h.jO 115 k72 g70 g71
 replace h := h.bX 113 g66.Rk
 replace h := h.bX 114 g68.Rk.up
 refine aa (ag (v := (.tuple #[(.agg #[YL, u67, (I6 Ba.1.status), (I6 Ba.1.aK)]), u69, (I6 Ba.2.2.1), (I6 Ba.2.2.2)])) rfl) (aa (aU rfl rfl) (aa (aU rfl rfl) (aa (aU rfl rfl) (aa (aU rfl rfl) (bU h 116 bE fun w b73 h => dm (vs := [YL, u67, (I6 Ba.1.status), (I6 Ba.1.aK)]) h 116 [YL, u67, (I6 Ba.1.status), (I6 Ba.1.aK)] rfl bE rfl rfl rfl rfl rfl (ai (h.fo 113 rfl).one (ai (h.fo 114 rfl).one (ai rfl (ai rfl aR)))) fun w h => aa (ae (v := u69) rfl) (aa (ae (v := (I6 Ba.2.2.1)) rfl) (aa (ae (v := (I6 Ba.2.2.2)) rfl) (nK (aa (ag (v := (I6 Ba.2.2.2)) rfl) (aa (gN rfl rfl) (aa (ag (v := (.bool (decide ((Ba.2.2.2 : Int) ≠ 0)))) rfl) (aA rfl rfl (fun q => ag (v := (I6 Ba.2.2.1)) rfl) (aA rfl rfl (fun q => bz (dz q) rfl) (aa (gW rfl rfl lX) (nN (aG hs rfl (fun c74 hs => ?_) (fun c74 hs => ?_)))))))))))))))))
 refine nG (aa (ae (v := (.bool (false))) rfl) (nR (ay (aD (ay (aD (ay (bQ (v := (.bool (false))) Tryz.results5 rfl ?_))))))))
 obtain rfl := fJ hs
 exact ⟨h.grown, rfl⟩
 refine aF (ak (ky (L := (fun b => ob v47 b ∨ b = oQ)) mixed h fun w h => bB 0 (aI.refl _ _) rfl aj (by kernel_rfl) (by kernel_rfl) (by kernel_rfl) (fun w hk => have h := h.BH 110 30 (by decide) rfl rfl hk; cK (vs := [YL, u67, (I6 Ba.1.status), (I6 Ba.1.aK)]) h 116 rfl bE rfl rfl rfl) (bB 1 (aI.refl _ _) rfl aj (by kernel_rfl) (by kernel_rfl) (by kernel_rfl) (fun w hk => ag (v := v47) rfl) (bB 2 (aI.refl _ _) rfl aj (by kernel_rfl) (by kernel_rfl) (by kernel_rfl) (fun w hk => ag (v := u69) rfl) (bB 4 (aI.refl _ _) rfl aj (by kernel_rfl) (by kernel_rfl) (by kernel_rfl) (fun w hk => ag (v := (I6 Kn)) rfl) (bB 5 (aI.refl _ _) rfl aj (by kernel_rfl) (by kernel_rfl) (by kernel_rfl) (fun w hk => ag (v := (I6 Ba.2.2.1)) rfl) ?_))))))
 obtain ⟨WY, hs⟩ := bg hs
 refine bB 6 (aI.refl _ _) rfl aj (by kernel_rfl) (by kernel_rfl) (by kernel_rfl) (fun w hk => mZ rfl rfl WY) ?_
 obtain ⟨ws82, ZI⟩ : ∃ x, x = w := ⟨_, rfl⟩
 have Kr : aI (fun b => ob v47 b ∨ b = oQ) ws82 w := ZI ▸ aI.refl (fun b => ob v47 b ∨ b = oQ) w
 refine qX ZI.symm (bF 3 (by kernel_rfl) rfl aj ?_)
 obtain ⟨Ox, hs⟩ := bg hs
 have uq81x3_2z := Kr.size
 refine mU (R := dU) (m := Ba.2.1) h 110 rfl (h.dV 115 rfl) jg rfl rfl rfl Ox.1 Ox.2 fun w Jv h TT TU => ?_
 have uq81x3_2q : ∀ b, ob Jv b → b < ws82.heap.size → ob v47 b := fun b hb hl => TU b hb (Nat.lt_of_lt_of_le hl (Kr).size)
 replace Kr := aI.step Kr TT (fun _ hx _ => .inl (hx))
 refine az (aQ Kr (bF 7 (by kernel_rfl) rfl aj (qY (vs := [YL, u67, (I6 Ba.1.status), (I6 Ba.1.aK)]) h 30 [YL, u67, (I6 Ba.1.status), (I6 Ba.1.aK)] rfl bE rfl rfl rfl rfl rfl (ai (h.fo 113 rfl).one (ai (h.fo 114 rfl).one (ai rfl (ai rfl aR)))) fun w h WZ => ?_)))
 replace Kr := aI.step Kr WZ (fun _ hx _ => .inr (hx))
 refine az (aQ Kr (cO 8 Kr rfl (by kernel_rfl) (fun w hk => ae (v := Jv) rfl) (cO 9 Kr rfl (by kernel_rfl) (fun w hk => ae (v := (I6 ((Kn - Ba.2.2.1)))) rfl) (fB (by kernel_rfl) (ax (au ?_))))))
 replace h := h.GX 113 111 rfl
 replace h := h.GX 114 112 rfl
 subst hnx59
 exact jV ⟨m581, (Kn - Ba.2.2.1), Jv, (Jf ++ Ba.2.1), YL, Ba.1.frames, u67, Ba.1.cells, Ba.1.status, Ba.1.aK⟩ ⟨h.cn _, hs⟩
 refine gV (bA (bA (dE (ak (aP (Ap mixed h fun w h => eP 0 (aI.refl BE _) rfl aj (by kernel_rfl) (by kernel_rfl) (by kernel_rfl) (fun w hk => ag (v := (I6 Kn)) rfl) (eP 1 (aI.refl BE _) rfl aj (by kernel_rfl) (by kernel_rfl) (by kernel_rfl) (fun w hk => bz rfl rfl) (eP 2 (aI.refl BE _) rfl aj (by kernel_rfl) (by kernel_rfl) (by kernel_rfl) (fun w hk => ag (v := (.bool (decide ((Kn : Int) = 0)))) rfl) (jf (b := decide ((Kn : Int) = 0)) hs (fun c85 hs => ?_) (fun c85 hs => ?_))))))))))
 refine eP 3 (aI.refl BE _) rfl (mQ rfl (cB c85)) (by kernel_rfl) (by kernel_rfl) (by kernel_rfl) (fun w hk => ag (v := v47) rfl) (eP 4 (aI.refl BE _) rfl (mQ rfl (cB c85)) (by kernel_rfl) (by kernel_rfl) (by kernel_rfl) (fun w hk => ag (v := v11) rfl) ?_)
 obtain ⟨ws86, Om⟩ : ∃ x, x = w := ⟨_, rfl⟩
 have tH : Grow ws86 w := Om ▸ aI.refl BE w
 refine En Om.symm (kM 5 (by kernel_rfl) rfl (mQ rfl (cB c85)) ?_)
 obtain ⟨Ci, W9, hs⟩ := aJ hs
 refine aS Mm rfl rfl (oO _ _ h.lt v47 Jf (h.dV 110 rfl) v11 uf (h.dV 100 rfl) _ W9) ?_
 rintro _ w ⟨Oy, rfl⟩
 refine ⟨_, rfl, ?_⟩
 replace h := h.grow Oy
 replace tH := tH.trans Oy
 refine az (iF tH (pJ 6 tH rfl (by kernel_rfl) (fun w hk => dn (b := true) (v := (.bool (Ci))) (cB c85) rfl) (pJ 7 tH rfl (by kernel_rfl) (fun w hk => ag (v := (.bool (Ci))) rfl) (jf (b := Ci) hs (fun Qv hs => ?_) (fun Qv hs => ?_)))))
 refine LU tH ?_
 obtain ⟨TV, QD⟩ : ∃ x, x = w := ⟨_, rfl⟩
 have hgq84x8_2 : Grow TV w := QD ▸ aI.refl _ _
 refine eP 8 (aI.refl BE _) rfl (mQ rfl (cB Qv)) (by kernel_rfl) (by kernel_rfl) (by kernel_rfl) (fun w hk => have h := h.grow hk; cK (vs := [v49, v51, (I6 Dz), (I6 G9)]) h 30 rfl bE rfl rfl rfl) (eP 10 (aI.refl BE _) rfl (mQ rfl (cB Qv)) (by kernel_rfl) (by kernel_rfl) (by kernel_rfl) (fun w hk => have h := h.grow hk; cK (vs := [v13, v15, (I6 AR), (I6 Bz)]) h 42 rfl bE rfl rfl rfl) ?_)
 obtain ⟨ws89, ZJ⟩ : ∃ x, x = w := ⟨_, rfl⟩
 have Jw : Grow ws89 w := ZJ ▸ aI.refl BE w
 refine En ZJ.symm (kM 9 (by kernel_rfl) rfl (mQ rfl (cB Qv)) ?_)
 obtain ⟨Cj, Xa, hs⟩ := aJ hs
 refine aS Dw rfl rfl (r9 N _ _ h.lt (⟨wI, yt, Dz, G9⟩ : LX.State) v49 v51 (h.gM 111 rfl) (h.gM 112 rfl) _ Xa) ?_
 rintro _ w ⟨Oz, OA, OB, TW, TY, rfl, Xb, Xc⟩
 refine ⟨_, rfl, ?_⟩
 replace h := h.Fx 357 (C := (cU OA OB Cj.frames TW Cj.cells TY)) Oz ⟨⟨⟨trivial, trivial⟩, trivial⟩, trivial⟩ Xb Xc
 replace h := h.bG 357 360 (by decide) rfl rfl
 replace h := h.bG 357 359 (by decide) rfl rfl
 replace h := h.bG 357 358 (by decide) rfl rfl
 replace Jw := Jw.trans Oz
 refine az (iF Jw (kM 11 (by kernel_rfl) rfl (mQ rfl (cB Qv)) ?_))
 obtain ⟨zW, TZ, hs⟩ := aJ hs
 refine aS Dw rfl rfl (r9 N _ _ h.lt (⟨Hf, UC, AR, Bz⟩ : LX.State) v13 v15 (h.gM 90 rfl) (h.gM 91 rfl) _ TZ) ?_
 rintro _ w ⟨Ld, Le, Lf, QE, QF, rfl, T9, Ua⟩
 refine ⟨_, rfl, ?_⟩
 replace h := h.Fx 381 (C := (cU Le Lf zW.frames QE zW.cells QF)) Ld ⟨⟨⟨trivial, trivial⟩, trivial⟩, trivial⟩ T9 Ua
 replace h := h.bG 381 384 (by decide) rfl rfl
 replace h := h.bG 381 383 (by decide) rfl rfl
 replace h := h.bG 381 382 (by decide) rfl rfl
 replace Jw := Jw.trans Ld
 refine az (iF Jw (kM 12 (by kernel_rfl) rfl (mQ rfl (cB Qv)) ?_))
 obtain ⟨zX, Ub, hs⟩ := aJ hs
 refine aS Vk rfl rfl (Lc _ BE (fun _ h => h.elim) Cj OA OB (h.rf (N := bR) (R' := dB) 357 358 rfl rfl (by decide) rfl j4) (h.rf (N := (ed Val)) (R' := (mP bM)) 359 360 rfl rfl (by decide) rfl p9) zW Le Lf (h.rf (N := bR) (R' := dB) 381 382 rfl rfl (by decide) rfl j4) (h.rf (N := (ed Val)) (R' := (mP bM)) 383 384 rfl rfl (by decide) rfl p9) _ Ub) ?_
 rintro _ w ⟨Lg, rfl⟩
 refine ⟨_, rfl, ?_⟩
 replace h := h.grow Lg
 replace Jw := Jw.trans Lg
 refine az (iF Jw (pJ 13 Jw rfl (by kernel_rfl) (fun w hk => dn (b := true) (v := (.bool (zX))) (cB Qv) rfl) (pJ 14 Jw rfl (by kernel_rfl) (fun w hk => ae (v := (.bool (zX))) rfl) (qH (by kernel_rfl) (ak (tK (bQ (v := (.bool (zX))) Tryz.results5 rfl ?_)))))))
 obtain rfl := fJ hs
 exact ⟨h.grown, rfl⟩
 refine iL 8 tH rfl (gH (b' := false) rfl (cB Qv) rfl) (by kernel_rfl) (by kernel_rfl) (by kernel_rfl) (iL 9 tH rfl (gH (b' := false) rfl (cB Qv) rfl) (by kernel_rfl) (by kernel_rfl) (by kernel_rfl) (iL 10 tH rfl (gH (b' := false) rfl (cB Qv) rfl) (by kernel_rfl) (by kernel_rfl) (by kernel_rfl) (iL 11 tH rfl (gH (b' := false) rfl (cB Qv) rfl) (by kernel_rfl) (by kernel_rfl) (by kernel_rfl) (iL 12 tH rfl (gH (b' := false) rfl (cB Qv) rfl) (by kernel_rfl) (by kernel_rfl) (by kernel_rfl) (pJ 13 tH rfl (by kernel_rfl) (fun w hk => dn (b := false) (v := (.bool (false))) (cB Qv) rfl) (pJ 14 tH rfl (by kernel_rfl) (fun w hk => ae (v := (.bool (false))) rfl) (qH (by kernel_rfl) (ak (tK (bQ (v := (.bool (false))) Tryz.results5 rfl ?_))))))))))
 obtain rfl := fJ hs
 exact ⟨h.grown, rfl⟩
 refine iL 3 (aI.refl BE _) rfl (gH (b' := false) rfl (cB c85) rfl) (by kernel_rfl) (by kernel_rfl) (by kernel_rfl) (iL 4 (aI.refl BE _) rfl (gH (b' := false) rfl (cB c85) rfl) (by kernel_rfl) (by kernel_rfl) (by kernel_rfl) (iL 5 (aI.refl BE _) rfl (gH (b' := false) rfl (cB c85) rfl) (by kernel_rfl) (by kernel_rfl) (by kernel_rfl) (eP 6 (aI.refl BE _) rfl aj (by kernel_rfl) (by kernel_rfl) (by kernel_rfl) (fun w hk => dn (b := false) (v := (.bool (false))) (cB c85) rfl) (eP 7 (aI.refl BE _) rfl aj (by kernel_rfl) (by kernel_rfl) (by kernel_rfl) (fun w hk => ag (v := (.bool (false))) rfl) (iL 8 (aI.refl BE _) rfl (gH (b' := false) rfl rfl rfl) (by kernel_rfl) (by kernel_rfl) (by kernel_rfl) (iL 9 (aI.refl BE _) rfl (gH (b' := false) rfl rfl rfl) (by kernel_rfl) (by kernel_rfl) (by kernel_rfl) (iL 10 (aI.refl BE _) rfl (gH (b' := false) rfl rfl rfl) (by kernel_rfl) (by kernel_rfl) (by kernel_rfl) (iL 11 (aI.refl BE _) rfl (gH (b' := false) rfl rfl rfl) (by kernel_rfl) (by kernel_rfl) (by kernel_rfl) (iL 12 (aI.refl BE _) rfl (gH (b' := false) rfl rfl rfl) (by kernel_rfl) (by kernel_rfl) (by kernel_rfl) (eP 13 (aI.refl BE _) rfl aj (by kernel_rfl) (by kernel_rfl) (by kernel_rfl) (fun w hk => dn (b := false) (v := (.bool (false))) rfl rfl) (eP 14 (aI.refl BE _) rfl aj (by kernel_rfl) (by kernel_rfl) (by kernel_rfl) (fun w hk => ae (v := (.bool (false))) rfl) (qH (by kernel_rfl) (ak (tK (bQ (v := (.bool (false))) Tryz.results5 rfl ?_)))))))))))))))
 obtain rfl := fJ hs
 exact ⟨h.grown, rfl⟩
 refine nG (aa (ag (v := vc) rfl) (aa (ag (v := vc) rfl) (aa (bS bY rfl (h.gM 4 rfl)) (aa (Nn rfl rfl) ?_))))
 obtain ⟨x91, e92, hs⟩ := aJ hs
 obtain ⟨e95, e95a, e95b, e95c⟩ := Ni e92
 obtain ⟨u93, h, i94⟩ := h.slS 4 441 rfl bY rfl e95a e95b e95c
 rw [← e95] at h
 refine aa (i94 _ _ _ _ _ _ _ _ _ _ rfl (.inl ⟨rfl, rfl⟩) (.inr (congrArg some rfl))) (aa (bS bY rfl (h.gM 441 rfl)) (aa (ag (v := (I6 0)) rfl) (nN (aO ?_))))
 replace h := h.xC (R := dU) (E := 3) 451
 replace h := h.Bf 2 452 rfl
 replace h := h.Bf 3 453 rfl
 refine gF (σ := Nat × Int × Int × Value × List Int × Value × List LX.Frame × Value × List (List Val) × Int × Int) (inl ([6, 7, 11, 13, 14, 15, 16, 17] ++ rg 44 38)) (fun ⟨OC, i133, Df, v124, uJ, OD, Jl, OE, wM, Hl, Hm⟩ => [(7, (I6 Df)), (11, v124), (44, (I6 i133))]) (fun ⟨OC, i133, Df, v124, uJ, OD, Jl, OE, wM, Hl, Hm⟩ w => SH w0 M BE w (hset [(1, .rd jF va a), (2, .sr dB vb0 b.frames), (3, .sr (mP bM) vb1 b.cells), (30, .blk oQ [vb0, vb1, (I6 b.status), (I6 b.aK)]), (42, .blk xw [OD, OE, (I6 Hl), (I6 Hm)]), (441, .sr dU u93 x91), (451, .own dU 3 v124 uJ), (452, .sr dB OD Jl), (453, .sr (mP bM) OE wM)]) ∧ i133 = (OC : Int) ∧ each (iI N a b) (iJ N a b) (x91.drop OC) (Df, uJ, Jl, wM, Hl, Hm) = some r) (fun ⟨OC, i133, Df, v124, uJ, OD, Jl, OE, wM, Hl, Hm⟩ => x91.length - OC) ⟨0, 0, 0, (.slice none 0 0), [], vb0, b.frames, vb1, b.cells, b.status, b.aK⟩ ⟨rfl, rfl, rfl, trivial⟩ ?_ ?_
 exact ⟨h.cn _, rfl, hs⟩
 rintro ⟨OC, i133, Df, v124, uJ, OD, Jl, OE, wM, Hl, Hm⟩ w dx ⟨h, hik, hs⟩
 refine nG ?_
 refine aa (dP rfl rfl) (nN ?_)
 refine aP (iE rfl (fun e137 => ?_) (fun e137 => ?_))
 refine aF (ak ?_)
 obtain ⟨WV, e138a, e138b⟩ := fV (hik ▸ e137)
 rw [e138b, dI] at hs
 generalize hnx136 : each (iI N a b) (iJ N a b) (x91.drop (OC + 1)) = ZF at hs
 have e138r := gp ((h.gM 441 rfl)).bV hik e137
 refine aP (aO (nG ?_))
 obtain ⟨b140, o141, cs142, h, r143, i139⟩ := h.zg 441 454 rfl bY rfl (iO hik) (gm hik e138a)
 obtain rfl := r143
 refine aa (i139 _ _ _ _ _ _ _ _ _ rfl rfl) (aa (dZ (k := 0) h 454 rfl aW rfl rfl) (aa (ae (v := (I6 WV)) rfl) (nJ (aa (ag (v := (I6 WV)) rfl) ?_))))
 obtain ⟨FR, e145, hs⟩ := aJ hs
 refine aS Vj rfl rfl (zV _ _ h.lt WV 60 _ e145) ?_
 rintro _ w ⟨k146, rfl⟩
 refine ⟨_, rfl, ?_⟩
 replace h := h.grow k146
 refine aa (ae (v := (I6 FR)) rfl) (nJ (aa (ag (v := va) rfl) (aa (cK (vs := [OD, OE, (I6 Hl), (I6 Hm)]) h 42 rfl bE rfl rfl rfl) (aa (ag (v := (I6 FR)) rfl) ?_))))
 obtain ⟨mJ, Oq, hs⟩ := aJ hs
 refine aS Dx rfl rfl (xZ N _ _ h.lt va a (h.fo 1 rfl) (⟨Jl, wM, Hl, Hm⟩ : LX.State) OD OE (h.gM 452 rfl) (h.gM 453 rfl) FR _ Oq) ?_
 rintro _ w ⟨k156, Xd, Xe, u153, rfl, g150, g152, g154, g155⟩
 refine ⟨_, rfl, ?_⟩
 replace h := h.jO 457 k156 g154 g155
 replace h := h.bX 455 g150.Rk
 replace h := h.bX 456 g152.Rk.up
 refine aa (ag (v := (.tuple #[(.agg #[Xd, Xe, (I6 mJ.1.status), (I6 mJ.1.aK)]), u153, (I6 mJ.2.2.1), (I6 mJ.2.2.2)])) rfl) (aa (aU rfl rfl) (aa (aU rfl rfl) (aa (aU rfl rfl) (aa (aU rfl rfl) (bU h 458 bE fun w b157 h => dm (vs := [Xd, Xe, (I6 mJ.1.status), (I6 mJ.1.aK)]) h 458 [Xd, Xe, (I6 mJ.1.status), (I6 mJ.1.aK)] rfl bE rfl rfl rfl rfl rfl (ai (h.fo 455 rfl).one (ai (h.fo 456 rfl).one (ai rfl (ai rfl aR)))) fun w h => aa (ae (v := u153) rfl) (aa (ae (v := (I6 mJ.2.2.1)) rfl) (aa (ae (v := (I6 mJ.2.2.2)) rfl) (nK (aa (ag (v := (I6 mJ.2.2.2)) rfl) (aa (gN rfl rfl) (aa (ag (v := (.bool (decide ((mJ.2.2.2 : Int) ≠ 0)))) rfl) (aA rfl rfl (fun q => ag (v := (I6 mJ.2.2.1)) rfl) (aA rfl rfl (fun q => ag (v := (I6 FR)) rfl) (aA rfl rfl (fun q => jT (dz q) (dz q)) (aa (gW rfl rfl lX) (nN ?_))))))))))))))))
 refine aG hs rfl (fun c158 hs => ?_) (fun c158 hs => ?_)
 refine nG (aa (ae (v := (.bool (false))) rfl) (nR (ay (aD (ay (ay (aD (ay (bQ (v := (.bool (false))) Tryz.results5 rfl ?_)))))))))
 obtain rfl := fJ hs
 exact ⟨h.grown, rfl⟩
 refine nS (aa (cK (vs := [Xd, Xe, (I6 mJ.1.status), (I6 mJ.1.aK)]) h 458 rfl bE rfl rfl rfl) ?_)
 obtain ⟨y159, e160, hs⟩ := aJ hs
 refine aS Dw rfl rfl (r9 N _ _ h.lt mJ.1 Xd Xe (h.mM 455 rfl) (h.mM 456 rfl) _ e160) ?_
 rintro _ w ⟨k167, QG, QH, us162, us164, rfl, h165, h166⟩
 refine ⟨_, rfl, ?_⟩
 replace h := h.Fx 459 (C := (cU QG QH y159.frames us162 y159.cells us164)) k167 ⟨⟨⟨trivial, trivial⟩, trivial⟩, trivial⟩ h165 h166
 replace h := h.bG 459 462 (by decide) rfl rfl
 replace h := h.bG 459 461 (by decide) rfl rfl
 replace h := h.bG 459 460 (by decide) rfl rfl
 refine aa (ag (v := v124) rfl) (aa (ag (v := u153) rfl) ?_)
 obtain ⟨a168, hs⟩ := bg hs
 refine mo (R := dU) (m := mJ.2.1) h 451 rfl (h.dV 457 rfl) jg rfl rfl rfl a168.1 a168.2 fun w u169 h => aa (ag (v := (I6 Df)) rfl) (aa (ag (v := (I6 mJ.2.2.1)) rfl) ?_)
 obtain ⟨a170, hs⟩ := bg hs
 refine aa (dw rfl rfl a170) (dm (vs := [QG, QH, (I6 y159.status), (I6 y159.aK)]) h 42 [QG, QH, (I6 y159.status), (I6 y159.aK)] rfl bE rfl rfl rfl rfl rfl (ai (h.dD 459 rfl).one (ai (h.dD 461 rfl).one (ai rfl (ai rfl aR)))) fun w h => aa (ae (v := u169) rfl) (aa (ae (v := (I6 ((Df + mJ.2.2.1)))) rfl) (nK (aa (ag (v := va) rfl) (aa (cK (vs := [QG, QH, (I6 y159.status), (I6 y159.aK)]) h 42 rfl bE rfl rfl rfl) ?_)))))
 obtain ⟨y171, e172, hs⟩ := aJ hs
 refine aS FB rfl rfl (uU _ BE (fun _ h => h.elim) va a (gB.aah (h.fo 1 rfl)) y159 QG QH (h.rf (N := bR) (R' := dB) 459 460 rfl rfl (by decide) rfl j4) (h.rf (N := (ed Val)) (R' := (mP bM)) 461 462 rfl rfl (by decide) rfl p9) _ e172) ?_
 rintro _ w ⟨k173, rfl⟩
 refine ⟨_, rfl, ?_⟩
 replace h := h.grow k173
 refine aa (gN rfl rfl) (nN (aG hs rfl (fun c174 hs => ?_) (fun c174 hs => ?_)))
 refine nG (aa (ae (v := (.bool (false))) rfl) (nR (ay (aD (ay (ay (aD (ay (bQ (v := (.bool (false))) Tryz.results5 rfl ?_)))))))))
 obtain rfl := fJ hs
 exact ⟨h.grown, rfl⟩
 refine nS (aa (ah lQ rfl) (aa (aB h 42 rfl aW rfl rfl) (aa (gN rfl rfl) (nN (aG hs rfl (fun c175 hs => ?_) (fun c175 hs => ?_))))))
 refine gV (rW (by decide) (bA (bA (dE (au ?_)))))
 replace h := h.zi 451 100 rfl rfl (by decide)
 replace h := h.ny (N := bR) (R' := dB) 459 460 rfl rfl (by decide) rfl j4
 replace h := h.GX 459 90 rfl
 replace h := h.ny (N := (ed Val)) (R' := (mP bM)) 461 462 rfl rfl (by decide) rfl p9
 replace h := h.GX 461 91 rfl
 exact bP ((Df + mJ.2.2.1), u169, (uJ ++ mJ.2.1), QG, y159.frames, QH, y159.cells, y159.status, y159.aK) ⟨h.cn _, hs⟩
 refine aF (ax (ak (aC (aa (dw rfl rfl e138r) (aa (ag (v := (I6 ((i133 + 1)))) rfl) (az (au ?_)))))))
 replace h := h.ny (N := bR) (R' := dB) 459 460 rfl rfl (by decide) rfl j4
 replace h := h.GX 459 452 rfl
 replace h := h.ny (N := (ed Val)) (R' := (mP bM)) 461 462 rfl rfl (by decide) rfl p9
 replace h := h.GX 461 453 rfl
 subst hnx136
 exact jV ⟨OC + 1, i133 + 1, (Df + mJ.2.2.1), u169, (uJ ++ mJ.2.1), QG, y159.frames, QH, y159.cells, y159.status, y159.aK⟩ ⟨h.cn _, by omega, hs⟩ (by have := rq e137; dsimp only; omega)
 rw [fZ (hik ▸ e137), gG] at hs
 refine gV (bA (bA (dE (au ?_))))
 replace h := h.zi 451 100 rfl rfl (by decide)
 replace h := h.Bf 452 90 rfl
 replace h := h.Bf 453 91 rfl
 exact bP (Df, v124, uJ, OD, Jl, OE, wM, Hl, Hm) ⟨h.cn _, hs⟩
 refine uS h 42 bE fun w xw h Js Jt => ?_
 have Ju : ws8.heap.size ≤ xw := Nat.le_trans Fg.size Jt
 replace Fg := Fg.trans Js
 refine az (iF Fg (kM 2 (by kernel_rfl) rfl aj (uS h 30 bE fun w oQ h Jp Jq => ?_)))
 have Jr : ws8.heap.size ≤ oQ := Nat.le_trans Fg.size Jq
 replace Fg := Fg.trans Jp
 refine az (iF Fg (kM 4 (by kernel_rfl) rfl aj (qY (vs := [vb0, vb1, (I6 b.status), (I6 b.aK)]) h 30 [vb0, vb1, (I6 b.status), (I6 b.aK)] rfl bE rfl rfl rfl rfl rfl (ai (h.Dr 2 rfl).one (ai (h.Dr 3 rfl).one (ai rfl (ai rfl aR)))) fun w h MW => ?_)))
 replace Fg := Fg.fresh MW (fun x hx => hx ▸ Jr)
 refine az (iF Fg (kM 5 (by kernel_rfl) rfl aj (qY (vs := [vb0, vb1, (I6 b.status), (I6 b.aK)]) h 42 [vb0, vb1, (I6 b.status), (I6 b.aK)] rfl bE rfl rfl rfl rfl rfl (ai (h.Dr 2 rfl).one (ai (h.Dr 3 rfl).one (ai rfl (ai rfl aR)))) fun w h MX => ?_)))
 replace Fg := Fg.fresh MX (fun x hx => hx ▸ Ju)
 refine az (iF Fg (qH (by kernel_rfl) (ak (nG (aa (ae (v := (.slice none 0 0)) rfl) (aa (ae (v := (.slice none 0 0)) rfl) (nN (bW (σ := Int × Value × List Int × Value × List LX.Frame × Value × List (List Val) × Int × Int) (inl ([6, 7, 11, 13, 14, 15, 16, 17] ++ rg 38 44)) (fun ⟨QB, QI, Ho, OG, Hq, OH, Hr, Gs, Gt⟩ => [(7, (I6 QB)), (11, QI)]) (fun ⟨QB, QI, Ho, OG, Hq, OH, Hr, Gs, Gt⟩ w => SH w0 M BE w (hset [(1, .rd jF va a), (2, .sr dB vb0 b.frames), (3, .sr (mP bM) vb1 b.cells), (30, .blk oQ [vb0, vb1, (I6 b.status), (I6 b.aK)]), (42, .blk xw [OG, OH, (I6 Gs), (I6 Gt)]), (463, .sr dB OG Hq), (464, .sr (mP bM) OH Hr), (473, .own dU 3 QI Ho)]) ∧ nU N a b QB Ho Hq Hr Gs Gt = some r) ?_ ?_))))))))
 rintro ⟨QB, QI, Ho, OG, Hq, OH, Hr, Gs, Gt⟩ w dx ⟨h, hs⟩
 refine aP (aO ?_)
 replace h := h.xC (R := dU) (E := 3) 483
 replace h := h.Bf 2 484 rfl
 replace h := h.Bf 3 485 rfl
 refine gF (σ := Nat × Int × Value × List Int × Value × List LX.Frame × Value × List (List Val) × Int × Int) (inl ([6, 7, 10, 18, 19, 20, 21] ++ rg 82 30)) (fun ⟨Xf, yU, Hy, Jm, MZ, Ko, M0, Kq, Gu, Ht⟩ => [(7, (I6 yU)), (10, Hy)]) (fun ⟨Xf, yU, Hy, Jm, MZ, Ko, M0, Kq, Gu, Ht⟩ w => SH w0 M BE w (hset [(1, .rd jF va a), (30, .blk oQ [MZ, M0, (I6 Gu), (I6 Ht)]), (42, .blk xw [OG, OH, (I6 Gs), (I6 Gt)]), (463, .sr dB OG Hq), (464, .sr (mP bM) OH Hr), (473, .own dU 3 QI Ho), (483, .own dU 3 Hy Jm), (484, .sr dB MZ Ko), (485, .sr (mP bM) M0 Kq)]) ∧ again (nT N a Ho Hq Hr Gs Gt) Xf (yU, Jm, Ko, Kq, Gu, Ht) = some r) (fun ⟨Xf, yU, Hy, Jm, MZ, Ko, M0, Kq, Gu, Ht⟩ => Xf) ⟨N, QB, (.slice none 0 0), [], vb0, b.frames, vb1, b.cells, b.status, b.aK⟩ ⟨rfl, rfl, trivial⟩ ?_ ?_
 exact ⟨h.cn _, hs⟩
 rintro ⟨Xf, yU, Hy, Jm, MZ, Ko, M0, Kq, Gu, Ht⟩ w dx ⟨h, hs⟩
 obtain ⟨ZK, m224e, m224h⟩ := pG hs
 subst m224e
 replace hs := m224h
 generalize hnx225 : again (nT N a Ho Hq Hr Gs Gt) ZK = ZG at hs
 refine aP (nG (aa (ag (v := (I6 yU)) rfl) (aa (jT rfl rfl) (aa (ag (v := (.bool (decide ((0 : Int) < yU)))) rfl) (aA rfl rfl (fun q => ah lQ rfl) (aA rfl rfl (fun q => aB h 30 rfl aW (dz q) rfl) (aA rfl rfl (fun q => bz (dz q) rfl) (aa (fD rfl rfl lX) (nN (aG hs rfl (fun c228 hs => ?_) (fun c228 hs => ?_)))))))))))
 refine aF (ak (aO (nG (aa (ag (v := va) rfl) (aa (cK (vs := [MZ, M0, (I6 Gu), (I6 Ht)]) h 30 rfl bE rfl rfl rfl) (aa (ag (v := (I6 yU)) rfl) (aa (Nn rfl rfl) ?_)))))))
 obtain ⟨oP, e230, hs⟩ := aJ hs
 refine aS Dx rfl rfl (xZ N _ _ h.lt va a (h.fo 1 rfl) (⟨Ko, Kq, Gu, Ht⟩ : LX.State) MZ M0 (h.gM 484 rfl) (h.gM 485 rfl) (min yU 2000) _ e230) ?_
 rintro _ w ⟨k238, QJ, QK, u235, rfl, g232, g234, g236, g237⟩
 refine ⟨_, rfl, ?_⟩
 replace h := h.jO 488 k238 g236 g237
 replace h := h.bX 486 g232.Rk
 replace h := h.bX 487 g234.Rk.up
 refine aa (ag (v := (.tuple #[(.agg #[QJ, QK, (I6 oP.1.status), (I6 oP.1.aK)]), u235, (I6 oP.2.2.1), (I6 oP.2.2.2)])) rfl) (aa (aU rfl rfl) (aa (aU rfl rfl) (aa (aU rfl rfl) (aa (aU rfl rfl) (bU h 489 bE fun w b239 h => dm (vs := [QJ, QK, (I6 oP.1.status), (I6 oP.1.aK)]) h 489 [QJ, QK, (I6 oP.1.status), (I6 oP.1.aK)] rfl bE rfl rfl rfl rfl rfl (ai (h.fo 486 rfl).one (ai (h.fo 487 rfl).one (ai rfl (ai rfl aR)))) fun w h => aa (ae (v := u235) rfl) (aa (ae (v := (I6 oP.2.2.1)) rfl) (aa (ae (v := (I6 oP.2.2.2)) rfl) (nK (aa (ag (v := (I6 oP.2.2.2)) rfl) (aa (gN rfl rfl) (aa (ag (v := (.bool (decide ((oP.2.2.2 : Int) ≠ 0)))) rfl) (aA rfl rfl (fun q => ag (v := (I6 oP.2.2.1)) rfl) (aA rfl rfl (fun q => bz (dz q) rfl) (aa (gW rfl rfl lX) (nN (aG hs rfl (fun c240 hs => ?_) (fun c240 hs => ?_)))))))))))))))))
 refine nG (aa (ae (v := (.bool (false))) rfl) (nR (ay (aD (ay (aD (ay (bQ (v := (.bool (false))) Tryz.results5 rfl ?_))))))))
 obtain rfl := fJ hs
 exact ⟨h.grown, rfl⟩
 refine aF (ak (ky (L := (fun b => ob Hy b ∨ b = oQ)) mixed h fun w h => bB 0 (aI.refl _ _) rfl aj (by kernel_rfl) (by kernel_rfl) (by kernel_rfl) (fun w hk => have h := h.BH 483 30 (by decide) rfl rfl hk; cK (vs := [QJ, QK, (I6 oP.1.status), (I6 oP.1.aK)]) h 489 rfl bE rfl rfl rfl) (bB 1 (aI.refl _ _) rfl aj (by kernel_rfl) (by kernel_rfl) (by kernel_rfl) (fun w hk => ag (v := Hy) rfl) (bB 2 (aI.refl _ _) rfl aj (by kernel_rfl) (by kernel_rfl) (by kernel_rfl) (fun w hk => ag (v := u235) rfl) (bB 4 (aI.refl _ _) rfl aj (by kernel_rfl) (by kernel_rfl) (by kernel_rfl) (fun w hk => ag (v := (I6 yU)) rfl) (bB 5 (aI.refl _ _) rfl aj (by kernel_rfl) (by kernel_rfl) (by kernel_rfl) (fun w hk => ag (v := (I6 oP.2.2.1)) rfl) ?_))))))
 obtain ⟨Uc, hs⟩ := bg hs
 refine bB 6 (aI.refl _ _) rfl aj (by kernel_rfl) (by kernel_rfl) (by kernel_rfl) (fun w hk => mZ rfl rfl Uc) ?_
 obtain ⟨ZL, Xg⟩ : ∃ x, x = w := ⟨_, rfl⟩
 have Dp : aI (fun b => ob Hy b ∨ b = oQ) ZL w := Xg ▸ aI.refl (fun b => ob Hy b ∨ b = oQ) w
 refine qX Xg.symm (bF 3 (by kernel_rfl) rfl aj ?_)
 obtain ⟨Lh, hs⟩ := bg hs
 have uq247x3_2z := Dp.size
 refine mU (R := dU) (m := oP.2.1) h 483 rfl (h.dV 488 rfl) jg rfl rfl rfl Lh.1 Lh.2 fun w Gv h QL QM => ?_
 have uq247x3_2q : ∀ b, ob Gv b → b < ZL.heap.size → ob Hy b := fun b hb hl => QM b hb (Nat.lt_of_lt_of_le hl (Dp).size)
 replace Dp := aI.step Dp QL (fun _ hx _ => .inl (hx))
 refine az (aQ Dp (bF 7 (by kernel_rfl) rfl aj (qY (vs := [QJ, QK, (I6 oP.1.status), (I6 oP.1.aK)]) h 30 [QJ, QK, (I6 oP.1.status), (I6 oP.1.aK)] rfl bE rfl rfl rfl rfl rfl (ai (h.fo 486 rfl).one (ai (h.fo 487 rfl).one (ai rfl (ai rfl aR)))) fun w h Ud => ?_)))
 replace Dp := aI.step Dp Ud (fun _ hx _ => .inr (hx))
 refine az (aQ Dp (cO 8 Dp rfl (by kernel_rfl) (fun w hk => ae (v := Gv) rfl) (cO 9 Dp rfl (by kernel_rfl) (fun w hk => ae (v := (I6 ((yU - oP.2.2.1)))) rfl) (fB (by kernel_rfl) (ax (au ?_))))))
 replace h := h.GX 486 484 rfl
 replace h := h.GX 487 485 rfl
 subst hnx225
 exact jV ⟨ZK, (yU - oP.2.2.1), Gv, (Jm ++ oP.2.1), QJ, oP.1.frames, QK, oP.1.cells, oP.1.status, oP.1.aK⟩ ⟨h.cn _, hs⟩
 refine gV (bA (bA (dE (ak (aP (Ap mixed h fun w h => eP 0 (aI.refl BE _) rfl aj (by kernel_rfl) (by kernel_rfl) (by kernel_rfl) (fun w hk => ag (v := (I6 yU)) rfl) (eP 1 (aI.refl BE _) rfl aj (by kernel_rfl) (by kernel_rfl) (by kernel_rfl) (fun w hk => bz rfl rfl) (eP 2 (aI.refl BE _) rfl aj (by kernel_rfl) (by kernel_rfl) (by kernel_rfl) (fun w hk => ag (v := (.bool (decide ((yU : Int) = 0)))) rfl) (jf (b := decide ((yU : Int) = 0)) hs (fun M3 hs => ?_) (fun M3 hs => ?_))))))))))
 refine eP 3 (aI.refl BE _) rfl (mQ rfl (cB M3)) (by kernel_rfl) (by kernel_rfl) (by kernel_rfl) (fun w hk => ag (v := Hy) rfl) (eP 4 (aI.refl BE _) rfl (mQ rfl (cB M3)) (by kernel_rfl) (by kernel_rfl) (by kernel_rfl) (fun w hk => ag (v := QI) rfl) ?_)
 obtain ⟨ws252, Xh⟩ : ∃ x, x = w := ⟨_, rfl⟩
 have z8 : Grow ws252 w := Xh ▸ aI.refl BE w
 refine En Xh.symm (kM 5 (by kernel_rfl) rfl (mQ rfl (cB M3)) ?_)
 obtain ⟨zY, Ue, hs⟩ := aJ hs
 refine aS Mm rfl rfl (oO _ _ h.lt Hy Jm (h.dV 483 rfl) QI Ho (h.dV 473 rfl) _ Ue) ?_
 rintro _ w ⟨Li, rfl⟩
 refine ⟨_, rfl, ?_⟩
 replace h := h.grow Li
 replace z8 := z8.trans Li
 refine az (iF z8 (pJ 6 z8 rfl (by kernel_rfl) (fun w hk => dn (b := true) (v := (.bool (zY))) (cB M3) rfl) (pJ 7 z8 rfl (by kernel_rfl) (fun w hk => ag (v := (.bool (zY))) rfl) (jf (b := zY) hs (fun Gw hs => ?_) (fun Gw hs => ?_)))))
 refine LU z8 ?_
 obtain ⟨QN, OI⟩ : ∃ x, x = w := ⟨_, rfl⟩
 have hgq250x8_2 : Grow QN w := OI ▸ aI.refl _ _
 refine eP 8 (aI.refl BE _) rfl (mQ rfl (cB Gw)) (by kernel_rfl) (by kernel_rfl) (by kernel_rfl) (fun w hk => have h := h.grow hk; cK (vs := [MZ, M0, (I6 Gu), (I6 Ht)]) h 30 rfl bE rfl rfl rfl) (eP 10 (aI.refl BE _) rfl (mQ rfl (cB Gw)) (by kernel_rfl) (by kernel_rfl) (by kernel_rfl) (fun w hk => have h := h.grow hk; cK (vs := [OG, OH, (I6 Gs), (I6 Gt)]) h 42 rfl bE rfl rfl rfl) ?_)
 obtain ⟨ws255, Xi⟩ : ∃ x, x = w := ⟨_, rfl⟩
 have Ck : Grow ws255 w := Xi ▸ aI.refl BE w
 refine En Xi.symm (kM 9 (by kernel_rfl) rfl (mQ rfl (cB Gw)) ?_)
 obtain ⟨zZ, Uf, hs⟩ := aJ hs
 refine aS Dw rfl rfl (r9 N _ _ h.lt (⟨Ko, Kq, Gu, Ht⟩ : LX.State) MZ M0 (h.gM 484 rfl) (h.gM 485 rfl) _ Uf) ?_
 rintro _ w ⟨Lj, Ll, Lm, QO, QP, rfl, Ug, Uh⟩
 refine ⟨_, rfl, ?_⟩
 replace h := h.Fx 730 (C := (cU Ll Lm zZ.frames QO zZ.cells QP)) Lj ⟨⟨⟨trivial, trivial⟩, trivial⟩, trivial⟩ Ug Uh
 replace h := h.bG 730 733 (by decide) rfl rfl
 replace h := h.bG 730 732 (by decide) rfl rfl
 replace h := h.bG 730 731 (by decide) rfl rfl
 replace Ck := Ck.trans Lj
 refine az (iF Ck (kM 11 (by kernel_rfl) rfl (mQ rfl (cB Gw)) ?_))
 obtain ⟨yc, QQ, hs⟩ := aJ hs
 refine aS Dw rfl rfl (r9 N _ _ h.lt (⟨Hq, Hr, Gs, Gt⟩ : LX.State) OG OH (h.gM 463 rfl) (h.gM 464 rfl) _ QQ) ?_
 rintro _ w ⟨Jy, Jz, JA, OJ, OL, rfl, QR, QS⟩
 refine ⟨_, rfl, ?_⟩
 replace h := h.Fx 754 (C := (cU Jz JA yc.frames OJ yc.cells OL)) Jy ⟨⟨⟨trivial, trivial⟩, trivial⟩, trivial⟩ QR QS
 replace h := h.bG 754 757 (by decide) rfl rfl
 replace h := h.bG 754 756 (by decide) rfl rfl
 replace h := h.bG 754 755 (by decide) rfl rfl
 replace Ck := Ck.trans Jy
 refine az (iF Ck (kM 12 (by kernel_rfl) rfl (mQ rfl (cB Gw)) ?_))
 obtain ⟨yf, QT, hs⟩ := aJ hs
 refine aS Vk rfl rfl (Lc _ BE (fun _ h => h.elim) zZ Ll Lm (h.rf (N := bR) (R' := dB) 730 731 rfl rfl (by decide) rfl j4) (h.rf (N := (ed Val)) (R' := (mP bM)) 732 733 rfl rfl (by decide) rfl p9) yc Jz JA (h.rf (N := bR) (R' := dB) 754 755 rfl rfl (by decide) rfl j4) (h.rf (N := (ed Val)) (R' := (mP bM)) 756 757 rfl rfl (by decide) rfl p9) _ QT) ?_
 rintro _ w ⟨JB, rfl⟩
 refine ⟨_, rfl, ?_⟩
 replace h := h.grow JB
 replace Ck := Ck.trans JB
 refine az (iF Ck (pJ 13 Ck rfl (by kernel_rfl) (fun w hk => dn (b := true) (v := (.bool (yf))) (cB Gw) rfl) (pJ 14 Ck rfl (by kernel_rfl) (fun w hk => ae (v := (.bool (yf))) rfl) (qH (by kernel_rfl) (ak (tK (bQ (v := (.bool (yf))) Tryz.results5 rfl ?_)))))))
 obtain rfl := fJ hs
 exact ⟨h.grown, rfl⟩
 refine iL 8 z8 rfl (gH (b' := false) rfl (cB Gw) rfl) (by kernel_rfl) (by kernel_rfl) (by kernel_rfl) (iL 9 z8 rfl (gH (b' := false) rfl (cB Gw) rfl) (by kernel_rfl) (by kernel_rfl) (by kernel_rfl) (iL 10 z8 rfl (gH (b' := false) rfl (cB Gw) rfl) (by kernel_rfl) (by kernel_rfl) (by kernel_rfl) (iL 11 z8 rfl (gH (b' := false) rfl (cB Gw) rfl) (by kernel_rfl) (by kernel_rfl) (by kernel_rfl) (iL 12 z8 rfl (gH (b' := false) rfl (cB Gw) rfl) (by kernel_rfl) (by kernel_rfl) (by kernel_rfl) (pJ 13 z8 rfl (by kernel_rfl) (fun w hk => dn (b := false) (v := (.bool (false))) (cB Gw) rfl) (pJ 14 z8 rfl (by kernel_rfl) (fun w hk => ae (v := (.bool (false))) rfl) (qH (by kernel_rfl) (ak (tK (bQ (v := (.bool (false))) Tryz.results5 rfl ?_))))))))))
 obtain rfl := fJ hs
 exact ⟨h.grown, rfl⟩
 refine iL 3 (aI.refl BE _) rfl (gH (b' := false) rfl (cB M3) rfl) (by kernel_rfl) (by kernel_rfl) (by kernel_rfl) (iL 4 (aI.refl BE _) rfl (gH (b' := false) rfl (cB M3) rfl) (by kernel_rfl) (by kernel_rfl) (by kernel_rfl) (iL 5 (aI.refl BE _) rfl (gH (b' := false) rfl (cB M3) rfl) (by kernel_rfl) (by kernel_rfl) (by kernel_rfl) (eP 6 (aI.refl BE _) rfl aj (by kernel_rfl) (by kernel_rfl) (by kernel_rfl) (fun w hk => dn (b := false) (v := (.bool (false))) (cB M3) rfl) (eP 7 (aI.refl BE _) rfl aj (by kernel_rfl) (by kernel_rfl) (by kernel_rfl) (fun w hk => ag (v := (.bool (false))) rfl) (iL 8 (aI.refl BE _) rfl (gH (b' := false) rfl rfl rfl) (by kernel_rfl) (by kernel_rfl) (by kernel_rfl) (iL 9 (aI.refl BE _) rfl (gH (b' := false) rfl rfl rfl) (by kernel_rfl) (by kernel_rfl) (by kernel_rfl) (iL 10 (aI.refl BE _) rfl (gH (b' := false) rfl rfl rfl) (by kernel_rfl) (by kernel_rfl) (by kernel_rfl) (iL 11 (aI.refl BE _) rfl (gH (b' := false) rfl rfl rfl) (by kernel_rfl) (by kernel_rfl) (by kernel_rfl) (iL 12 (aI.refl BE _) rfl (gH (b' := false) rfl rfl rfl) (by kernel_rfl) (by kernel_rfl) (by kernel_rfl) (eP 13 (aI.refl BE _) rfl aj (by kernel_rfl) (by kernel_rfl) (by kernel_rfl) (fun w hk => dn (b := false) (v := (.bool (false))) rfl rfl) (eP 14 (aI.refl BE _) rfl aj (by kernel_rfl) (by kernel_rfl) (by kernel_rfl) (fun w hk => ae (v := (.bool (false))) rfl) (qH (by kernel_rfl) (ak (tK (bQ (v := (.bool (false))) Tryz.results5 rfl ?_)))))))))))))))
 obtain rfl := fJ hs
 exact ⟨h.grown, rfl⟩
 refine nG (aa (ag (v := vc) rfl) (aa (ag (v := vc) rfl) (aa (bS bY rfl (h.gM 4 rfl)) (aa (Nn rfl rfl) ?_))))
 obtain ⟨YN, e258, hs⟩ := aJ hs
 obtain ⟨e261, e261a, e261b, e261c⟩ := Ni e258
 obtain ⟨u259, h, i260⟩ := h.slS 4 814 rfl bY rfl e261a e261b e261c
 rw [← e261] at h
 refine aa (i260 _ _ _ _ _ _ _ _ _ _ rfl (.inl ⟨rfl, rfl⟩) (.inr (congrArg some rfl))) (aa (bS bY rfl (h.gM 814 rfl)) (aa (ag (v := (I6 0)) rfl) (nN (aO ?_))))
 replace h := h.xC (R := dU) (E := 3) 824
 replace h := h.Bf 2 825 rfl
 replace h := h.Bf 3 826 rfl
 refine gF (σ := Nat × Int × Int × Value × List Int × Value × List LX.Frame × Value × List (List Val) × Int × Int) (inl ([6, 7, 11, 13, 14, 15, 16, 17] ++ rg 44 38)) (fun ⟨OM, QU, Dh, QV, EO, OO, Jn, OP, Jo, Hu, Hw⟩ => [(7, (I6 Dh)), (11, QV), (44, (I6 QU))]) (fun ⟨OM, QU, Dh, QV, EO, OO, Jn, OP, Jo, Hu, Hw⟩ w => SH w0 M BE w (hset [(1, .rd jF va a), (2, .sr dB vb0 b.frames), (3, .sr (mP bM) vb1 b.cells), (30, .blk oQ [vb0, vb1, (I6 b.status), (I6 b.aK)]), (42, .blk xw [OO, OP, (I6 Hu), (I6 Hw)]), (814, .sr dU u259 YN), (824, .own dU 3 QV EO), (825, .sr dB OO Jn), (826, .sr (mP bM) OP Jo)]) ∧ QU = (OM : Int) ∧ each (sV N a b) (sW N a b) (YN.drop OM) (Dh, EO, Jn, Jo, Hu, Hw) = some r) (fun ⟨OM, QU, Dh, QV, EO, OO, Jn, OP, Jo, Hu, Hw⟩ => YN.length - OM) ⟨0, 0, 0, (.slice none 0 0), [], vb0, b.frames, vb1, b.cells, b.status, b.aK⟩ ⟨rfl, rfl, rfl, trivial⟩ ?_ ?_
 exact ⟨h.cn _, rfl, hs⟩
 rintro ⟨OM, QU, Dh, QV, EO, OO, Jn, OP, Jo, Hu, Hw⟩ w dx ⟨h, hik, hs⟩
 refine nG ?_
 refine aa (dP rfl rfl) (nN ?_)
 refine aP (iE rfl (fun e303 => ?_) (fun e303 => ?_))
 refine aF (ak ?_)
 obtain ⟨WW, e304a, e304b⟩ := fV (hik ▸ e303)
 rw [e304b, dI] at hs
 generalize hnx302 : each (sV N a b) (sW N a b) (YN.drop (OM + 1)) = ZH at hs
 have e304r := gp ((h.gM 814 rfl)).bV hik e303
 refine aP (aO (nG ?_))
 obtain ⟨b306, o307, cs308, h, r309, i305⟩ := h.zg 814 827 rfl bY rfl (iO hik) (gm hik e304a)
 obtain rfl := r309
 refine aa (i305 _ _ _ _ _ _ _ _ _ rfl rfl) (aa (dZ (k := 0) h 827 rfl aW rfl rfl) (aa (ae (v := (I6 WW)) rfl) (nJ (aa (ag (v := (I6 WW)) rfl) ?_))))
 obtain ⟨QC, e311, hs⟩ := aJ hs
 refine aS Vj rfl rfl (zV _ _ h.lt WW 60 _ e311) ?_
 rintro _ w ⟨k312, rfl⟩
 refine ⟨_, rfl, ?_⟩
 replace h := h.grow k312
 refine aa (ae (v := (I6 QC)) rfl) (nJ (aa (ag (v := va) rfl) (aa (cK (vs := [OO, OP, (I6 Hu), (I6 Hw)]) h 42 rfl bE rfl rfl rfl) (aa (ag (v := (I6 QC)) rfl) ?_))))
 obtain ⟨rz, e314, hs⟩ := aJ hs
 refine aS Dx rfl rfl (xZ N _ _ h.lt va a (h.fo 1 rfl) (⟨Jn, Jo, Hu, Hw⟩ : LX.State) OO OP (h.gM 825 rfl) (h.gM 826 rfl) QC _ e314) ?_
 rintro _ w ⟨k322, Xj, Xk, u319, rfl, g316, g318, g320, g321⟩
 refine ⟨_, rfl, ?_⟩
 replace h := h.jO 830 k322 g320 g321
 replace h := h.bX 828 g316.Rk
 replace h := h.bX 829 g318.Rk.up
 refine aa (ag (v := (.tuple #[(.agg #[Xj, Xk, (I6 rz.1.status), (I6 rz.1.aK)]), u319, (I6 rz.2.2.1), (I6 rz.2.2.2)])) rfl) (aa (aU rfl rfl) (aa (aU rfl rfl) (aa (aU rfl rfl) (aa (aU rfl rfl) (bU h 831 bE fun w b323 h => dm (vs := [Xj, Xk, (I6 rz.1.status), (I6 rz.1.aK)]) h 831 [Xj, Xk, (I6 rz.1.status), (I6 rz.1.aK)] rfl bE rfl rfl rfl rfl rfl (ai (h.fo 828 rfl).one (ai (h.fo 829 rfl).one (ai rfl (ai rfl aR)))) fun w h => aa (ae (v := u319) rfl) (aa (ae (v := (I6 rz.2.2.1)) rfl) (aa (ae (v := (I6 rz.2.2.2)) rfl) (nK (aa (ag (v := (I6 rz.2.2.2)) rfl) (aa (gN rfl rfl) (aa (ag (v := (.bool (decide ((rz.2.2.2 : Int) ≠ 0)))) rfl) (aA rfl rfl (fun q => ag (v := (I6 rz.2.2.1)) rfl) (aA rfl rfl (fun q => ag (v := (I6 QC)) rfl) (aA rfl rfl (fun q => jT (dz q) (dz q)) (aa (gW rfl rfl lX) (nN ?_))))))))))))))))
 refine aG hs rfl (fun c324 hs => ?_) (fun c324 hs => ?_)
 refine nG (aa (ae (v := (.bool (false))) rfl) (nR (ay (aD (ay (ay (aD (ay (bQ (v := (.bool (false))) Tryz.results5 rfl ?_)))))))))
 obtain rfl := fJ hs
 exact ⟨h.grown, rfl⟩
 refine nS (aa (cK (vs := [Xj, Xk, (I6 rz.1.status), (I6 rz.1.aK)]) h 831 rfl bE rfl rfl rfl) ?_)
 obtain ⟨uK, e326, hs⟩ := aJ hs
 refine aS Dw rfl rfl (r9 N _ _ h.lt rz.1 Xj Xk (h.mM 828 rfl) (h.mM 829 rfl) _ e326) ?_
 rintro _ w ⟨k333, QW, QX, us328, us330, rfl, h331, h332⟩
 refine ⟨_, rfl, ?_⟩
 replace h := h.Fx 832 (C := (cU QW QX uK.frames us328 uK.cells us330)) k333 ⟨⟨⟨trivial, trivial⟩, trivial⟩, trivial⟩ h331 h332
 replace h := h.bG 832 835 (by decide) rfl rfl
 replace h := h.bG 832 834 (by decide) rfl rfl
 replace h := h.bG 832 833 (by decide) rfl rfl
 refine aa (ag (v := QV) rfl) (aa (ag (v := u319) rfl) ?_)
 obtain ⟨a334, hs⟩ := bg hs
 refine mo (R := dU) (m := rz.2.1) h 824 rfl (h.dV 830 rfl) jg rfl rfl rfl a334.1 a334.2 fun w u335 h => aa (ag (v := (I6 Dh)) rfl) (aa (ag (v := (I6 rz.2.2.1)) rfl) ?_)
 obtain ⟨a336, hs⟩ := bg hs
 refine aa (dw rfl rfl a336) (dm (vs := [QW, QX, (I6 uK.status), (I6 uK.aK)]) h 42 [QW, QX, (I6 uK.status), (I6 uK.aK)] rfl bE rfl rfl rfl rfl rfl (ai (h.dD 832 rfl).one (ai (h.dD 834 rfl).one (ai rfl (ai rfl aR)))) fun w h => aa (ae (v := u335) rfl) (aa (ae (v := (I6 ((Dh + rz.2.2.1)))) rfl) (nK (aa (ag (v := va) rfl) (aa (cK (vs := [QW, QX, (I6 uK.status), (I6 uK.aK)]) h 42 rfl bE rfl rfl rfl) ?_)))))
 obtain ⟨y337, e338, hs⟩ := aJ hs
 refine aS FB rfl rfl (uU _ BE (fun _ h => h.elim) va a (gB.aah (h.fo 1 rfl)) uK QW QX (h.rf (N := bR) (R' := dB) 832 833 rfl rfl (by decide) rfl j4) (h.rf (N := (ed Val)) (R' := (mP bM)) 834 835 rfl rfl (by decide) rfl p9) _ e338) ?_
 rintro _ w ⟨k339, rfl⟩
 refine ⟨_, rfl, ?_⟩
 replace h := h.grow k339
 refine aa (gN rfl rfl) (nN (aG hs rfl (fun c340 hs => ?_) (fun c340 hs => ?_)))
 refine nG (aa (ae (v := (.bool (false))) rfl) (nR (ay (aD (ay (ay (aD (ay (bQ (v := (.bool (false))) Tryz.results5 rfl ?_)))))))))
 obtain rfl := fJ hs
 exact ⟨h.grown, rfl⟩
 refine nS (aa (ah lQ rfl) (aa (aB h 42 rfl aW rfl rfl) (aa (gN rfl rfl) (nN (aG hs rfl (fun c341 hs => ?_) (fun c341 hs => ?_))))))
 refine gV (rW (by decide) (bA (bA (dE (au ?_)))))
 replace h := h.zi 824 473 rfl rfl (by decide)
 replace h := h.ny (N := bR) (R' := dB) 832 833 rfl rfl (by decide) rfl j4
 replace h := h.GX 832 463 rfl
 replace h := h.ny (N := (ed Val)) (R' := (mP bM)) 834 835 rfl rfl (by decide) rfl p9
 replace h := h.GX 834 464 rfl
 exact bP ((Dh + rz.2.2.1), u335, (EO ++ rz.2.1), QW, uK.frames, QX, uK.cells, uK.status, uK.aK) ⟨h.cn _, hs⟩
 refine aF (ax (ak (aC (aa (dw rfl rfl e304r) (aa (ag (v := (I6 ((QU + 1)))) rfl) (az (au ?_)))))))
 replace h := h.ny (N := bR) (R' := dB) 832 833 rfl rfl (by decide) rfl j4
 replace h := h.GX 832 825 rfl
 replace h := h.ny (N := (ed Val)) (R' := (mP bM)) 834 835 rfl rfl (by decide) rfl p9
 replace h := h.GX 834 826 rfl
 subst hnx302
 exact jV ⟨OM + 1, QU + 1, (Dh + rz.2.2.1), u335, (EO ++ rz.2.1), QW, uK.frames, QX, uK.cells, uK.status, uK.aK⟩ ⟨h.cn _, by omega, hs⟩ (by have := rq e303; dsimp only; omega)
 rw [fZ (hik ▸ e303), gG] at hs
 refine gV (bA (bA (dE (au ?_))))
 replace h := h.zi 824 473 rfl rfl (by decide)
 replace h := h.Bf 825 463 rfl
 replace h := h.Bf 826 464 rfl
 exact bP (Dh, QV, EO, OO, Jn, OP, Jo, Hu, Hw) ⟨h.cn _, hs⟩
 refine aC ?_
 obtain ⟨YM, e343, hs⟩ := aJ hs
 refine aS Vl rfl rfl (yH N _ _ h.lt (hT.go h.keep)  _ e343) ?_
 rintro _ w ⟨k344, rfl⟩
 refine ⟨_, rfl, ?_⟩
 replace h := h.grow k344
 refine aa (ic rfl) (aa (ag (v := (.bool ((!YM)))) rfl) (jf (b := (!YM)) hs (fun JC hs => ?_) (fun JC hs => ?_)))
 refine Ph rfl (cB JC) rfl (Ph rfl (cB JC) rfl (Ph rfl (cB JC) rfl (Ph rfl (cB JC) rfl (aa (dn (b := true) (v := (.bool (true))) (cB JC) rfl) (aa (ag (v := (.bool (true))) rfl) (gy (b' := true) rfl rfl rfl (gy (b' := true) rfl rfl rfl (gy (b' := true) rfl rfl rfl (aa (dn (b := true) (v := (.bool (true))) rfl rfl) (az (au ?_)))))))))))
 exact bP true ⟨h.cn _, hs⟩
 refine dH rfl (cB JC) (aa (ag (v := va) rfl) (dH rfl (cB JC) (aa (cK (vs := [vb0, vb1, (I6 b.status), (I6 b.aK)]) h 5 rfl bE rfl rfl rfl) (dH rfl (cB JC) ?_))))
 obtain ⟨WX, e347, hs⟩ := aJ hs
 refine aS FB rfl rfl (uU _ _ h.lt va a (h.mM 1 rfl) b vb0 vb1 (h.gM 2 rfl) (h.gM 3 rfl) _ e347) ?_
 rintro _ w ⟨k348, rfl⟩
 refine ⟨_, rfl, ?_⟩
 replace h := h.grow k348
 refine dH rfl (cB JC) (aa (gN rfl rfl) (aa (dn (b := false) (v := (.bool (decide ((WX : Int) ≠ 0)))) (cB JC) rfl) (aa (ag (v := (.bool (decide ((WX : Int) ≠ 0)))) rfl) (aA rfl rfl (fun q => ah lQ rfl) (aA rfl rfl (fun q => aB h 5 rfl aW (dz q) rfl) (aA rfl rfl (fun q => gN (dz q) rfl) (aa (gW rfl rfl lX) (az (au ?_)))))))))
 exact bP (decide ((WX : Int) ≠ 0) || decide ((b.status : Int) ≠ 0)) ⟨h.cn _, hs⟩
def mf (a : Val) (b : Int) (x2 : Bool) : Int :=
  bif x2 then 4 else bif (decide ((a.kind : Int) = 1) && (!(eY a.n))) then 3 else bif (decide ((a.kind : Int) = 2) && (!(aT a.n b))) then 5 else 0
def dO (a : Val) (b : Int) : Int :=
  bif (!(aX a.kind 0 2)) then mf a b (!(aX a.kind 0 2)) else mf a b (decide ((a.kind : Int) = 0) && decide ((a.n : Int) ≠ 0))
def jv (a : List (List Val)) (x20 : Val) (s : Unit) (Yw : Unit → Int) : Int :=
  bif decide (((dO x20 (a.length : Int)) : Int) ≠ 0) then (dO x20 (a.length : Int)) else Yw ()
def jw (G7 : Unit → Int) (s : Unit) : Int :=
  G7 ()
def jy (a : List (List Val)) (x4 : List Val) (s : Unit) (G7 : Unit → Int) : Int :=
  bif (!(aX (x4.length : Int) 1 4)) then 2 else each (jv a) (jw G7) x4 ()
def jA (s : Unit) : Int :=
  0
def kG (a : List (List Val)) : Int :=
  bif decide ((24 : Int) < (a.length : Int)) then 2 else each (jy a) jA a ()
def lL (b : LX.State) (x44 : Val) (s : Unit) (nx46 : Unit → Option Int) : Option Int :=
  bif decide (((dO x44 (b.cells.length : Int)) : Int) ≠ 0) then some (dO x44 (b.cells.length : Int)) else nx46 ()
def lM (MI : Int → Option Int) (Ff : LX.Frame) (s : Unit) : Option Int :=
  MI (Ff.regs.length : Int)
def fT (a : List bN) (Ff : LX.Frame) (b : LX.State) (MI : Int → Option Int) (x30 : Bool) : Option Int :=
  bif x30 then some 3 else (idx a Ff.proc).bind fun x32 => bif decide (((Ff.regs.length : Int) : Int) ≠ x32.regs) then some 4 else each (lL b) (lM MI Ff) Ff.regs ()
def eG (a : List bN) (b : LX.State) (Ff : LX.Frame) (uf : Int) (MI : Int → Option Int) : Option Int :=
  bif (!(aT Ff.proc (a.length : Int))) then some 5 else (idx a Ff.proc).bind fun Xl => bif (!(aT Ff.at_ (Xl.code.length : Int))) then fT a Ff b MI true else fT a Ff b MI (!(aT Ff.mH uf))
def iD (uf : Int) : Option Int :=
  some 0
def oU (a : List bN) (b : LX.State) : Option Int :=
  bif ((!(aX b.status 0 3)) || (!(eY b.aK))) then some 3 else bif (((decide ((b.aK : Int) ≠ 0) && decide ((b.status : Int) ≠ 3)) || (decide ((b.status : Int) = 1) && decide ((0 : Int) < (b.frames.length : Int)))) || (decide ((b.status : Int) ≠ 1) && decide (((b.frames.length : Int) : Int) = 0))) then some 4 else bif decide ((10 : Int) < (b.frames.length : Int)) then some 2 else bif decide (((kG b.cells) : Int) ≠ 0) then some (kG b.cells) else each (eG a b) iD b.frames 1
end
end Go.Proofs.YtfclkapelkhlpaaGreatDoor
