/-
  What the law SnapGoesOn needs of our own library and of the walks, no more.
-/
import Derived.Test.YtfclkapelkhlpaaGreatDoorProg
import Derived.Test.YtfclkapelkhlpaaGreatDoorSnapGoesOnTe
set_option linter.unusedSimpArgs false
set_option linter.unusedVariables false
set_option maxRecDepth 10000
namespace Go.Proofs.YtfclkapelkhlpaaGreatDoor
open Go Go.Proofs Go.LX
noncomputable section
theorem Uj (N : Nat) (w0 : World) (M : BS) (hM : ∀ b, M b → b < w0.heap.size) (sb : Nat) (sx : LX.State) (gV vs1 : Value) (j6 jJ : List Value) (hC : Chunk.holds w0 M (Chunk.own' (cT sb gV vs1 (sx.status) (sx.aQ) sx.frames j6 sx.cells jJ)) (cT sb gV vs1 (sx.status) (sx.aQ) sx.frames j6 sx.cells jJ)) (hap : ∀ b, Chunk.own' (cT sb gV vs1 (sx.status) (sx.aQ) sx.frames j6 sx.cells jJ) b → ¬ M b) (va : Value) (a : List bQ) (ha : eX jR w0 (fun b => M b ∨ (cT sb gV vs1 (sx.status) (sx.aQ) sx.frames j6 sx.cells jJ).own' b) va a) (r : Et × Bool × LX.State) (hs : pX N sx a = some r) :
    Calls Tryz.prog 65 #[va, (.pointer (some ⟨sb, 0, none⟩))] w0 (fun e w' => aD (Chunk.own' (cT sb gV vs1 (sx.status) (sx.aQ) sx.frames j6 sx.cells jJ)) w0 w' ∧ ∃ zM, ∃ NF, ∃ NG, ∃ NH, e = .returned (.tuple #[.agg #[.bool r.1.said, .int .i64 r.1.n, .bool r.1.GH], .bool r.2.1]) ∧ Chunk.holds w' M (Chunk.own' (cT sb zM NF r.2.2.status r.2.2.aQ r.2.2.frames NG r.2.2.cells NH)) (cT sb zM NF r.2.2.status r.2.2.aQ r.2.2.frames NG r.2.2.cells NH) ∧ (∀ b, Chunk.own' (cT sb zM NF r.2.2.status r.2.2.aQ r.2.2.frames NG r.2.2.cells NH) b → b < w0.heap.size → Chunk.own' (cT sb gV vs1 (sx.status) (sx.aQ) sx.frames j6 sx.cells jJ) b)) := by
 refine aL (args := [va, (.pointer (some ⟨sb, 0, none⟩))]) Tryz.func65 rfl Tryz.ntmps65 (bC rfl) ?_
 have h := SH.Ci hM hC hap
 replace h := h.yw 6 ha ze
 generalize yB : (cT sb gV vs1 (sx.status) (sx.aQ) sx.frames j6 sx.cells jJ).own' = K0 at h
 replace h := h.bN 1 5 (by decide) rfl rfl
 replace h := h.bN 1 4 (by decide) rfl rfl
 replace h := h.bN 1 3 (by decide) rfl rfl
 replace h := h.bN 1 2 (by decide) rfl rfl
 have vE := ha.bW
 refine nG (bO h 7 gz fun w b1 h => aa (ae (v := (.bool (false))) rfl) (nJ (aa (ah (v := (.pointer (some ⟨sb, 0, none⟩))) rfl) (aa (bz rfl) (aa (ag ed rfl) (aa (aA h 1 rfl iU rfl rfl) (aa (oo (N := bU) df rfl (h.dG 2 rfl) (h.gX 3 rfl)) ?_)))))))
 obtain ⟨a2, hs⟩ := bu hs
 refine aa (oO rfl rfl a2) (aa (ae (v := (I6 (((sx.frames.length : Int) - 1)))) rfl) (nJ (aa (ah (v := (.pointer (some ⟨sb, 0, none⟩))) rfl) (aa (bz rfl) (aa (ag ed rfl) (aa (aA h 1 rfl iU rfl rfl) (aa (ah (v := (I6 (((sx.frames.length : Int) - 1)))) rfl) ?_)))))))
 obtain ⟨x3, e4, hs⟩ := aJ hs
 obtain ⟨u8, e9, h⟩ := h.qA 3 8 x3.regs rfl rfl (by decide) (aG e4).2 rfl
 obtain ⟨b6, q7, i5⟩ := h.xL 2 rfl df rfl (aG e4).1 (fw (aG e4).2 e9)
 refine aa (i5 _ _ _ _ _ _ _ _ _ rfl rfl) (aa (ae (v := (.pointer (some ⟨b6, (((sx.frames.length : Int) - 1)).toNat * 4, none⟩))) rfl) (nN (aO (Bw mixed h fun w h => dD 0 (aD.refl BE _) rfl aj (by kernel_rfl) (by kernel_rfl) (by kernel_rfl) (fun w hk => ah (v := va) rfl) (dD 1 (aD.refl BE _) rfl aj (by kernel_rfl) (by kernel_rfl) (by kernel_rfl) (fun w hk => ah (v := (.pointer (some ⟨b6, (((sx.frames.length : Int) - 1)).toNat * 4, none⟩))) rfl) (dD 2 (aD.refl BE _) rfl aj (by kernel_rfl) (by kernel_rfl) (by kernel_rfl) (fun w hk => bz rfl) (dD 3 (aD.refl BE _) rfl aj (by kernel_rfl) (by kernel_rfl) (by kernel_rfl) (fun w hk => ag wD rfl) ?_)))))))
 obtain ⟨csq10x4_1, XG, XH⟩ := h.zV 2 rfl q7 (fw (aG e4).2 e9)
 obtain ⟨rfl, -⟩ := XH
 refine dD 4 (aD.refl BE _) rfl aj (by kernel_rfl) (by kernel_rfl) (by kernel_rfl) (fun w hk => have h := h.grow hk; qa (k := 0) (XG.grow hk) aU rfl rfl) ?_
 obtain ⟨aX, F6, hs⟩ := aJ hs
 obtain ⟨bq10x5_4, oq10x5_5, csq10x5_6, h, XI, XJ⟩ := h.Fw 6 69 rfl jW rfl (aG F6).1 (aG F6).2
 obtain ⟨uq10x5_8, rfl, XK⟩ := pg XI
 replace h := h.bM 70 XK.up
 refine dD 5 (aD.refl BE _) rfl aj (by kernel_rfl) (by kernel_rfl) (by kernel_rfl) (fun w hk => XJ _ _ _ _ _ _ _ _ _ rfl rfl) (dD 6 (aD.refl BE _) rfl aj (by kernel_rfl) (by kernel_rfl) (by kernel_rfl) (fun w hk => ag sQ rfl) (dD 7 (aD.refl BE _) rfl aj (by kernel_rfl) (by kernel_rfl) (by kernel_rfl) (fun w hk => have h := h.grow hk; eU (k := 2) h 69 rfl Cj rfl rfl) (dD 8 (aD.refl BE _) rfl aj (by kernel_rfl) (by kernel_rfl) (by kernel_rfl) (fun w hk => ah (v := (.pointer (some ⟨b6, (((sx.frames.length : Int) - 1)).toNat * 4, none⟩))) rfl) (dD 9 (aD.refl BE _) rfl aj (by kernel_rfl) (by kernel_rfl) (by kernel_rfl) (fun w hk => bz rfl) (dD 10 (aD.refl BE _) rfl aj (by kernel_rfl) (by kernel_rfl) (by kernel_rfl) (fun w hk => ag sO rfl) ?_)))))
 obtain ⟨csq10x11_1, Uk, Ul⟩ := h.zV 2 rfl q7 (fw (aG e4).2 e9)
 obtain ⟨rfl, -⟩ := Ul
 refine dD 11 (aD.refl BE _) rfl aj (by kernel_rfl) (by kernel_rfl) (by kernel_rfl) (fun w hk => have h := h.grow hk; qa (k := 1) (Uk.grow hk) aU rfl rfl) ?_
 obtain ⟨aK, LV, hs⟩ := aJ hs
 obtain ⟨bq10x12_4, oq10x12_5, csq10x12_6, h, Um, Un⟩ := h.Fw 70 153 rfl jF rfl (aG LV).1 (aG LV).2
 obtain ⟨kF, rfl, Uo⟩ := Dy Um
 replace h := h.bM 154 Uo.up
 refine dD 12 (aD.refl BE _) rfl aj (by kernel_rfl) (by kernel_rfl) (by kernel_rfl) (fun w hk => Un _ _ _ _ _ _ _ _ _ rfl rfl) (dD 13 (aD.refl BE _) rfl aj (by kernel_rfl) (by kernel_rfl) (by kernel_rfl) (fun w hk => have h := h.grow hk; jm (k := 0) (vs := [(I6 aK.op), (I6 aK.a), (I6 aK.b), (I6 aK.c), kF]) h 153 rfl qI rfl rfl rfl (bC rfl)) ?_)
 obtain ⟨ws11, ws11e⟩ : ∃ x, x = w := ⟨_, rfl⟩
 have Q0 : Grow ws11 w := ws11e ▸ aD.refl BE w
 refine IA ws11e.symm (qH 14 (by kernel_rfl) rfl aj (Gz h 177 qI fun w LW h Q3 Q4 => ?_))
 have Q5 : ws11.heap.size ≤ LW := Nat.le_trans Q0.size Q4
 replace Q0 := Q0.trans Q3
 refine ay (kQ Q0 (qH 15 (by kernel_rfl) rfl aj (zD (vs := [(I6 aK.op), (I6 aK.a), (I6 aK.b), (I6 aK.c), kF]) h 177 [(I6 aK.op), (I6 aK.a), (I6 aK.b), (I6 aK.c), kF] rfl qI rfl rfl rfl rfl rfl (ai rfl (ai rfl (ai rfl (ai rfl (ai (h.fM 154 rfl).one aT))))) fun w h Uq => ?_)))
 replace Q0 := Q0.fresh Uq (fun x hx => hx ▸ Q5)
 refine ay (kQ Q0 (ru (by kernel_rfl) (ak (aO (sI 19 mixed (by kernel_rfl) h fun w h => aM (ah (v := (.pointer (some ⟨b6, (((sx.frames.length : Int) - 1)).toNat * 4, none⟩))) rfl) (aM (ah (v := (.pointer (some ⟨b6, (((sx.frames.length : Int) - 1)).toNat * 4, none⟩))) rfl) (aM (bz rfl) (aM (ag sO rfl) ?_))))))))
 obtain ⟨cs13, m14, r15⟩ := h.zV 2 rfl q7 (fw (aG e4).2 e9)
 obtain ⟨rfl, -⟩ := r15
 refine aM (qa (k := 1) m14 aU rfl rfl) ?_
 obtain ⟨a16, hs⟩ := bu hs
 refine aM (dm rfl rfl a16) (aM (ah (v := va) rfl) (aM (ah (v := (.pointer (some ⟨b6, (((sx.frames.length : Int) - 1)).toNat * 4, none⟩))) rfl) (aM (bz rfl) (aM (ag wD rfl) ?_))))
 obtain ⟨cs17, m18, r19⟩ := h.zV 2 rfl q7 (fw (aG e4).2 e9)
 obtain ⟨rfl, -⟩ := r19
 refine aM (qa (k := 0) m18 aU rfl rfl) ?_
 obtain ⟨KT, o22, cs23, h, r24, i20⟩ := h.Fw 6 213 rfl jW rfl (aG F6).1 (aG F6).2
 obtain ⟨u25, rfl, g26⟩ := pg r24
 replace h := h.bM 214 g26.up
 refine aM (i20 _ _ _ _ _ _ _ _ _ rfl rfl) (aM (ag sQ rfl) (aM (eU (k := 2) h 213 rfl Cj rfl rfl) (aM (bT jF rfl (h.mM 214 rfl)) ?_)))
 obtain ⟨a27, hs⟩ := bu hs
 refine aM (oO rfl rfl a27) (aM (r_min rfl rfl) (aM (bz rfl) (aM (ag sO rfl) (Ch (Li (a' := (({ x3 with at_ := (min (x3.at_ + 1) ((aX.code.length : Int) - 1)) }), u8)) h 2 rfl q7 rfl (fw (aG e4).2 e9) aU rfl rfl rfl rfl (by rintro _ ⟨rfl, hq⟩; exact ⟨rfl, hq⟩) fun w h => ?_)))))
 rw [Jv e9] at h
 replace h := h.famL 3 ({ x3 with at_ := (min (x3.at_ + 1) ((aX.code.length : Int) - 1)) }) rfl
 refine nJ (aa (ah (v := (.pointer (some ⟨b6, (((sx.frames.length : Int) - 1)).toNat * 4, none⟩))) rfl) (aa (bz rfl) (aa (ag kT rfl) ?_)))
 obtain ⟨Za, m29, r30⟩ := h.zV 2 rfl q7 (fw (kH (aG e4).2) e9)
 obtain ⟨rfl, -⟩ := r30
 refine aa (qa (k := 2) m29 lC rfl rfl) (aa (ae (v := u8) rfl) (nN (bX (σ := Bool × Value × List Value × List LX.Frame × Value × List Value × List (List Val) × Int × Int) (inl ([5, 10] ++ rg 60 156)) (fun ⟨y31, v32, Ur, y34, v35, Us, Db, y38, y39⟩ => []) (fun ⟨y31, v32, Ur, y34, v35, Us, Db, y38, y39⟩ w => SH w0 M K0 w (hset [(1, .blk sb [v32, v35, (I6 y38), (I6 y39)]), (2, .own bU.raw 49 v32 (List.zip y34 Ur)), (3, .ib (dB bJ 51 hn Ur (List.map bU.sub y34))), (4, .own (eT Val).raw 47 v35 (List.zip Db Us)), (5, .ib (dB bJ 51 hn Us (List.map (eT Val).sub Db))), (7, .blk b1 [(.bool (false)), (I6 0), (.bool (y31))])]) ∧ kJ y31 y34 Db y38 y39 = some r) ?_ ?_)))
 rintro ⟨y31, v32, Ur, y34, v35, Us, Db, y38, y39⟩ w dz ⟨h, hs⟩
 refine nG (aa (dh (vs := [(.bool (false)), (I6 0), (.bool (y31))]) h 7 rfl gz rfl rfl rfl) (dn (vs := [(.bool (false)), (I6 0), (.bool (y31))]) h 7 [(.bool (false)), (I6 0), (.bool (y31))] rfl gz rfl rfl rfl rfl rfl (ai rfl (ai rfl (ai rfl aT))) fun w h => aa (ae (v := (.bool (true))) rfl) (nR (jV (vs := [(.bool (false)), (I6 0), (.bool (y31))]) (v2 := (.bool (true))) Tryz.results65 rfl rfl h 7 rfl gz rfl ?_))))
 replace h := h.pair 1 2 (by decide)
 replace h := h.pair 1 3 (by decide)
 replace h := h.pair 1 4 (by decide)
 replace h := h.pair 1 5 (by decide)
 obtain rfl := fI hs
 subst yB
 obtain ⟨o1, o2, o3⟩ := h.o8 1 (C := (cT sb v32 v35 (y38) (y39) y34 Ur Db Us)) rfl ⟨⟨⟨⟨trivial, trivial⟩, trivial⟩, trivial⟩, trivial⟩
 exact ⟨o2, v32, v35, Ur, Us, rfl, o1, o3⟩
 refine nG (aa (ag qB rfl) (aa (aA h 177 rfl aU rfl rfl) (nN (aP (nG (aa (bD rfl rfl) (aa (ae (v := (.bool (decide ((aK.op : Int) = 1)))) rfl) (nN (aH hs rfl (fun c40 hs => ?_) (fun c40 hs => ?_))))))))))
 refine aB (aa (ah (v := u8) rfl) (aa (ag kU rfl) (aa (aA h 177 rfl aU rfl rfl) (aa (ag iZ rfl) (aa (aA h 177 rfl aU rfl rfl) (aa (dH (pv := [(0, (I6 1)), (1, (I6 aK.b))]) (out := [(I6 1), (I6 aK.b)]) uL rfl ⟨0, 1, [(I6 1)], rfl, rfl, rfl, bC rfl, ⟨1, 1, [(I6 aK.b)], rfl, rfl, rfl, bC rfl, rfl⟩⟩) ?_))))))
 obtain ⟨x41, e42, hs⟩ := aJ hs
 obtain ⟨Ua, q45, i43⟩ := h.xL 8 rfl bH rfl (aG e42).1 (aG e42).2
 refine aa (i43 _ _ _ _ _ _ _ _ _ rfl rfl) (zF (a' := (⟨1, aK.b⟩ : Val)) (vs := [(I6 1), (I6 aK.b)]) h 8 rfl q45 rfl (aG e42).2 bS rfl rfl rfl rfl rfl fun w h k46 => ay (ax ?_))
 replace h := h.sM 2 3 8 ({ x3 with at_ := (min (x3.at_ + 1) ((aX.code.length : Int) - 1)), regs := (x3.regs.set (aK.a).toNat (⟨1, aK.b⟩ : Val)) }) rfl rfl rfl (by decide) (by decide) (by decide) (kH (aG e4).2) e9 rfl
 refine au ?_
 exact bP (false, gV, j6, ((sx.frames.set (((sx.frames.length : Int) - 1)).toNat ({ x3 with at_ := (min (x3.at_ + 1) ((aX.code.length : Int) - 1)) })).set (((sx.frames.length : Int) - 1)).toNat ({ x3 with at_ := (min (x3.at_ + 1) ((aX.code.length : Int) - 1)), regs := (x3.regs.set (aK.a).toNat (⟨1, aK.b⟩ : Val)) })), vs1, jJ, sx.cells, sx.status, sx.aQ) ⟨h.cn _, hs⟩
 refine nG (aa (bD rfl rfl) (aa (ae (v := (.bool (decide ((aK.op : Int) = 2)))) rfl) (nN (aH hs rfl (fun c47 hs => ?_) (fun c47 hs => ?_)))))
 refine sI 9 mixed (by kernel_rfl) h fun w h => aM (ah (v := u8) rfl) (aM (ag kU rfl) (aM (aA h 177 rfl aU rfl rfl) (aM (ah (v := u8) rfl) (aM (ag iZ rfl) (aM (aA h 177 rfl aU rfl rfl) ?_)))))
 obtain ⟨XF, e49, hs⟩ := aJ hs
 obtain ⟨b51, q52, i50⟩ := h.xL 8 rfl bH rfl (aG e49).1 (aG e49).2
 refine aM (i50 _ _ _ _ _ _ _ _ _ rfl rfl) ?_
 obtain ⟨cs53, m54, r55⟩ := h.zV 8 rfl q52 (aG e49).2
 obtain rfl := r55
 refine aM (oZ (k := 0) (vs := [(I6 XF.kind), (I6 XF.n)]) m54 bS rfl rfl rfl (bC rfl)) ?_
 obtain ⟨x56, e57, hs⟩ := aJ hs
 obtain ⟨b59, q60, i58⟩ := h.xL 8 rfl bH rfl (aG e57).1 (aG e57).2
 refine aM (i58 _ _ _ _ _ _ _ _ _ rfl rfl) (Ch (zF (a' := XF) (vs := [(I6 XF.kind), (I6 XF.n)]) h 8 rfl q60 rfl (aG e57).2 bS rfl rfl rfl rfl rfl fun w h Zo => ay (ax ?_)))
 replace h := h.sM 2 3 8 ({ x3 with at_ := (min (x3.at_ + 1) ((aX.code.length : Int) - 1)), regs := (x3.regs.set (aK.a).toNat XF) }) rfl rfl rfl (by decide) (by decide) (by decide) (kH (aG e4).2) e9 rfl
 refine au ?_
 exact bP (false, gV, j6, ((sx.frames.set (((sx.frames.length : Int) - 1)).toNat ({ x3 with at_ := (min (x3.at_ + 1) ((aX.code.length : Int) - 1)) })).set (((sx.frames.length : Int) - 1)).toNat ({ x3 with at_ := (min (x3.at_ + 1) ((aX.code.length : Int) - 1)), regs := (x3.regs.set (aK.a).toNat XF) })), vs1, jJ, sx.cells, sx.status, sx.aQ) ⟨h.cn _, hs⟩
 refine nG (aa (bD rfl rfl) (aa (ae (v := (.bool (decide ((aK.op : Int) = 3)))) rfl) (nN (aH hs rfl (fun TM hs => ?_) (fun TM hs => ?_)))))
 refine bX (σ := Bool × List LX.Frame) (inl ([5] ++ rg 84 22)) (fun ⟨qO, K6⟩ => [(5, (.bool (qO)))]) (fun ⟨qO, K6⟩ w => SH w0 M K0 w (hset [(1, .blk sb [gV, vs1, (I6 sx.status), (I6 sx.aQ)]), (2, .own bU.raw 49 gV (List.zip K6 j6)), (3, .ib (dB bJ 51 hn j6 (List.map bU.sub K6))), (4, .own (eT Val).raw 47 vs1 (List.zip sx.cells jJ)), (5, .ib (dB bJ 51 hn jJ (List.map (eT Val).sub sx.cells))), (7, .blk b1 [(.bool (false)), (I6 0), (.bool (false))])]) ∧ BZ sx qO K6 = some r) ?_ ?_
 rintro ⟨qO, K6⟩ w dz ⟨h, hs⟩
 refine nG (aa (dh (vs := [(.bool (false)), (I6 0), (.bool (false))]) h 7 rfl gz rfl rfl rfl) (aa (ah (v := (.bool (qO))) rfl) (dn (vs := [(.bool (false)), (I6 0), (.bool (false))]) h 7 [(.bool (false)), (I6 0), (.bool (false))] rfl gz rfl rfl rfl rfl rfl (ai rfl (ai rfl (ai rfl aT))) fun w h => aa (ae (v := (.bool (qO))) rfl) (nR (aF (az (jV (vs := [(.bool (false)), (I6 0), (.bool (false))]) (v2 := (.bool (qO))) Tryz.results65 rfl rfl h 7 rfl gz rfl ?_)))))))
 replace h := h.pair 1 2 (by decide)
 replace h := h.pair 1 3 (by decide)
 replace h := h.pair 1 4 (by decide)
 replace h := h.pair 1 5 (by decide)
 obtain rfl := fI hs
 subst yB
 obtain ⟨o1, o2, o3⟩ := h.o8 1 (C := (cT sb gV vs1 (sx.status) (sx.aQ) K6 j6 sx.cells jJ)) rfl ⟨⟨⟨⟨trivial, trivial⟩, trivial⟩, trivial⟩, trivial⟩
 exact ⟨o2, gV, vs1, j6, jJ, rfl, o1, o3⟩
 refine kL (L := (ob u8)) mixed h fun w h => bA 0 (aD.refl _ _) rfl aj (by kernel_rfl) (by kernel_rfl) (by kernel_rfl) (fun w hk => ah (v := u8) rfl) (bA 1 (aD.refl _ _) rfl aj (by kernel_rfl) (by kernel_rfl) (by kernel_rfl) (fun w hk => ag kU rfl) (bA 2 (aD.refl _ _) rfl aj (by kernel_rfl) (by kernel_rfl) (by kernel_rfl) (fun w hk => have h := h.oQ 8 rfl hk; aA h 177 rfl aU rfl rfl) (bA 3 (aD.refl _ _) rfl aj (by kernel_rfl) (by kernel_rfl) (by kernel_rfl) (fun w hk => ag xS rfl) (bA 4 (aD.refl _ _) rfl aj (by kernel_rfl) (by kernel_rfl) (by kernel_rfl) (fun w hk => have h := h.oQ 8 rfl hk; aA h 177 rfl rQ rfl rfl) ?_))))
 obtain ⟨F5, Pg, hs⟩ := aJ hs
 obtain ⟨bq70x5_4, oq70x5_5, csq70x5_6, h, XL, XM⟩ := h.Fw 154 275 rfl bZ rfl (aG Pg).1 (aG Pg).2
 obtain rfl := XL
 refine bA 5 (aD.refl _ _) rfl aj (by kernel_rfl) (by kernel_rfl) (by kernel_rfl) (fun w hk => XM _ _ _ _ _ _ _ _ _ rfl rfl) (bA 6 (aD.refl _ _) rfl aj (by kernel_rfl) (by kernel_rfl) (by kernel_rfl) (fun w hk => have h := h.oQ 8 rfl hk; eU (k := 0) h 275 rfl aU rfl rfl) (bA 7 (aD.refl _ _) rfl aj (by kernel_rfl) (by kernel_rfl) (by kernel_rfl) (fun w hk => ah (v := u8) rfl) (bA 8 (aD.refl _ _) rfl aj (by kernel_rfl) (by kernel_rfl) (by kernel_rfl) (fun w hk => ag iZ rfl) (bA 9 (aD.refl _ _) rfl aj (by kernel_rfl) (by kernel_rfl) (by kernel_rfl) (fun w hk => have h := h.oQ 8 rfl hk; aA h 177 rfl aU rfl rfl) ?_))))
 obtain ⟨um, DV, hs⟩ := aJ hs
 obtain ⟨bq70x10_4, LY, Ut⟩ := h.xL 8 rfl bH rfl (aG DV).1 (aG DV).2
 refine bA 10 (aD.refl _ _) rfl aj (by kernel_rfl) (by kernel_rfl) (by kernel_rfl) (fun w hk => Ut _ _ _ _ _ _ _ _ _ rfl rfl) (bA 12 (aD.refl _ _) rfl aj (by kernel_rfl) (by kernel_rfl) (by kernel_rfl) (fun w hk => ah (v := u8) rfl) (bA 13 (aD.refl _ _) rfl aj (by kernel_rfl) (by kernel_rfl) (by kernel_rfl) (fun w hk => ag rz rfl) (bA 14 (aD.refl _ _) rfl aj (by kernel_rfl) (by kernel_rfl) (by kernel_rfl) (fun w hk => have h := h.oQ 8 rfl hk; aA h 177 rfl aU rfl rfl) ?_)))
 obtain ⟨uo, DW, hs⟩ := aJ hs
 obtain ⟨bq70x15_4, LZ, Uu⟩ := h.xL 8 rfl bH rfl (aG DW).1 (aG DW).2
 refine bA 15 (aD.refl _ _) rfl aj (by kernel_rfl) (by kernel_rfl) (by kernel_rfl) (fun w hk => Uu _ _ _ _ _ _ _ _ _ rfl rfl) ?_
 obtain ⟨gm, L6, hs⟩ := aJ hs
 obtain ⟨Ui, yl, hs⟩ := aJ hs
 obtain ⟨ws71, ws71e⟩ : ∃ x, x = w := ⟨_, rfl⟩
 have xm : aD (ob u8) ws71 w := ws71e ▸ aD.refl (ob u8) w
 refine rU ws71e.symm (lu 11 16 (by kernel_rfl) rfl aj rfl aj ?_ ?_)
 obtain ⟨Q6, Hu, Hw⟩ := h.zV 8 rfl LY (aG DV).2
 obtain rfl := Hw
 refine aa (oZ (k := 0) (vs := [(I6 um.kind), (I6 um.n)]) Hu bS rfl rfl rfl (bC rfl)) (ay (aN xm (bg 16 (by kernel_rfl) rfl aj ?_)))
 obtain ⟨Q7, Hy, Hz⟩ := h.zV 8 rfl LZ (aG DW).2
 obtain rfl := Hz
 refine aa (oZ (k := 0) (vs := [(I6 uo.kind), (I6 uo.n)]) Hy bS rfl rfl rfl (bC rfl)) (ay (aN xm (bg 17 (by kernel_rfl) rfl aj (aR We rfl rfl (Sq _ _ h.lt F5 um uo _ L6) ?_))))
 rintro _ w ⟨AR, rfl⟩
 refine ⟨_, rfl, ?_⟩
 replace h := h.grow AR
 replace xm := xm.grow AR
 refine ay (aN xm (cK 18 xm rfl (by kernel_rfl) (fun w hk => ah (v := (.tuple #[(.agg #[(I6 gm.1.kind), (I6 gm.1.n)]), (.bool (gm.2))])) rfl) (cK 19 xm rfl (by kernel_rfl) (fun w hk => aY rfl rfl) (cK 20 xm rfl (by kernel_rfl) (fun w hk => aY rfl rfl) ?_))))
 obtain ⟨Uv, HV, HY⟩ := h.xL 8 rfl bH rfl (aG yl).1 (aG yl).2
 refine cK 21 xm rfl (by kernel_rfl) (fun w hk => HY _ _ _ _ _ _ _ _ _ rfl rfl) (bg 22 (by kernel_rfl) rfl aj (zF (a' := gm.1) (vs := [(I6 gm.1.kind), (I6 gm.1.n)]) h 8 rfl HV rfl (aG yl).2 bS rfl rfl rfl rfl rfl fun w h HZ => ?_))
 replace xm := xm.same HZ
 refine ay (aN xm (cK 23 xm rfl (by kernel_rfl) (fun w hk => ae (v := (.bool (gm.2))) rfl) (eY (by kernel_rfl) ?_)))
 replace h := h.sM 2 3 8 ({ x3 with at_ := (min (x3.at_ + 1) ((aX.code.length : Int) - 1)), regs := (x3.regs.set (aK.a).toNat gm.1) }) rfl rfl rfl (by decide) (by decide) (by decide) (kH (aG e4).2) e9 rfl
 refine au ?_
 exact bP (gm.2, ((sx.frames.set (((sx.frames.length : Int) - 1)).toNat ({ x3 with at_ := (min (x3.at_ + 1) ((aX.code.length : Int) - 1)) })).set (((sx.frames.length : Int) - 1)).toNat ({ x3 with at_ := (min (x3.at_ + 1) ((aX.code.length : Int) - 1)), regs := (x3.regs.set (aK.a).toNat gm.1) }))) ⟨h.cn _, hs⟩
 obtain ⟨Q7, Hy, Hz⟩ := h.zV 8 rfl LZ (aG DW).2
 obtain rfl := Hz
 refine aa (oZ (k := 0) (vs := [(I6 uo.kind), (I6 uo.n)]) Hy bS rfl rfl rfl (bC rfl)) (ay (aN xm (bg 11 (by kernel_rfl) rfl aj ?_)))
 obtain ⟨Q6, Hu, Hw⟩ := h.zV 8 rfl LY (aG DV).2
 obtain rfl := Hw
 refine aa (oZ (k := 0) (vs := [(I6 um.kind), (I6 um.n)]) Hu bS rfl rfl rfl (bC rfl)) (ay (aN xm (bg 17 (by kernel_rfl) rfl aj (aR We rfl rfl (Sq _ _ h.lt F5 um uo _ L6) ?_))))
 rintro _ w ⟨AR, rfl⟩
 refine ⟨_, rfl, ?_⟩
 replace h := h.grow AR
 replace xm := xm.grow AR
 refine ay (aN xm (cK 18 xm rfl (by kernel_rfl) (fun w hk => ah (v := (.tuple #[(.agg #[(I6 gm.1.kind), (I6 gm.1.n)]), (.bool (gm.2))])) rfl) (cK 19 xm rfl (by kernel_rfl) (fun w hk => aY rfl rfl) (cK 20 xm rfl (by kernel_rfl) (fun w hk => aY rfl rfl) ?_))))
 obtain ⟨Uv, HV, HY⟩ := h.xL 8 rfl bH rfl (aG yl).1 (aG yl).2
 refine cK 21 xm rfl (by kernel_rfl) (fun w hk => HY _ _ _ _ _ _ _ _ _ rfl rfl) (bg 22 (by kernel_rfl) rfl aj (zF (a' := gm.1) (vs := [(I6 gm.1.kind), (I6 gm.1.n)]) h 8 rfl HV rfl (aG yl).2 bS rfl rfl rfl rfl rfl fun w h HZ => ?_))
 replace xm := xm.same HZ
 refine ay (aN xm (cK 23 xm rfl (by kernel_rfl) (fun w hk => ae (v := (.bool (gm.2))) rfl) (eY (by kernel_rfl) ?_)))
 replace h := h.sM 2 3 8 ({ x3 with at_ := (min (x3.at_ + 1) ((aX.code.length : Int) - 1)), regs := (x3.regs.set (aK.a).toNat gm.1) }) rfl rfl rfl (by decide) (by decide) (by decide) (kH (aG e4).2) e9 rfl
 refine au ?_
 exact bP (gm.2, ((sx.frames.set (((sx.frames.length : Int) - 1)).toNat ({ x3 with at_ := (min (x3.at_ + 1) ((aX.code.length : Int) - 1)) })).set (((sx.frames.length : Int) - 1)).toNat ({ x3 with at_ := (min (x3.at_ + 1) ((aX.code.length : Int) - 1)), regs := (x3.regs.set (aK.a).toNat gm.1) }))) ⟨h.cn _, hs⟩
 refine bX (σ := Bool) (inl [108, 109, 110]) (fun x73 => [(108, (.bool (x73)))]) (fun x73 w => SH w0 M K0 w (hset [(1, .blk sb [gV, vs1, (I6 sx.status), (I6 sx.aQ)]), (2, .own bU.raw 49 gV (List.zip (sx.frames.set (((sx.frames.length : Int) - 1)).toNat ({ x3 with at_ := (min (x3.at_ + 1) ((aX.code.length : Int) - 1)) })) j6)), (3, .ib (dB bJ 51 (hat (((sx.frames.length : Int) - 1)).toNat) j6 (List.map bU.sub (sx.frames.set (((sx.frames.length : Int) - 1)).toNat ({ x3 with at_ := (min (x3.at_ + 1) ((aX.code.length : Int) - 1)) }))))), (4, .own (eT Val).raw 47 vs1 (List.zip sx.cells jJ)), (5, .ib (dB bJ 51 hn jJ (List.map (eT Val).sub sx.cells))), (6, .rd jR va a), (7, .blk b1 [(.bool (false)), (I6 0), (.bool (false))]), (8, .own bJ 51 u8 x3.regs), (154, .rd dA kF aK.args), (177, .blk LW [(I6 aK.op), (I6 aK.a), (I6 aK.b), (I6 aK.c), kF])]) ∧ jd N sx x3 aX aK a x73 = some r) ?_ ?_
 rintro x73 w dz ⟨h, hs⟩
 refine aH hs rfl (fun c74 hs => ?_) (fun c74 hs => ?_)
 refine aO ?_
 replace h := h.iQ 3 8 rfl rfl (by decide) (kH (aG e4).2) e9 rfl
 refine kL (L := (fun b => Chunk.own' (cT sb gV vs1 (sx.status) (sx.aQ) (sx.frames.set (((sx.frames.length : Int) - 1)).toNat ({ x3 with at_ := (min (x3.at_ + 1) ((aX.code.length : Int) - 1)) })) j6 sx.cells jJ) b ∨ b = b1)) mixed h fun w h => bA 1 (aD.refl _ _) rfl aj (by kernel_rfl) (by kernel_rfl) (by kernel_rfl) (fun w hk => ah (v := (.pointer (some ⟨sb, 0, none⟩))) rfl) (bA 2 (aD.refl _ _) rfl aj (by kernel_rfl) (by kernel_rfl) (by kernel_rfl) (fun w hk => have h := ((((h.pair 1 2 (by decide)).pair 1 3 (by decide)).pair 1 4 (by decide)).pair 1 5 (by decide)).Gy 1 7 (by decide) rfl rfl hk; dh (vs := [(I6 aK.op), (I6 aK.a), (I6 aK.b), (I6 aK.c), kF]) h 177 rfl qI rfl rfl rfl) (bA 3 (aD.refl _ _) rfl aj (by kernel_rfl) (by kernel_rfl) (by kernel_rfl) (fun w hk => ah (v := u8) rfl) ?_))
 obtain ⟨iI, Ph, hs⟩ := aJ hs
 obtain ⟨ws86, ws86e⟩ : ∃ x, x = w := ⟨_, rfl⟩
 have Ed : aD (fun b => Chunk.own' (cT sb gV vs1 (sx.status) (sx.aQ) (sx.frames.set (((sx.frames.length : Int) - 1)).toNat ({ x3 with at_ := (min (x3.at_ + 1) ((aX.code.length : Int) - 1)) })) j6 sx.cells jJ) b ∨ b = b1) ws86 w := ws86e ▸ aD.refl (fun b => Chunk.own' (cT sb gV vs1 (sx.status) (sx.aQ) (sx.frames.set (((sx.frames.length : Int) - 1)).toNat ({ x3 with at_ := (min (x3.at_ + 1) ((aX.code.length : Int) - 1)) })) j6 sx.cells jJ) b ∨ b = b1) w
 refine rU ws86e.symm (lu 0 4 (by kernel_rfl) rfl aj rfl aj ?_ ?_)
 refine aa (dh (vs := [(.bool (false)), (I6 0), (.bool (false))]) h 7 rfl gz rfl rfl rfl) (ay (aN Ed (bg 4 (by kernel_rfl) rfl aj ?_)))
 replace h := h.pair 1 2 (by decide)
 replace h := h.pair 1 3 (by decide)
 replace h := h.pair 1 4 (by decide)
 replace h := h.pair 1 5 (by decide)
 obtain ⟨H5, H6, H7⟩ := h.kC 1 (C := (cT sb gV vs1 (sx.status) (sx.aQ) (sx.frames.set (((sx.frames.length : Int) - 1)).toNat ({ x3 with at_ := (min (x3.at_ + 1) ((aX.code.length : Int) - 1)) })) j6 sx.cells jJ)) rfl ⟨⟨⟨⟨trivial, trivial⟩, trivial⟩, trivial⟩, trivial⟩
 refine aR Wh rfl rfl (JX _ _ H7 sb (⟨(sx.frames.set (((sx.frames.length : Int) - 1)).toNat ({ x3 with at_ := (min (x3.at_ + 1) ((aX.code.length : Int) - 1)) })), sx.cells, sx.status, sx.aQ⟩ : LX.State) gV vs1 j6 jJ H5 H6 aK kF (h.Er 1 154 rfl rfl) ((sx.frames.length : Int) - 1) ({ x3 with at_ := (min (x3.at_ + 1) ((aX.code.length : Int) - 1)) }) (aG e4).1 (kH (aG e4).2) u8 e9 _ Ph) ?_
 rintro _ w ⟨Dc, yK, yL, vX, vY, rfl, Ka, H8⟩
 refine ⟨_, rfl, ?_⟩
 replace h := h.back 1 (C := (cT sb gV vs1 (sx.status) (sx.aQ) (sx.frames.set (((sx.frames.length : Int) - 1)).toNat ({ x3 with at_ := (min (x3.at_ + 1) ((aX.code.length : Int) - 1)) })) j6 sx.cells jJ)) (C' := (cT sb yK yL (iI.2.status) (iI.2.aQ) iI.2.frames vX iI.2.cells vY)) rfl ⟨⟨⟨⟨trivial, trivial⟩, trivial⟩, trivial⟩, trivial⟩ Ka Dc H8
 replace h := h.bN 1 5 (by decide) rfl rfl
 replace h := h.bN 1 4 (by decide) rfl rfl
 replace h := h.bN 1 3 (by decide) rfl rfl
 replace h := h.bN 1 2 (by decide) rfl rfl
 replace Ed := aD.step Ed Dc (fun _ hx _ => .inl (hx))
 refine ay (aN Ed (bg 5 (by kernel_rfl) rfl aj (zD (vs := [(.bool (false)), (I6 0), (.bool (false))]) h 7 [(.bool (false)), (I6 0), (.bool (false))] rfl gz rfl rfl rfl rfl rfl (ai rfl (ai rfl (ai rfl aT))) fun w h Kb => ?_)))
 replace Ed := aD.step Ed Kb (fun _ hx _ => .inr (hx))
 refine ay (aN Ed (cK 6 Ed rfl (by kernel_rfl) (fun w hk => ae (v := (.bool (iI.1))) rfl) (eY (by kernel_rfl) (ak (vM (aF (az (jV (vs := [(.bool (false)), (I6 0), (.bool (false))]) (v2 := (.bool (iI.1))) Tryz.results65 rfl rfl h 7 rfl gz rfl ?_))))))))
 replace h := h.pair 1 2 (by decide)
 replace h := h.pair 1 3 (by decide)
 replace h := h.pair 1 4 (by decide)
 replace h := h.pair 1 5 (by decide)
 obtain rfl := fI hs
 subst yB
 obtain ⟨o1, o2, o3⟩ := h.o8 1 (C := (cT sb yK yL (iI.2.status) (iI.2.aQ) iI.2.frames vX iI.2.cells vY)) rfl ⟨⟨⟨⟨trivial, trivial⟩, trivial⟩, trivial⟩, trivial⟩
 exact ⟨o2, yK, yL, vX, vY, rfl, o1, o3⟩
 replace h := h.pair 1 2 (by decide)
 replace h := h.pair 1 3 (by decide)
 replace h := h.pair 1 4 (by decide)
 replace h := h.pair 1 5 (by decide)
 obtain ⟨H5, H6, H7⟩ := h.kC 1 (C := (cT sb gV vs1 (sx.status) (sx.aQ) (sx.frames.set (((sx.frames.length : Int) - 1)).toNat ({ x3 with at_ := (min (x3.at_ + 1) ((aX.code.length : Int) - 1)) })) j6 sx.cells jJ)) rfl ⟨⟨⟨⟨trivial, trivial⟩, trivial⟩, trivial⟩, trivial⟩
 refine aR Wh rfl rfl (JX _ _ H7 sb (⟨(sx.frames.set (((sx.frames.length : Int) - 1)).toNat ({ x3 with at_ := (min (x3.at_ + 1) ((aX.code.length : Int) - 1)) })), sx.cells, sx.status, sx.aQ⟩ : LX.State) gV vs1 j6 jJ H5 H6 aK kF (h.Er 1 154 rfl rfl) ((sx.frames.length : Int) - 1) ({ x3 with at_ := (min (x3.at_ + 1) ((aX.code.length : Int) - 1)) }) (aG e4).1 (kH (aG e4).2) u8 e9 _ Ph) ?_
 rintro _ w ⟨Dc, yK, yL, vX, vY, rfl, Ka, H8⟩
 refine ⟨_, rfl, ?_⟩
 replace h := h.back 1 (C := (cT sb gV vs1 (sx.status) (sx.aQ) (sx.frames.set (((sx.frames.length : Int) - 1)).toNat ({ x3 with at_ := (min (x3.at_ + 1) ((aX.code.length : Int) - 1)) })) j6 sx.cells jJ)) (C' := (cT sb yK yL (iI.2.status) (iI.2.aQ) iI.2.frames vX iI.2.cells vY)) rfl ⟨⟨⟨⟨trivial, trivial⟩, trivial⟩, trivial⟩, trivial⟩ Ka Dc H8
 replace h := h.bN 1 5 (by decide) rfl rfl
 replace h := h.bN 1 4 (by decide) rfl rfl
 replace h := h.bN 1 3 (by decide) rfl rfl
 replace h := h.bN 1 2 (by decide) rfl rfl
 replace Ed := aD.step Ed Dc (fun _ hx _ => .inl (hx))
 refine ay (aN Ed (bg 0 (by kernel_rfl) rfl aj (aa (dh (vs := [(.bool (false)), (I6 0), (.bool (false))]) h 7 rfl gz rfl rfl rfl) (ay (aN Ed (bg 5 (by kernel_rfl) rfl aj (zD (vs := [(.bool (false)), (I6 0), (.bool (false))]) h 7 [(.bool (false)), (I6 0), (.bool (false))] rfl gz rfl rfl rfl rfl rfl (ai rfl (ai rfl (ai rfl aT))) fun w h Kb => ?_)))))))
 replace Ed := aD.step Ed Kb (fun _ hx _ => .inr (hx))
 refine ay (aN Ed (cK 6 Ed rfl (by kernel_rfl) (fun w hk => ae (v := (.bool (iI.1))) rfl) (eY (by kernel_rfl) (ak (vM (aF (az (jV (vs := [(.bool (false)), (I6 0), (.bool (false))]) (v2 := (.bool (iI.1))) Tryz.results65 rfl rfl h 7 rfl gz rfl ?_))))))))
 replace h := h.pair 1 2 (by decide)
 replace h := h.pair 1 3 (by decide)
 replace h := h.pair 1 4 (by decide)
 replace h := h.pair 1 5 (by decide)
 obtain rfl := fI hs
 subst yB
 obtain ⟨o1, o2, o3⟩ := h.o8 1 (C := (cT sb yK yL (iI.2.status) (iI.2.aQ) iI.2.frames vX iI.2.cells vY)) rfl ⟨⟨⟨⟨trivial, trivial⟩, trivial⟩, trivial⟩, trivial⟩
 exact ⟨o2, yK, yL, vX, vY, rfl, o1, o3⟩
 refine nG (aa (bD rfl rfl) (aa (ae (v := (.bool (decide ((aK.op : Int) = 5)))) rfl) (nN (aH hs rfl (fun c88 hs => ?_) (fun c88 hs => ?_)))))
 refine aO ?_
 replace h := h.iQ 3 8 rfl rfl (by decide) (kH (aG e4).2) e9 rfl
 refine kL (L := (fun b => Chunk.own' (cT sb gV vs1 (sx.status) (sx.aQ) (sx.frames.set (((sx.frames.length : Int) - 1)).toNat ({ x3 with at_ := (min (x3.at_ + 1) ((aX.code.length : Int) - 1)) })) j6 sx.cells jJ) b ∨ b = b1)) mixed h fun w h => bA 1 (aD.refl _ _) rfl aj (by kernel_rfl) (by kernel_rfl) (by kernel_rfl) (fun w hk => ah (v := (.pointer (some ⟨sb, 0, none⟩))) rfl) (bA 2 (aD.refl _ _) rfl aj (by kernel_rfl) (by kernel_rfl) (by kernel_rfl) (fun w hk => have h := ((((h.pair 1 2 (by decide)).pair 1 3 (by decide)).pair 1 4 (by decide)).pair 1 5 (by decide)).Gy 1 7 (by decide) rfl rfl hk; dh (vs := [(I6 aK.op), (I6 aK.a), (I6 aK.b), (I6 aK.c), kF]) h 177 rfl qI rfl rfl rfl) ?_)
 obtain ⟨iJ, Pj, hs⟩ := aJ hs
 obtain ⟨ws100, XN⟩ : ∃ x, x = w := ⟨_, rfl⟩
 have xO : aD (fun b => Chunk.own' (cT sb gV vs1 (sx.status) (sx.aQ) (sx.frames.set (((sx.frames.length : Int) - 1)).toNat ({ x3 with at_ := (min (x3.at_ + 1) ((aX.code.length : Int) - 1)) })) j6 sx.cells jJ) b ∨ b = b1) ws100 w := XN ▸ aD.refl (fun b => Chunk.own' (cT sb gV vs1 (sx.status) (sx.aQ) (sx.frames.set (((sx.frames.length : Int) - 1)).toNat ({ x3 with at_ := (min (x3.at_ + 1) ((aX.code.length : Int) - 1)) })) j6 sx.cells jJ) b ∨ b = b1) w
 refine rU XN.symm (lu 0 3 (by kernel_rfl) rfl aj rfl aj ?_ ?_)
 refine aa (dh (vs := [(.bool (false)), (I6 0), (.bool (false))]) h 7 rfl gz rfl rfl rfl) (ay (aN xO (bg 3 (by kernel_rfl) rfl aj ?_)))
 replace h := h.pair 1 2 (by decide)
 replace h := h.pair 1 3 (by decide)
 replace h := h.pair 1 4 (by decide)
 replace h := h.pair 1 5 (by decide)
 obtain ⟨H9, Ia, Ib⟩ := h.kC 1 (C := (cT sb gV vs1 (sx.status) (sx.aQ) (sx.frames.set (((sx.frames.length : Int) - 1)).toNat ({ x3 with at_ := (min (x3.at_ + 1) ((aX.code.length : Int) - 1)) })) j6 sx.cells jJ)) rfl ⟨⟨⟨⟨trivial, trivial⟩, trivial⟩, trivial⟩, trivial⟩
 refine aR Wi rfl rfl (J3 N _ _ Ib sb (⟨(sx.frames.set (((sx.frames.length : Int) - 1)).toNat ({ x3 with at_ := (min (x3.at_ + 1) ((aX.code.length : Int) - 1)) })), sx.cells, sx.status, sx.aQ⟩ : LX.State) gV vs1 j6 jJ H9 Ia aK kF (h.Er 1 154 rfl rfl) _ Pj) ?_
 rintro _ w ⟨De, yM, yN, vZ, wm, rfl, Kc, Ic⟩
 refine ⟨_, rfl, ?_⟩
 replace h := h.back 1 (C := (cT sb gV vs1 (sx.status) (sx.aQ) (sx.frames.set (((sx.frames.length : Int) - 1)).toNat ({ x3 with at_ := (min (x3.at_ + 1) ((aX.code.length : Int) - 1)) })) j6 sx.cells jJ)) (C' := (cT sb yM yN (iJ.2.status) (iJ.2.aQ) iJ.2.frames vZ iJ.2.cells wm)) rfl ⟨⟨⟨⟨trivial, trivial⟩, trivial⟩, trivial⟩, trivial⟩ Kc De Ic
 replace h := h.bN 1 5 (by decide) rfl rfl
 replace h := h.bN 1 4 (by decide) rfl rfl
 replace h := h.bN 1 3 (by decide) rfl rfl
 replace h := h.bN 1 2 (by decide) rfl rfl
 replace xO := aD.step xO De (fun _ hx _ => .inl (hx))
 refine ay (aN xO (bg 4 (by kernel_rfl) rfl aj (zD (vs := [(.bool (false)), (I6 0), (.bool (false))]) h 7 [(.bool (false)), (I6 0), (.bool (false))] rfl gz rfl rfl rfl rfl rfl (ai rfl (ai rfl (ai rfl aT))) fun w h Ke => ?_)))
 replace xO := aD.step xO Ke (fun _ hx _ => .inr (hx))
 refine ay (aN xO (cK 5 xO rfl (by kernel_rfl) (fun w hk => ae (v := (.bool (iJ.1))) rfl) (eY (by kernel_rfl) (ak (vM (aF (az (jV (vs := [(.bool (false)), (I6 0), (.bool (false))]) (v2 := (.bool (iJ.1))) Tryz.results65 rfl rfl h 7 rfl gz rfl ?_))))))))
 replace h := h.pair 1 2 (by decide)
 replace h := h.pair 1 3 (by decide)
 replace h := h.pair 1 4 (by decide)
 replace h := h.pair 1 5 (by decide)
 obtain rfl := fI hs
 subst yB
 obtain ⟨o1, o2, o3⟩ := h.o8 1 (C := (cT sb yM yN (iJ.2.status) (iJ.2.aQ) iJ.2.frames vZ iJ.2.cells wm)) rfl ⟨⟨⟨⟨trivial, trivial⟩, trivial⟩, trivial⟩, trivial⟩
 exact ⟨o2, yM, yN, vZ, wm, rfl, o1, o3⟩
 replace h := h.pair 1 2 (by decide)
 replace h := h.pair 1 3 (by decide)
 replace h := h.pair 1 4 (by decide)
 replace h := h.pair 1 5 (by decide)
 obtain ⟨H9, Ia, Ib⟩ := h.kC 1 (C := (cT sb gV vs1 (sx.status) (sx.aQ) (sx.frames.set (((sx.frames.length : Int) - 1)).toNat ({ x3 with at_ := (min (x3.at_ + 1) ((aX.code.length : Int) - 1)) })) j6 sx.cells jJ)) rfl ⟨⟨⟨⟨trivial, trivial⟩, trivial⟩, trivial⟩, trivial⟩
 refine aR Wi rfl rfl (J3 N _ _ Ib sb (⟨(sx.frames.set (((sx.frames.length : Int) - 1)).toNat ({ x3 with at_ := (min (x3.at_ + 1) ((aX.code.length : Int) - 1)) })), sx.cells, sx.status, sx.aQ⟩ : LX.State) gV vs1 j6 jJ H9 Ia aK kF (h.Er 1 154 rfl rfl) _ Pj) ?_
 rintro _ w ⟨De, yM, yN, vZ, wm, rfl, Kc, Ic⟩
 refine ⟨_, rfl, ?_⟩
 replace h := h.back 1 (C := (cT sb gV vs1 (sx.status) (sx.aQ) (sx.frames.set (((sx.frames.length : Int) - 1)).toNat ({ x3 with at_ := (min (x3.at_ + 1) ((aX.code.length : Int) - 1)) })) j6 sx.cells jJ)) (C' := (cT sb yM yN (iJ.2.status) (iJ.2.aQ) iJ.2.frames vZ iJ.2.cells wm)) rfl ⟨⟨⟨⟨trivial, trivial⟩, trivial⟩, trivial⟩, trivial⟩ Kc De Ic
 replace h := h.bN 1 5 (by decide) rfl rfl
 replace h := h.bN 1 4 (by decide) rfl rfl
 replace h := h.bN 1 3 (by decide) rfl rfl
 replace h := h.bN 1 2 (by decide) rfl rfl
 replace xO := aD.step xO De (fun _ hx _ => .inl (hx))
 refine ay (aN xO (bg 0 (by kernel_rfl) rfl aj (aa (dh (vs := [(.bool (false)), (I6 0), (.bool (false))]) h 7 rfl gz rfl rfl rfl) (ay (aN xO (bg 4 (by kernel_rfl) rfl aj (zD (vs := [(.bool (false)), (I6 0), (.bool (false))]) h 7 [(.bool (false)), (I6 0), (.bool (false))] rfl gz rfl rfl rfl rfl rfl (ai rfl (ai rfl (ai rfl aT))) fun w h Ke => ?_)))))))
 replace xO := aD.step xO Ke (fun _ hx _ => .inr (hx))
 refine ay (aN xO (cK 5 xO rfl (by kernel_rfl) (fun w hk => ae (v := (.bool (iJ.1))) rfl) (eY (by kernel_rfl) (ak (vM (aF (az (jV (vs := [(.bool (false)), (I6 0), (.bool (false))]) (v2 := (.bool (iJ.1))) Tryz.results65 rfl rfl h 7 rfl gz rfl ?_))))))))
 replace h := h.pair 1 2 (by decide)
 replace h := h.pair 1 3 (by decide)
 replace h := h.pair 1 4 (by decide)
 replace h := h.pair 1 5 (by decide)
 obtain rfl := fI hs
 subst yB
 obtain ⟨o1, o2, o3⟩ := h.o8 1 (C := (cT sb yM yN (iJ.2.status) (iJ.2.aQ) iJ.2.frames vZ iJ.2.cells wm)) rfl ⟨⟨⟨⟨trivial, trivial⟩, trivial⟩, trivial⟩, trivial⟩
 exact ⟨o2, yM, yN, vZ, wm, rfl, o1, o3⟩
 refine nG (aa (bD rfl rfl) (aa (ae (v := (.bool (decide ((aK.op : Int) = 7)))) rfl) (nN (aH hs rfl (fun WW hs => ?_) (fun WW hs => ?_)))))
 refine aO ?_
 replace h := h.iQ 3 8 rfl rfl (by decide) (kH (aG e4).2) e9 rfl
 refine kL (L := (fun b => Chunk.own' (cT sb gV vs1 (sx.status) (sx.aQ) (sx.frames.set (((sx.frames.length : Int) - 1)).toNat ({ x3 with at_ := (min (x3.at_ + 1) ((aX.code.length : Int) - 1)) })) j6 sx.cells jJ) b ∨ b = b1)) mixed h fun w h => bA 1 (aD.refl _ _) rfl aj (by kernel_rfl) (by kernel_rfl) (by kernel_rfl) (fun w hk => ah (v := va) rfl) (bA 2 (aD.refl _ _) rfl aj (by kernel_rfl) (by kernel_rfl) (by kernel_rfl) (fun w hk => ah (v := (.pointer (some ⟨sb, 0, none⟩))) rfl) (bA 3 (aD.refl _ _) rfl aj (by kernel_rfl) (by kernel_rfl) (by kernel_rfl) (fun w hk => have h := ((((h.pair 1 2 (by decide)).pair 1 3 (by decide)).pair 1 4 (by decide)).pair 1 5 (by decide)).Gy 1 7 (by decide) rfl rfl hk; dh (vs := [(I6 aK.op), (I6 aK.a), (I6 aK.b), (I6 aK.c), kF]) h 177 rfl qI rfl rfl rfl) ?_))
 obtain ⟨fZ, L8, hs⟩ := aJ hs
 obtain ⟨ws114, XO⟩ : ∃ x, x = w := ⟨_, rfl⟩
 have xP : aD (fun b => Chunk.own' (cT sb gV vs1 (sx.status) (sx.aQ) (sx.frames.set (((sx.frames.length : Int) - 1)).toNat ({ x3 with at_ := (min (x3.at_ + 1) ((aX.code.length : Int) - 1)) })) j6 sx.cells jJ) b ∨ b = b1) ws114 w := XO ▸ aD.refl (fun b => Chunk.own' (cT sb gV vs1 (sx.status) (sx.aQ) (sx.frames.set (((sx.frames.length : Int) - 1)).toNat ({ x3 with at_ := (min (x3.at_ + 1) ((aX.code.length : Int) - 1)) })) j6 sx.cells jJ) b ∨ b = b1) w
 refine rU XO.symm (lu 0 4 (by kernel_rfl) rfl aj rfl aj ?_ ?_)
 refine aa (dh (vs := [(.bool (false)), (I6 0), (.bool (false))]) h 7 rfl gz rfl rfl rfl) (ay (aN xP (bg 4 (by kernel_rfl) rfl aj ?_)))
 replace h := h.pair 1 2 (by decide)
 replace h := h.pair 1 3 (by decide)
 replace h := h.pair 1 4 (by decide)
 replace h := h.pair 1 5 (by decide)
 obtain ⟨ES, ET, EU⟩ := h.kC 1 (C := (cT sb gV vs1 (sx.status) (sx.aQ) (sx.frames.set (((sx.frames.length : Int) - 1)).toNat ({ x3 with at_ := (min (x3.at_ + 1) ((aX.code.length : Int) - 1)) })) j6 sx.cells jJ)) rfl ⟨⟨⟨⟨trivial, trivial⟩, trivial⟩, trivial⟩, trivial⟩
 refine aR Wj rfl rfl (LU _ _ EU sb (⟨(sx.frames.set (((sx.frames.length : Int) - 1)).toNat ({ x3 with at_ := (min (x3.at_ + 1) ((aX.code.length : Int) - 1)) })), sx.cells, sx.status, sx.aQ⟩ : LX.State) gV vs1 j6 jJ ES ET va a (h.Er 1 6 rfl rfl) aK kF (h.Er 1 154 rfl rfl) _ L8) ?_
 rintro _ w ⟨AU, wo, wu, tC, tF, rfl, Ie, EW⟩
 refine ⟨_, rfl, ?_⟩
 replace h := h.back 1 (C := (cT sb gV vs1 (sx.status) (sx.aQ) (sx.frames.set (((sx.frames.length : Int) - 1)).toNat ({ x3 with at_ := (min (x3.at_ + 1) ((aX.code.length : Int) - 1)) })) j6 sx.cells jJ)) (C' := (cT sb wo wu (fZ.2.status) (fZ.2.aQ) fZ.2.frames tC fZ.2.cells tF)) rfl ⟨⟨⟨⟨trivial, trivial⟩, trivial⟩, trivial⟩, trivial⟩ Ie AU EW
 replace h := h.bN 1 5 (by decide) rfl rfl
 replace h := h.bN 1 4 (by decide) rfl rfl
 replace h := h.bN 1 3 (by decide) rfl rfl
 replace h := h.bN 1 2 (by decide) rfl rfl
 replace xP := aD.step xP AU (fun _ hx _ => .inl (hx))
 refine ay (aN xP (bg 5 (by kernel_rfl) rfl aj (zD (vs := [(.bool (false)), (I6 0), (.bool (false))]) h 7 [(.bool (false)), (I6 0), (.bool (false))] rfl gz rfl rfl rfl rfl rfl (ai rfl (ai rfl (ai rfl aT))) fun w h Ig => ?_)))
 replace xP := aD.step xP Ig (fun _ hx _ => .inr (hx))
 refine ay (aN xP (cK 6 xP rfl (by kernel_rfl) (fun w hk => ae (v := (.bool (fZ.1))) rfl) (eY (by kernel_rfl) (ak (vM (aF (az (jV (vs := [(.bool (false)), (I6 0), (.bool (false))]) (v2 := (.bool (fZ.1))) Tryz.results65 rfl rfl h 7 rfl gz rfl ?_))))))))
 replace h := h.pair 1 2 (by decide)
 replace h := h.pair 1 3 (by decide)
 replace h := h.pair 1 4 (by decide)
 replace h := h.pair 1 5 (by decide)
 obtain rfl := fI hs
 subst yB
 obtain ⟨o1, o2, o3⟩ := h.o8 1 (C := (cT sb wo wu (fZ.2.status) (fZ.2.aQ) fZ.2.frames tC fZ.2.cells tF)) rfl ⟨⟨⟨⟨trivial, trivial⟩, trivial⟩, trivial⟩, trivial⟩
 exact ⟨o2, wo, wu, tC, tF, rfl, o1, o3⟩
 replace h := h.pair 1 2 (by decide)
 replace h := h.pair 1 3 (by decide)
 replace h := h.pair 1 4 (by decide)
 replace h := h.pair 1 5 (by decide)
 obtain ⟨ES, ET, EU⟩ := h.kC 1 (C := (cT sb gV vs1 (sx.status) (sx.aQ) (sx.frames.set (((sx.frames.length : Int) - 1)).toNat ({ x3 with at_ := (min (x3.at_ + 1) ((aX.code.length : Int) - 1)) })) j6 sx.cells jJ)) rfl ⟨⟨⟨⟨trivial, trivial⟩, trivial⟩, trivial⟩, trivial⟩
 refine aR Wj rfl rfl (LU _ _ EU sb (⟨(sx.frames.set (((sx.frames.length : Int) - 1)).toNat ({ x3 with at_ := (min (x3.at_ + 1) ((aX.code.length : Int) - 1)) })), sx.cells, sx.status, sx.aQ⟩ : LX.State) gV vs1 j6 jJ ES ET va a (h.Er 1 6 rfl rfl) aK kF (h.Er 1 154 rfl rfl) _ L8) ?_
 rintro _ w ⟨AU, wo, wu, tC, tF, rfl, Ie, EW⟩
 refine ⟨_, rfl, ?_⟩
 replace h := h.back 1 (C := (cT sb gV vs1 (sx.status) (sx.aQ) (sx.frames.set (((sx.frames.length : Int) - 1)).toNat ({ x3 with at_ := (min (x3.at_ + 1) ((aX.code.length : Int) - 1)) })) j6 sx.cells jJ)) (C' := (cT sb wo wu (fZ.2.status) (fZ.2.aQ) fZ.2.frames tC fZ.2.cells tF)) rfl ⟨⟨⟨⟨trivial, trivial⟩, trivial⟩, trivial⟩, trivial⟩ Ie AU EW
 replace h := h.bN 1 5 (by decide) rfl rfl
 replace h := h.bN 1 4 (by decide) rfl rfl
 replace h := h.bN 1 3 (by decide) rfl rfl
 replace h := h.bN 1 2 (by decide) rfl rfl
 replace xP := aD.step xP AU (fun _ hx _ => .inl (hx))
 refine ay (aN xP (bg 0 (by kernel_rfl) rfl aj (aa (dh (vs := [(.bool (false)), (I6 0), (.bool (false))]) h 7 rfl gz rfl rfl rfl) (ay (aN xP (bg 5 (by kernel_rfl) rfl aj (zD (vs := [(.bool (false)), (I6 0), (.bool (false))]) h 7 [(.bool (false)), (I6 0), (.bool (false))] rfl gz rfl rfl rfl rfl rfl (ai rfl (ai rfl (ai rfl aT))) fun w h Ig => ?_)))))))
 replace xP := aD.step xP Ig (fun _ hx _ => .inr (hx))
 refine ay (aN xP (cK 6 xP rfl (by kernel_rfl) (fun w hk => ae (v := (.bool (fZ.1))) rfl) (eY (by kernel_rfl) (ak (vM (aF (az (jV (vs := [(.bool (false)), (I6 0), (.bool (false))]) (v2 := (.bool (fZ.1))) Tryz.results65 rfl rfl h 7 rfl gz rfl ?_))))))))
 replace h := h.pair 1 2 (by decide)
 replace h := h.pair 1 3 (by decide)
 replace h := h.pair 1 4 (by decide)
 replace h := h.pair 1 5 (by decide)
 obtain rfl := fI hs
 subst yB
 obtain ⟨o1, o2, o3⟩ := h.o8 1 (C := (cT sb wo wu (fZ.2.status) (fZ.2.aQ) fZ.2.frames tC fZ.2.cells tF)) rfl ⟨⟨⟨⟨trivial, trivial⟩, trivial⟩, trivial⟩, trivial⟩
 exact ⟨o2, wo, wu, tC, tF, rfl, o1, o3⟩
 refine nG (aa (bD rfl rfl) (aa (ae (v := (.bool (decide ((aK.op : Int) = 8)))) rfl) (nN (aH hs rfl (fun c116 hs => ?_) (fun c116 hs => ?_)))))
 refine sI 10 mixed (by kernel_rfl) h fun w h => aM (ah (v := (.pointer (some ⟨sb, 0, none⟩))) rfl) (aM (ah (v := u8) rfl) (aM (ag kU rfl) (aM (aA h 177 rfl aU rfl rfl) ?_)))
 obtain ⟨XD, e118, hs⟩ := aJ hs
 obtain ⟨b120, q121, i119⟩ := h.xL 8 rfl bH rfl (aG e118).1 (aG e118).2
 refine aM (i119 _ _ _ _ _ _ _ _ _ rfl rfl) ?_
 obtain ⟨cs122, m123, r124⟩ := h.zV 8 rfl q121 (aG e118).2
 obtain rfl := r124
 refine aM (oZ (k := 0) (vs := [(I6 XD.kind), (I6 XD.n)]) m123 bS rfl rfl rfl (bC rfl)) (aM (ah (v := (.pointer (some ⟨b6, (((sx.frames.length : Int) - 1)).toNat * 4, none⟩))) rfl) (aM (bz rfl) (aM (ag zt rfl) ?_)))
 obtain ⟨cs125, m126, r127⟩ := h.zV 2 rfl q7 (fw (kH (aG e4).2) e9)
 obtain ⟨rfl, -⟩ := r127
 refine aM (qa (k := 3) m126 aU rfl rfl) (Ch ?_)
 replace h := h.iQ 3 8 rfl rfl (by decide) (kH (aG e4).2) e9 rfl
 replace h := h.pair 1 2 (by decide)
 replace h := h.pair 1 3 (by decide)
 replace h := h.pair 1 4 (by decide)
 replace h := h.pair 1 5 (by decide)
 obtain ⟨l128a, l128b, l128c⟩ := h.kC 1 (C := (cT sb gV vs1 (sx.status) (sx.aQ) (sx.frames.set (((sx.frames.length : Int) - 1)).toNat ({ x3 with at_ := (min (x3.at_ + 1) ((aX.code.length : Int) - 1)) })) j6 sx.cells jJ)) rfl ⟨⟨⟨⟨trivial, trivial⟩, trivial⟩, trivial⟩, trivial⟩
 obtain ⟨Ht, e130, hs⟩ := aJ hs
 refine aR fnOk91 rfl rfl (Uh _ _ l128c sb (⟨(sx.frames.set (((sx.frames.length : Int) - 1)).toNat ({ x3 with at_ := (min (x3.at_ + 1) ((aX.code.length : Int) - 1)) })), sx.cells, sx.status, sx.aQ⟩ : LX.State) gV vs1 j6 jJ l128a l128b XD x3.kP _ e130) ?_
 rintro _ w ⟨k135, u131, u133, us132, us134, rfl, h136, h137⟩
 refine ⟨_, rfl, ?_⟩
 replace h := h.back 1 (C := (cT sb gV vs1 (sx.status) (sx.aQ) (sx.frames.set (((sx.frames.length : Int) - 1)).toNat ({ x3 with at_ := (min (x3.at_ + 1) ((aX.code.length : Int) - 1)) })) j6 sx.cells jJ)) (C' := (cT sb u131 u133 (Ht.status) (Ht.aQ) Ht.frames us132 Ht.cells us134)) rfl ⟨⟨⟨⟨trivial, trivial⟩, trivial⟩, trivial⟩, trivial⟩ h136 k135 h137
 replace h := h.bN 1 5 (by decide) rfl rfl
 replace h := h.bN 1 4 (by decide) rfl rfl
 replace h := h.bN 1 3 (by decide) rfl rfl
 replace h := h.bN 1 2 (by decide) rfl rfl
 refine ay (ax (au ?_))
 exact bP (false, u131, us132, Ht.frames, u133, us134, Ht.cells, Ht.status, Ht.aQ) ⟨h.cn _, hs⟩
 refine nG (aa (bD rfl rfl) (aa (ae (v := (.bool (decide ((aK.op : Int) = 9)))) rfl) (nN (aH hs rfl (fun c138 hs => ?_) (fun c138 hs => ?_)))))
 refine aO (kL (L := (fun x => x = b1)) mixed h fun w h => bA 0 (aD.refl _ _) rfl aj (by kernel_rfl) (by kernel_rfl) (by kernel_rfl) (fun w hk => ah (v := u8) rfl) (bA 1 (aD.refl _ _) rfl aj (by kernel_rfl) (by kernel_rfl) (by kernel_rfl) (fun w hk => ag kU rfl) (bA 2 (aD.refl _ _) rfl aj (by kernel_rfl) (by kernel_rfl) (by kernel_rfl) (fun w hk => have h := h.oQ 7 rfl hk; aA h 177 rfl aU rfl rfl) ?_)))
 obtain ⟨oJ, ym, hs⟩ := aJ hs
 obtain ⟨bq142x3_4, L9, Uw⟩ := h.xL 8 rfl bH rfl (aG ym).1 (aG ym).2
 refine bA 3 (aD.refl _ _) rfl aj (by kernel_rfl) (by kernel_rfl) (by kernel_rfl) (fun w hk => Uw _ _ _ _ _ _ _ _ _ rfl rfl) (bA 4 (aD.refl _ _) rfl aj (by kernel_rfl) (by kernel_rfl) (by kernel_rfl) (fun w hk => ag iq rfl) ?_)
 obtain ⟨csq142x5_1, Ux, Uy⟩ := h.zV 8 rfl L9 (aG ym).2
 obtain rfl := Uy
 have Uz : ¬ (_ = b1) := (h.apart 8 7 (by decide) _ L9)
 refine bA 5 (aD.refl _ _) rfl aj (by kernel_rfl) (by kernel_rfl) (by kernel_rfl) (fun w hk => have h := h.oQ 7 rfl hk; qa (k := 1) (Ux.hold hk Uz) aU rfl rfl) (bA 6 (aD.refl _ _) rfl aj (by kernel_rfl) (by kernel_rfl) (by kernel_rfl) (fun w hk => dH (pv := [(0, (.bool (true))), (1, (I6 oJ.n))]) (out := [(.bool (true)), (I6 oJ.n), (.bool (false))]) Tw rfl ⟨0, 1, [(.bool (true))], rfl, rfl, rfl, bC rfl, ⟨1, 1, [(I6 oJ.n)], rfl, rfl, rfl, bC rfl, rfl⟩⟩) (bA 7 (aD.refl _ _) rfl aj (by kernel_rfl) (by kernel_rfl) (by kernel_rfl) (fun w hk => ah (v := u8) rfl) (bA 8 (aD.refl _ _) rfl aj (by kernel_rfl) (by kernel_rfl) (by kernel_rfl) (fun w hk => ag kU rfl) (bA 9 (aD.refl _ _) rfl aj (by kernel_rfl) (by kernel_rfl) (by kernel_rfl) (fun w hk => have h := h.oQ 7 rfl hk; aA h 177 rfl aU rfl rfl) ?_))))
 obtain ⟨bq142x10_2, Kg, Q8⟩ := h.xL 8 rfl bH rfl (aG ym).1 (aG ym).2
 refine bA 10 (aD.refl _ _) rfl aj (by kernel_rfl) (by kernel_rfl) (by kernel_rfl) (fun w hk => Q8 _ _ _ _ _ _ _ _ _ rfl rfl) (bA 11 (aD.refl _ _) rfl aj (by kernel_rfl) (by kernel_rfl) (by kernel_rfl) (fun w hk => ag sP rfl) ?_)
 obtain ⟨csq142x12_1, Q9, Ra⟩ := h.zV 8 rfl Kg (aG ym).2
 obtain rfl := Ra
 have Rb : ¬ (_ = b1) := (h.apart 8 7 (by decide) _ Kg)
 refine bA 12 (aD.refl _ _) rfl aj (by kernel_rfl) (by kernel_rfl) (by kernel_rfl) (fun w hk => have h := h.oQ 7 rfl hk; qa (k := 0) (Q9.hold hk Rb) aU rfl rfl) (bA 13 (aD.refl _ _) rfl aj (by kernel_rfl) (by kernel_rfl) (by kernel_rfl) (fun w hk => bD rfl rfl) ?_)
 obtain ⟨ws143, XP⟩ : ∃ x, x = w := ⟨_, rfl⟩
 have Sv : aD (fun x => x = b1) ws143 w := XP ▸ aD.refl (fun x => x = b1) w
 refine rU XP.symm (bg 14 (by kernel_rfl) rfl aj (zD (vs := [(.bool (true)), (I6 oJ.n), (.bool (false))]) h 7 [(.bool (true)), (I6 oJ.n), (.bool (false))] rfl gz rfl rfl rfl rfl rfl (ai rfl (ai rfl (ai rfl aT))) fun w h Rc => ?_))
 replace Sv := Sv.same Rc
 refine ay (aN Sv (cK 15 Sv rfl (by kernel_rfl) (fun w hk => ae (v := (.bool (decide ((oJ.kind : Int) = 1)))) rfl) (eY (by kernel_rfl) (ak (vM (aF (az (jV (vs := [(.bool (true)), (I6 oJ.n), (.bool (false))]) (v2 := (.bool (decide ((oJ.kind : Int) = 1)))) Tryz.results65 rfl rfl h 7 rfl gz rfl ?_))))))))
 replace h := h.iQ 3 8 rfl rfl (by decide) (kH (aG e4).2) e9 rfl
 replace h := h.pair 1 2 (by decide)
 replace h := h.pair 1 3 (by decide)
 replace h := h.pair 1 4 (by decide)
 replace h := h.pair 1 5 (by decide)
 obtain rfl := fI hs
 subst yB
 obtain ⟨o1, o2, o3⟩ := h.o8 1 (C := (cT sb gV vs1 (sx.status) (sx.aQ) (sx.frames.set (((sx.frames.length : Int) - 1)).toNat ({ x3 with at_ := (min (x3.at_ + 1) ((aX.code.length : Int) - 1)) })) j6 sx.cells jJ)) rfl ⟨⟨⟨⟨trivial, trivial⟩, trivial⟩, trivial⟩, trivial⟩
 exact ⟨o2, gV, vs1, j6, jJ, rfl, o1, o3⟩
 refine nG (aa (bD rfl rfl) (aa (ae (v := (.bool (decide ((aK.op : Int) = 10)))) rfl) (nN (aH hs rfl (fun c145 hs => ?_) (fun c145 hs => ?_)))))
 refine aB (aa (ag JD rfl) (eH h 7 [(.bool (false)), (I6 0), (.bool (true))] rfl xz rfl rfl rfl rfl rfl fun w h => ay (ax ?_)))
 replace h := h.iQ 3 8 rfl rfl (by decide) (kH (aG e4).2) e9 rfl
 refine au ?_
 exact bP (true, gV, j6, (sx.frames.set (((sx.frames.length : Int) - 1)).toNat ({ x3 with at_ := (min (x3.at_ + 1) ((aX.code.length : Int) - 1)) })), vs1, jJ, sx.cells, sx.status, sx.aQ) ⟨h.cn _, hs⟩
 refine nG (aa (bD rfl rfl) (aa (ae (v := (.bool (decide ((aK.op : Int) = 11)))) rfl) (nN (aH hs rfl (fun c146 hs => ?_) (fun c146 hs => ?_)))))
 refine aO (nG (aa (ah (v := u8) rfl) (aa (ag kU rfl) (aa (aA h 177 rfl aU rfl rfl) ?_))))
 obtain ⟨XE, UA, hs⟩ := aJ hs
 obtain ⟨b150, q151, i149⟩ := h.xL 8 rfl bH rfl (aG UA).1 (aG UA).2
 refine aa (i149 _ _ _ _ _ _ _ _ _ rfl rfl) (aa (ag sP rfl) ?_)
 obtain ⟨cs152, m153, r154⟩ := h.zV 8 rfl q151 (aG UA).2
 obtain rfl := r154
 refine aa (qa (k := 0) m153 aU rfl rfl) (aa (iP rfl rfl) (nN (aH hs rfl (fun c155 hs => ?_) (fun c155 hs => ?_))))
 refine nG (aa (dh (vs := [(.bool (false)), (I6 0), (.bool (false))]) h 7 rfl gz rfl rfl rfl) (dn (vs := [(.bool (false)), (I6 0), (.bool (false))]) h 7 [(.bool (false)), (I6 0), (.bool (false))] rfl gz rfl rfl rfl rfl rfl (ai rfl (ai rfl (ai rfl aT))) fun w h => aa (ae (v := (.bool (false))) rfl) (nR (az (aF (az (jV (vs := [(.bool (false)), (I6 0), (.bool (false))]) (v2 := (.bool (false))) Tryz.results65 rfl rfl h 7 rfl gz rfl ?_)))))))
 replace h := h.iQ 3 8 rfl rfl (by decide) (kH (aG e4).2) e9 rfl
 replace h := h.pair 1 2 (by decide)
 replace h := h.pair 1 3 (by decide)
 replace h := h.pair 1 4 (by decide)
 replace h := h.pair 1 5 (by decide)
 obtain rfl := fI hs
 subst yB
 obtain ⟨o1, o2, o3⟩ := h.o8 1 (C := (cT sb gV vs1 (sx.status) (sx.aQ) (sx.frames.set (((sx.frames.length : Int) - 1)).toNat ({ x3 with at_ := (min (x3.at_ + 1) ((aX.code.length : Int) - 1)) })) j6 sx.cells jJ)) rfl ⟨⟨⟨⟨trivial, trivial⟩, trivial⟩, trivial⟩, trivial⟩
 exact ⟨o2, gV, vs1, j6, jJ, rfl, o1, o3⟩
 refine aI (ak (aB (aa (ah (v := (.pointer (some ⟨sb, 0, none⟩))) rfl) (aa (ah (v := (.pointer (some ⟨sb, 0, none⟩))) rfl) (aa (ah (v := u8) rfl) (aa (ag kU rfl) (aa (aA h 177 rfl aU rfl rfl) ?_)))))))
 obtain ⟨b157, q158, i156⟩ := h.xL 8 rfl bH rfl (aG UA).1 (aG UA).2
 refine aa (i156 _ _ _ _ _ _ _ _ _ rfl rfl) (aa (ag iq rfl) ?_)
 obtain ⟨cs159, m160, r161⟩ := h.zV 8 rfl q158 (aG UA).2
 obtain rfl := r161
 refine aa (qa (k := 1) m160 aU rfl rfl) (aa (bz rfl) (aa (ag nV rfl) (eH h 1 [gV, vs1, (I6 3), (I6 sx.aQ)] rfl aU rfl rfl rfl rfl rfl fun w h => aa (bz rfl) (aa (ag wC rfl) (eH h 1 [gV, vs1, (I6 3), (I6 XE.n)] rfl aU rfl rfl rfl rfl rfl fun w h => aa (ag JD rfl) (eH h 7 [(.bool (false)), (I6 0), (.bool (true))] rfl xz rfl rfl rfl rfl rfl fun w h => ay (ax ?_)))))))
 replace h := h.iQ 3 8 rfl rfl (by decide) (kH (aG e4).2) e9 rfl
 refine au ?_
 exact bP (true, gV, j6, (sx.frames.set (((sx.frames.length : Int) - 1)).toNat ({ x3 with at_ := (min (x3.at_ + 1) ((aX.code.length : Int) - 1)) })), vs1, jJ, sx.cells, 3, XE.n) ⟨h.cn _, hs⟩
 refine nG (aa (bD rfl rfl) (aa (ae (v := (.bool (decide ((aK.op : Int) = 12)))) rfl) (nN (aH hs rfl (fun c162 hs => ?_) (fun c162 hs => ?_)))))
 refine aB (aa (ah (v := (.pointer (some ⟨b6, (((sx.frames.length : Int) - 1)).toNat * 4, none⟩))) rfl) (aa (ag iZ rfl) (aa (aA h 177 rfl aU rfl rfl) (aa (bz rfl) (aa (ag sO rfl) (Li (a' := (({ x3 with at_ := aK.b }), u8)) h 2 rfl q7 rfl (fw (kH (aG e4).2) e9) aU rfl rfl rfl rfl (by rintro _ ⟨rfl, hq⟩; exact ⟨rfl, hq⟩) fun w h => ?_))))))
 rw [Jv e9] at h
 replace h := h.famL 3 ({ x3 with at_ := aK.b }) rfl
 refine ay (ax ?_)
 replace h := h.iQ 3 8 rfl rfl (by decide) (kH (kH (aG e4).2)) e9 rfl
 refine au ?_
 exact bP (false, gV, j6, ((sx.frames.set (((sx.frames.length : Int) - 1)).toNat ({ x3 with at_ := (min (x3.at_ + 1) ((aX.code.length : Int) - 1)) })).set (((sx.frames.length : Int) - 1)).toNat ({ x3 with at_ := aK.b })), vs1, jJ, sx.cells, sx.status, sx.aQ) ⟨h.cn _, hs⟩
 refine nG (aa (bD rfl rfl) (aa (ae (v := (.bool (decide ((aK.op : Int) = 13)))) rfl) (nN (aH hs rfl (fun c163 hs => ?_) (fun c163 hs => ?_)))))
 refine nG (aa (ah (v := u8) rfl) (aa (ag kU rfl) (aa (aA h 177 rfl aU rfl rfl) ?_)))
 obtain ⟨ER, e165, hs⟩ := aJ hs
 obtain ⟨b167, q168, i166⟩ := h.xL 8 rfl bH rfl (aG e165).1 (aG e165).2
 refine aa (i166 _ _ _ _ _ _ _ _ _ rfl rfl) ?_
 obtain ⟨cs169, m170, r171⟩ := h.zV 8 rfl q168 (aG e165).2
 obtain rfl := r171
 refine aa (oZ (k := 0) (vs := [(I6 ER.kind), (I6 ER.n)]) m170 bS rfl rfl rfl (bC rfl)) (bO h 995 bS fun w b172 h => dn (vs := [(I6 ER.kind), (I6 ER.n)]) h 995 [(I6 ER.kind), (I6 ER.n)] rfl bS rfl rfl rfl rfl rfl (ai rfl (ai rfl aT)) fun w h => nJ (aa (ag sP rfl) (aa (aA h 995 rfl aU rfl rfl) (aa (bD rfl rfl) (aa (ah (v := (.bool (decide ((ER.kind : Int) = 0)))) rfl) (aC rfl rfl (fun q => ag sP rfl) (aC rfl rfl (fun q => aA h 995 rfl aU (dE q) rfl) (aC rfl rfl (fun q => bD (dE q) rfl) (aC rfl rfl (fun q => ah (v := (.bool (decide ((ER.kind : Int) = 1)))) (dE q)) (nu (decide ((ER.kind : Int) = 0) == false) rfl rfl (fun q => ag iq rfl) (nu (decide ((ER.kind : Int) = 0) == false) rfl rfl (fun q => aA h 995 rfl aU (dE q) rfl) (nu (decide ((ER.kind : Int) = 0) == false) rfl rfl (fun q => bD (dE q) rfl) (aC rfl rfl (fun q => gP (dE q) (Vg q) nQ) (aa (iy rfl rfl nQ) (nN (aH hs rfl (fun c173 hs => ?_) (fun c173 hs => ?_)))))))))))))))))
 refine aB (aa (ah (v := (.pointer (some ⟨b6, (((sx.frames.length : Int) - 1)).toNat * 4, none⟩))) rfl) (aa (ag iZ rfl) (aa (aA h 177 rfl aU rfl rfl) (aa (bz rfl) (aa (ag sO rfl) (Li (a' := (({ x3 with at_ := aK.b }), u8)) h 2 rfl q7 rfl (fw (kH (aG e4).2) e9) aU rfl rfl rfl rfl (by rintro _ ⟨rfl, hq⟩; exact ⟨rfl, hq⟩) fun w h => ?_))))))
 rw [Jv e9] at h
 replace h := h.famL 3 ({ x3 with at_ := aK.b }) rfl
 refine ay (ax ?_)
 replace h := h.iQ 3 8 rfl rfl (by decide) (kH (kH (aG e4).2)) e9 rfl
 refine au ?_
 exact bP (false, gV, j6, ((sx.frames.set (((sx.frames.length : Int) - 1)).toNat ({ x3 with at_ := (min (x3.at_ + 1) ((aX.code.length : Int) - 1)) })).set (((sx.frames.length : Int) - 1)).toNat ({ x3 with at_ := aK.b })), vs1, jJ, sx.cells, sx.status, sx.aQ) ⟨h.cn _, hs⟩
 refine aI (ax ?_)
 replace h := h.iQ 3 8 rfl rfl (by decide) (kH (aG e4).2) e9 rfl
 refine au ?_
 exact bP (false, gV, j6, (sx.frames.set (((sx.frames.length : Int) - 1)).toNat ({ x3 with at_ := (min (x3.at_ + 1) ((aX.code.length : Int) - 1)) })), vs1, jJ, sx.cells, sx.status, sx.aQ) ⟨h.cn _, hs⟩
 refine aI (ax ?_)
 replace h := h.iQ 3 8 rfl rfl (by decide) (kH (aG e4).2) e9 rfl
 refine au ?_
 exact bP (false, gV, j6, (sx.frames.set (((sx.frames.length : Int) - 1)).toNat ({ x3 with at_ := (min (x3.at_ + 1) ((aX.code.length : Int) - 1)) })), vs1, jJ, sx.cells, sx.status, sx.aQ) ⟨h.cn _, hs⟩
 refine nG (aa (bD rfl rfl) (aa (ae (v := (.bool (decide ((aK.op : Int) = 4)))) rfl) (nN (aH hs rfl (fun c174 hs => ?_) (fun c174 hs => ?_)))))
 refine aI (au ?_)
 exact bP (decide ((aK.op : Int) = 4)) ⟨h.cn _, hs⟩
 refine aB (aa (bD rfl rfl) (aa (ae (v := (.bool (decide ((aK.op : Int) = 6)))) rfl) (ay (au ?_))))
 exact bP (decide ((aK.op : Int) = 6)) ⟨h.cn _, hs⟩
def uq (BR : List Int) (x20 : Int) (y23 : List LX.Frame) (N8 : List (List Val)) (y27 : Int) (y28 : Int) : Option (LX.State × List Int × Int × Int) :=
  some ((⟨y23, N8, y27, y28⟩ : LX.State), BR, x20, 0)
def yO (gW : Et × Bool × LX.State) (Fq : Int) (K7 : (List Int × Int × List LX.Frame × List (List Val) × Int × Int) → Option (LX.State × List Int × Int × Int)) (NP : List Int) : Option (LX.State × List Int × Int × Int) :=
  bif gW.1.GH then uq NP (Fq + 1) gW.2.2.frames gW.2.2.cells gW.2.2.status gW.2.2.aQ else K7 (NP, (Fq + 1), gW.2.2.frames, gW.2.2.cells, gW.2.2.status, gW.2.2.aQ)
def yP (N : Nat) (qO : List Int) (Fq : Int) (wE : List LX.Frame) (Bj : List (List Val)) (Cx : Int) (Jj : Int) (a : List bQ) (K7 : (List Int × Int × List LX.Frame × List (List Val) × Int × Int) → Option (LX.State × List Int × Int × Int)) (x93 : Bool) : Option (LX.State × List Int × Int × Int) :=
  bif x93 then uq qO Fq wE Bj Cx Jj else (DL (⟨wE, Bj, Cx, Jj⟩ : LX.State)).bind fun y95 => (pX N y95 a).bind fun gW => gJ (jI (Fq + 1)) (bif (!gW.2.1) then uq qO (Fq + 1) wE Bj 2 Jj else bif gW.1.said then gJ (Room 8 qO [gW.1.n]) (yO gW Fq K7 (qO ++ [gW.1.n])) else yO gW Fq K7 qO)
def tH (N : Nat) (c : Int) (a : List bQ) (s : List Int × Int × List LX.Frame × List (List Val) × Int × Int) (K7 : List Int × Int × List LX.Frame × List (List Val) × Int × Int → Option (LX.State × List Int × Int × Int)) : Option (LX.State × List Int × Int × Int) :=
  match s with | (qO, Fq, wE, Bj, Cx, Jj) => bif (decide ((Fq : Int) < c) && decide ((Cx : Int) = 0)) then gJ (jI ((wE.length : Int) - 1)) ((idx wE ((wE.length : Int) - 1)).bind fun x82 => bif decide (((qO.length : Int) : Int) = 40) then (idx a x82.proc).bind fun JM => (idx JM.code x82.at_).bind fun Zp => yP N qO Fq wE Bj Cx Jj a K7 (decide ((Zp.op : Int) = 9)) else yP N qO Fq wE Bj Cx Jj a K7 false) else uq qO Fq wE Bj Cx Jj
def Kh (N : Nat) (a : List bQ) (b : LX.State) (c : Int) : Option (LX.State × List Int × Int × Int) :=
  (yF a b).bind fun y3 => bif decide ((y3 : Int) ≠ 0) then some ((⟨[], [], 0, 0⟩ : LX.State), [], 0, y3) else bif (decide ((c : Int) < 0) || decide ((2000 : Int) < c)) then some ((⟨[], [], 0, 0⟩ : LX.State), [], 0, 3) else bif decide ((b.status : Int) ≠ 0) then some ((⟨[], [], 0, 0⟩ : LX.State), [], 0, 7) else (DL b).bind fun y9 => again (tH N c a) N ([], 0, y9.frames, y9.cells, y9.status, y9.aQ)
theorem Pk (N : Nat) (w0 : World) (M : BS) (hM : ∀ b, M b → b < w0.heap.size) (va : Value) (a : List bQ) (ha : eX jR w0 M va a) (b : LX.State) (vb0 vb1 : Value) (hb0 : fP eu w0 BE M vb0 b.frames) (hb1 : fP (oV bJ) w0 BE M vb1 b.cells) (c : Int) (r : LX.State × List Int × Int × Int) (hs : Kh N a b c = some r) :
    Calls Tryz.prog 28 #[va, (.agg #[vb0, vb1, (I6 b.status), (I6 b.aQ)]), (I6 c)] w0 (fun e w' => Grow w0 w' ∧ ∃ yD, ∃ Cs, ∃ u1, e = .returned (.tuple #[.agg #[yD, Cs, .int .i64 r.1.status, .int .i64 r.1.aQ], u1, .int .i64 r.2.2.1, .int .i64 r.2.2.2]) ∧ eX eu w' (fun b => M b ∨ ob u1 b) yD r.1.frames ∧ eX (oV bJ) w' (fun b => M b ∨ ob u1 b) Cs r.1.cells ∧ dY dA 3 w' M u1 r.2.1 ∧ (∀ b, ob u1 b → w0.heap.size ≤ b)) := by
 refine aL (args := [va, (.agg #[vb0, vb1, (I6 b.status), (I6 b.aQ)]), (I6 c)]) Tryz.func28 rfl Tryz.ntmps28 (bC rfl) ?_
 have h := SH.init hM
 replace h := h.Vr 1 ha bE
 replace h := h.fG 2 hb0 (zg bE)
 replace h := h.fG 3 hb1 (cO (zg bE))
 have vE := ha.bW
 refine nG (oP (cs := [vb0, vb1, (I6 b.status), (I6 b.aQ)]) h 4 rfl rfl fun w b1 h => bO h 5 bV fun w b2 h => aa (ae (v := (.slice none 0 0)) rfl) (aa (ae (v := (I6 0)) rfl) (aa (ae (v := (I6 0)) rfl) (nK (aa (ah (v := va) rfl) (aa (dh (vs := [vb0, vb1, (I6 b.status), (I6 b.aQ)]) h 4 rfl bV rfl rfl rfl) ?_))))))
 obtain ⟨y3, e4, hs⟩ := aJ hs
 refine aR Qm rfl rfl (EG _ _ h.lt va a (h.mM 1 rfl) b vb0 vb1 (h.iM 2 rfl) (h.iM 3 rfl) _ e4) ?_
 rintro _ w ⟨k5, rfl⟩
 refine ⟨_, rfl, ?_⟩
 replace h := h.grow k5
 refine aa (ae (v := (I6 y3)) rfl) (nJ (aa (ah (v := (I6 y3)) rfl) (aa (iP rfl rfl) (nN (aH hs rfl (fun c6 hs => ?_) (fun c6 hs => ?_))))))
 refine nG (aa (dH (pv := []) (out := [(.slice none 0 0), (.slice none 0 0), (I6 0), (I6 0)]) r9 rfl rfl) (aa (ah (v := (I6 y3)) rfl) (dn (vs := [(.slice none 0 0), (.slice none 0 0), (I6 0), (I6 0)]) h 5 [(.slice none 0 0), (.slice none 0 0), (I6 0), (I6 0)] rfl bV rfl rfl rfl rfl rfl (ai rfl (ai rfl (ai rfl (ai rfl aT)))) fun w h => aa (ae (v := (.slice none 0 0)) rfl) (aa (ae (v := (I6 0)) rfl) (aa (ae (v := (I6 y3)) rfl) (nR (az (FH (vs := [(.slice none 0 0), (.slice none 0 0), (I6 0), (I6 0)]) (v2 := (.slice none 0 0)) (v3 := (I6 0)) (v4 := (I6 y3)) Tryz.results28 rfl rfl rfl rfl h 5 rfl bV rfl ?_))))))))
 obtain rfl := fI hs
 exact ⟨h.grown, _, _, _, rfl, fP.nil, fP.nil, dY.nil, kz⟩
 refine aI (ak (aO (nG (aa (ah (v := (I6 c)) rfl) (aa (dL rfl rfl) (aa (ah (v := (.bool (decide ((c : Int) < 0)))) rfl) (aC rfl rfl (fun q => ah (v := (I6 c)) rfl) (aC rfl rfl (fun q => j5 (dE q) rfl) (aa (iy rfl rfl nQ) (nN (aH hs rfl (fun c7 hs => ?_) (fun c7 hs => ?_))))))))))))
 refine nG (aa (dH (pv := []) (out := [(.slice none 0 0), (.slice none 0 0), (I6 0), (I6 0)]) r9 rfl rfl) (dn (vs := [(.slice none 0 0), (.slice none 0 0), (I6 0), (I6 0)]) h 5 [(.slice none 0 0), (.slice none 0 0), (I6 0), (I6 0)] rfl bV rfl rfl rfl rfl rfl (ai rfl (ai rfl (ai rfl (ai rfl aT)))) fun w h => aa (ae (v := (.slice none 0 0)) rfl) (aa (ae (v := (I6 0)) rfl) (aa (ae (v := (I6 3)) rfl) (nR (az (FH (vs := [(.slice none 0 0), (.slice none 0 0), (I6 0), (I6 0)]) (v2 := (.slice none 0 0)) (v3 := (I6 0)) (v4 := (I6 3)) Tryz.results28 rfl rfl rfl rfl h 5 rfl bV rfl ?_)))))))
 obtain rfl := fI hs
 exact ⟨h.grown, _, _, _, rfl, fP.nil, fP.nil, dY.nil, kz⟩
 refine aI (ak (aO (nG (aa (ag nV rfl) (aa (aA h 4 rfl aU rfl rfl) (aa (iP rfl rfl) (nN (aH hs rfl (fun c8 hs => ?_) (fun c8 hs => ?_)))))))))
 refine nG (aa (dH (pv := []) (out := [(.slice none 0 0), (.slice none 0 0), (I6 0), (I6 0)]) r9 rfl rfl) (dn (vs := [(.slice none 0 0), (.slice none 0 0), (I6 0), (I6 0)]) h 5 [(.slice none 0 0), (.slice none 0 0), (I6 0), (I6 0)] rfl bV rfl rfl rfl rfl rfl (ai rfl (ai rfl (ai rfl (ai rfl aT)))) fun w h => aa (ae (v := (.slice none 0 0)) rfl) (aa (ae (v := (I6 0)) rfl) (aa (ae (v := (I6 7)) rfl) (nR (az (FH (vs := [(.slice none 0 0), (.slice none 0 0), (I6 0), (I6 0)]) (v2 := (.slice none 0 0)) (v3 := (I6 0)) (v4 := (I6 7)) Tryz.results28 rfl rfl rfl rfl h 5 rfl bV rfl ?_)))))))
 obtain rfl := fI hs
 exact ⟨h.grown, _, _, _, rfl, fP.nil, fP.nil, dY.nil, kz⟩
 refine nS (aa (dh (vs := [vb0, vb1, (I6 b.status), (I6 b.aQ)]) h 4 rfl bV rfl rfl rfl) ?_)
 obtain ⟨y9, e10, hs⟩ := aJ hs
 refine aR Qn rfl rfl (GZ _ _ h.lt b vb0 vb1 (h.iM 2 rfl) (h.iM 3 rfl) _ e10) ?_
 rintro _ w ⟨k17, u11, Qa, GY, us14, rfl, h15, h16⟩
 refine ⟨_, rfl, ?_⟩
 replace h := h.JA 6 (C := (cU u11 Qa y9.frames GY y9.cells us14)) k17 ⟨⟨⟨trivial, trivial⟩, trivial⟩, trivial⟩ h15 h16
 replace h := h.bN 6 9 (by decide) rfl rfl
 replace h := h.bN 6 8 (by decide) rfl rfl
 replace h := h.bN 6 7 (by decide) rfl rfl
 refine dn (vs := [u11, Qa, (I6 y9.status), (I6 y9.aQ)]) h 4 [u11, Qa, (I6 y9.status), (I6 y9.aQ)] rfl bV rfl rfl rfl rfl rfl (ai (h.dC 6 rfl).one (ai (h.dC 8 rfl).one (ai rfl (ai rfl aT)))) fun w h => nJ (aa (ae (v := (.slice none 0 0)) rfl) (nJ (aa (ae (v := (I6 0)) rfl) (nN (bX (σ := Value × List Int × Int × Value × List Value × List LX.Frame × Value × List Value × List (List Val) × Int × Int) (inl (rg 11 6 ++ rg 37 55)) (fun ⟨v18, BR, x20, v21, Zq, y23, v24, Zr, N8, y27, y28⟩ => [(11, v18), (12, (I6 x20))]) (fun ⟨v18, BR, x20, v21, Zq, y23, v24, Zr, N8, y27, y28⟩ w => SH w0 M BE w (hset [(4, .blk b1 [v21, v24, (I6 y27), (I6 y28)]), (5, .blk b2 [(.slice none 0 0), (.slice none 0 0), (I6 0), (I6 0)]), (10, .own bU.raw 49 v21 (List.zip y23 Zq)), (11, .ib (dB bJ 51 hn Zq (List.map bU.sub y23))), (12, .own (eT Val).raw 47 v24 (List.zip N8 Zr)), (13, .ib (dB bJ 51 hn Zr (List.map (eT Val).sub N8))), (25, .own dA 3 v18 BR)]) ∧ uq BR x20 y23 N8 y27 y28 = some r) ?_ ?_)))))
 rintro ⟨v18, BR, x20, v21, Zq, y23, v24, Zr, N8, y27, y28⟩ w dz ⟨h, hs⟩
 refine nG (aa (dh (vs := [v21, v24, (I6 y27), (I6 y28)]) h 4 rfl bV rfl rfl rfl) (aa (ah (v := v18) rfl) (aa (ah (v := (I6 x20)) rfl) (dn (vs := [v21, v24, (I6 y27), (I6 y28)]) h 5 [v21, v24, (I6 y27), (I6 y28)] rfl bV rfl rfl rfl rfl rfl (ai (h.dC 10 rfl).one (ai (h.dC 12 rfl).one (ai rfl (ai rfl aT)))) fun w h => aa (ae (v := v18) rfl) (aa (ae (v := (I6 x20)) rfl) (aa (ae (v := (I6 0)) rfl) (nR (FH (vs := [v21, v24, (I6 y27), (I6 y28)]) (v2 := v18) (v3 := (I6 x20)) (v4 := (I6 0)) Tryz.results28 rfl rfl rfl rfl h 5 rfl bV rfl ?_))))))))
 replace h := h.Jy (N := bU) (R' := eu) 10 11 rfl rfl (by decide) rfl vP
 replace h := h.Jy (N := (eT Val)) (R' := (oV bJ)) 12 13 rfl rfl (by decide) rfl BB
 obtain rfl := fI hs
 exact ⟨h.grown, _, _, _, rfl, h.Vy 10 25 rfl rfl, h.Vy 12 25 rfl rfl, (h.mQ 25 rfl).1, (h.mQ 25 rfl).2⟩
 refine aP ?_
 replace h := h.zb (R := dA) (E := 3) 41
 replace h := (h.fH 42).moveC 6 42 rfl rfl (by decide)
 replace h := (h.fH 43).moveC 7 43 rfl rfl (by decide)
 replace h := (h.fH 44).moveC 8 44 rfl rfl (by decide)
 replace h := (h.fH 45).moveC 9 45 rfl rfl (by decide)
 refine fT (σ := Nat × Value × List Int × Int × Value × List Value × List LX.Frame × Value × List Value × List (List Val) × Int × Int) (inl (rg 11 6 ++ rg 37 55)) (fun ⟨m76, v62, qO, Fq, v65, K8, wE, v68, K9, Bj, Cx, Jj⟩ => [(11, v62), (12, (I6 Fq))]) (fun ⟨m76, v62, qO, Fq, v65, K8, wE, v68, K9, Bj, Cx, Jj⟩ w => SH w0 M BE w (hset [(1, .rd jR va a), (4, .blk b1 [v65, v68, (I6 Cx), (I6 Jj)]), (5, .blk b2 [(.slice none 0 0), (.slice none 0 0), (I6 0), (I6 0)]), (41, .own dA 3 v62 qO), (42, .own bU.raw 49 v65 (List.zip wE K8)), (43, .ib (dB bJ 51 hn K8 (List.map bU.sub wE))), (44, .own (eT Val).raw 47 v68 (List.zip Bj K9)), (45, .ib (dB bJ 51 hn K9 (List.map (eT Val).sub Bj)))]) ∧ again (tH N c a) m76 (qO, Fq, wE, Bj, Cx, Jj) = some r) (fun ⟨m76, v62, qO, Fq, v65, K8, wE, v68, K9, Bj, Cx, Jj⟩ => m76) ⟨N, (.slice none 0 0), [], 0, u11, GY, y9.frames, Qa, us14, y9.cells, y9.status, y9.aQ⟩ ⟨rfl, rfl, trivial⟩ ?_ ?_
 exact ⟨h.cn _, hs⟩
 rintro ⟨m76, v62, qO, Fq, v65, K8, wE, v68, K9, Bj, Cx, Jj⟩ w dz ⟨h, hs⟩
 obtain ⟨m761, m76e, m76h⟩ := og hs
 subst m76e
 replace hs := m76h
 generalize hnx77 : again (tH N c a) m761 = K7 at hs
 refine aO (nG (aa (ah (v := (I6 Fq)) rfl) (aa (ah (v := (I6 c)) rfl) (aa (dL rfl rfl) (aa (ah (v := (.bool (decide ((Fq : Int) < c)))) rfl) (aC rfl rfl (fun q => ag nV rfl) (aC rfl rfl (fun q => aA h 4 rfl aU (dE q) rfl) (aC rfl rfl (fun q => bD (dE q) rfl) (aa (gP rfl rfl nQ) (nN (aH hs rfl (fun c80 hs => ?_) (fun c80 hs => ?_))))))))))))
 refine aI (ak (aP (nG (aa (ag ed rfl) (aa (aA h 4 rfl iU rfl rfl) (aa (ag ed rfl) (aa (aA h 4 rfl iU rfl rfl) (aa (oo (N := bU) df rfl (h.dG 42 rfl) (h.gX 43 rfl)) ?_))))))))
 obtain ⟨a81, hs⟩ := bu hs
 refine aa (oO rfl rfl a81) ?_
 obtain ⟨x82, e83, hs⟩ := aJ hs
 obtain ⟨u87, Zk, h⟩ := h.qA 43 46 x82.regs rfl rfl (by decide) (aG e83).2 rfl
 obtain ⟨KS, q86, i84⟩ := h.xL 42 rfl df rfl (aG e83).1 (fw (aG e83).2 Zk)
 refine aa (i84 _ _ _ _ _ _ _ _ _ rfl rfl) ?_
 obtain ⟨cs89, m90, r91⟩ := h.zV 42 rfl q86 (fw (aG e83).2 Zk)
 obtain ⟨rfl, -⟩ := r91
 refine aa (oZ (k := 0) (vs := [(I6 x82.proc), (I6 x82.at_), u87, (I6 x82.kP)]) m90 iA rfl rfl rfl (bC rfl)) (bO h 47 iA fun w b92 h => dn (vs := [(I6 x82.proc), (I6 x82.at_), u87, (I6 x82.kP)]) h 47 [(I6 x82.proc), (I6 x82.at_), u87, (I6 x82.kP)] rfl iA rfl rfl rfl rfl rfl (ai rfl (ai rfl (ai (h.dC 46 rfl).one (ai rfl aT)))) fun w h => nN (aO (bX (σ := Bool) (inl (rg 53 17)) (fun x93 => [(69, (.bool (x93)))]) (fun x93 w => SH w0 M BE w (hset [(1, .rd jR va a), (4, .blk b1 [v65, v68, (I6 Cx), (I6 Jj)]), (5, .blk b2 [(.slice none 0 0), (.slice none 0 0), (I6 0), (I6 0)]), (41, .own dA 3 v62 qO), (42, .own bU.raw 49 v65 (List.zip wE K8)), (43, .ib (dB bJ 51 hn K8 (List.map bU.sub wE))), (44, .own (eT Val).raw 47 v68 (List.zip Bj K9)), (45, .ib (dB bJ 51 hn K9 (List.map (eT Val).sub Bj)))]) ∧ yP N qO Fq wE Bj Cx Jj a K7 x93 = some r) ?_ ?_)))
 rintro x93 w dz ⟨h, hs⟩
 refine aH hs rfl (fun c94 hs => ?_) (fun c94 hs => ?_)
 refine iT (bK (yt (by decide) (bK (dU (au ?_)))))
 replace h := h.Fz 41 25 rfl rfl (by decide)
 replace h := (h.fH 10).moveC 42 10 rfl rfl (by decide)
 replace h := (h.fH 11).moveC 43 11 rfl rfl (by decide)
 replace h := (h.fH 12).moveC 44 12 rfl rfl (by decide)
 replace h := (h.fH 13).moveC 45 13 rfl rfl (by decide)
 exact bP (v62, qO, Fq, v65, K8, wE, v68, K9, Bj, Cx, Jj) ⟨h.cn _, hs⟩
 refine nS (aa (dh (vs := [v65, v68, (I6 Cx), (I6 Jj)]) h 4 rfl bV rfl rfl rfl) ?_)
 obtain ⟨y95, e96, hs⟩ := aJ hs
 refine aR Qn rfl rfl (GZ _ BE (fun _ h => h.elim) (⟨wE, Bj, Cx, Jj⟩ : LX.State) v65 v68 (h.xx (N := bU) (R' := eu) 42 43 rfl rfl (by decide) rfl vP) (h.xx (N := (eT Val)) (R' := (oV bJ)) 44 45 rfl rfl (by decide) rfl BB) _ e96) ?_
 rintro _ w ⟨k103, TK, Zt, Zu, Sw, rfl, h101, h102⟩
 refine ⟨_, rfl, ?_⟩
 replace h := h.Z8 48 (C := (cU TK Zt y95.frames Zu y95.cells Sw)) k103 ⟨⟨⟨trivial, trivial⟩, trivial⟩, trivial⟩ ⟨⟨⟨(fun _ _ _ _ _ h => h), (DC (fun _ _ _ _ _ h => h))⟩, (fun _ _ _ _ _ h => h)⟩, (DC (fun _ _ _ _ _ h => h))⟩ h101 h102
 replace h := h.bN 48 51 (by decide) rfl rfl
 replace h := h.bN 48 50 (by decide) rfl rfl
 replace h := h.bN 48 49 (by decide) rfl rfl
 refine bO h 52 bV fun w Zv h => dn (vs := [TK, Zt, (I6 y95.status), (I6 y95.aQ)]) h 52 [TK, Zt, (I6 y95.status), (I6 y95.aQ)] rfl bV rfl rfl rfl rfl rfl (ai (h.dC 48 rfl).one (ai (h.dC 50 rfl).one (ai rfl (ai rfl aT)))) fun w h => nJ (aa (ah (v := va) rfl) ?_)
 replace h := h.pair 52 48 (by decide)
 replace h := h.pair 52 49 (by decide)
 replace h := h.pair 52 50 (by decide)
 replace h := h.pair 52 51 (by decide)
 obtain ⟨l105a, l105b, l105c⟩ := h.kC 52 (C := (cT Zv TK Zt (y95.status) (y95.aQ) y95.frames Zu y95.cells Sw)) rfl ⟨⟨⟨⟨trivial, trivial⟩, trivial⟩, trivial⟩, trivial⟩
 obtain ⟨gW, e107, hs⟩ := aJ hs
 refine aR fnOk65 rfl rfl (Uj N _ _ l105c Zv y95 TK Zt Zu Sw l105a l105b va a (h.Er 52 1 rfl rfl) _ e107) ?_
 rintro _ w ⟨k112, Pm, Ec, Pn, Po, rfl, h113, h114⟩
 refine ⟨_, rfl, ?_⟩
 replace h := h.back 52 (C := (cT Zv TK Zt (y95.status) (y95.aQ) y95.frames Zu y95.cells Sw)) (C' := (cT Zv Pm Ec (gW.2.2.status) (gW.2.2.aQ) gW.2.2.frames Pn gW.2.2.cells Po)) rfl ⟨⟨⟨⟨trivial, trivial⟩, trivial⟩, trivial⟩, trivial⟩ h113 k112 h114
 replace h := h.bN 52 51 (by decide) rfl rfl
 replace h := h.bN 52 50 (by decide) rfl rfl
 replace h := h.bN 52 49 (by decide) rfl rfl
 replace h := h.bN 52 48 (by decide) rfl rfl
 refine aa (ah (v := (.tuple #[(.agg #[(.bool (gW.1.said)), (I6 gW.1.n), (.bool (gW.1.GH))]), (.bool (gW.2.1))])) rfl) (aa (aY rfl rfl) (aa (aY rfl rfl) (bO h 53 gz fun w b115 h => dn (vs := [(.bool (gW.1.said)), (I6 gW.1.n), (.bool (gW.1.GH))]) h 53 [(.bool (gW.1.said)), (I6 gW.1.n), (.bool (gW.1.GH))] rfl gz rfl rfl rfl rfl rfl (ai rfl (ai rfl (ai rfl aT))) fun w h => aa (ae (v := (.bool (gW.2.1))) rfl) (nJ (aa (ah (v := (I6 Fq)) rfl) ?_)))))
 obtain ⟨a116, hs⟩ := bu hs
 refine aa (dm rfl rfl a116) (aa (ae (v := (I6 ((Fq + 1)))) rfl) (nK (aa (ah (v := (.bool (gW.2.1))) rfl) (aa (gQ rfl) (nN (aH hs rfl (fun c117 hs => ?_) (fun c117 hs => ?_)))))))
 refine nG (aa (ag nV rfl) (eH h 4 [v65, v68, (I6 2), (I6 Jj)] rfl aU rfl rfl rfl rfl rfl fun w h => nN (iT (bK (yt (by decide) (bK (dU (au ?_))))))))
 replace h := h.Fz 41 25 rfl rfl (by decide)
 replace h := (h.fH 10).moveC 42 10 rfl rfl (by decide)
 replace h := (h.fH 11).moveC 43 11 rfl rfl (by decide)
 replace h := (h.fH 12).moveC 44 12 rfl rfl (by decide)
 replace h := (h.fH 13).moveC 45 13 rfl rfl (by decide)
 exact bP (v62, qO, (Fq + 1), v65, K8, wE, v68, K9, Bj, 2, Jj) ⟨h.cn _, hs⟩
 refine aI (ak (bX (σ := Value × List Int) (inl ([11] ++ rg 82 8)) (fun ⟨UB, NP⟩ => [(11, UB)]) (fun ⟨UB, NP⟩ w => SH w0 M BE w (hset [(1, .rd jR va a), (4, .blk b1 [Pm, Ec, (I6 gW.2.2.status), (I6 gW.2.2.aQ)]), (5, .blk b2 [(.slice none 0 0), (.slice none 0 0), (I6 0), (I6 0)]), (41, .own dA 3 UB NP), (48, .own bU.raw 49 Pm (List.zip gW.2.2.frames Pn)), (49, .ib (dB bJ 51 hn Pn (List.map bU.sub gW.2.2.frames))), (50, .own (eT Val).raw 47 Ec (List.zip gW.2.2.cells Po)), (51, .ib (dB bJ 51 hn Po (List.map (eT Val).sub gW.2.2.cells))), (53, .blk b115 [(.bool (gW.1.said)), (I6 gW.1.n), (.bool (gW.1.GH))])]) ∧ yO gW Fq K7 NP = some r) ?_ ?_))
 rintro ⟨UB, NP⟩ w dz ⟨h, hs⟩
 refine nG (aa (ag JD rfl) (aa (aA h 53 rfl xz rfl rfl) (nN (aH hs rfl (fun c120 hs => ?_) (fun c120 hs => ?_)))))
 refine iT (yt (by decide) (bK (dU (au ?_))))
 replace h := h.Fz 41 25 rfl rfl (by decide)
 replace h := (h.fH 10).moveC 48 10 rfl rfl (by decide)
 replace h := (h.fH 11).moveC 49 11 rfl rfl (by decide)
 replace h := (h.fH 12).moveC 50 12 rfl rfl (by decide)
 replace h := (h.fH 13).moveC 51 13 rfl rfl (by decide)
 exact bP (UB, NP, (Fq + 1), Pm, Pn, gW.2.2.frames, Ec, Po, gW.2.2.cells, gW.2.2.status, gW.2.2.aQ) ⟨h.cn _, hs⟩
 refine aI (ax (au ?_))
 replace h := (h.fH 42).moveC 48 42 rfl rfl (by decide)
 replace h := (h.fH 43).moveC 49 43 rfl rfl (by decide)
 replace h := (h.fH 44).moveC 50 44 rfl rfl (by decide)
 replace h := (h.fH 45).moveC 51 45 rfl rfl (by decide)
 subst hnx77
 exact jQ ⟨m761, UB, NP, (Fq + 1), Pm, Pn, gW.2.2.frames, Ec, Po, gW.2.2.cells, gW.2.2.status, gW.2.2.aQ⟩ ⟨h.cn _, hs⟩
 refine nG (aa (dh (vs := [Pm, Ec, (I6 gW.2.2.status), (I6 gW.2.2.aQ)]) h 52 rfl bV rfl rfl rfl) (dn (vs := [Pm, Ec, (I6 gW.2.2.status), (I6 gW.2.2.aQ)]) h 4 [Pm, Ec, (I6 gW.2.2.status), (I6 gW.2.2.aQ)] rfl bV rfl rfl rfl rfl rfl (ai (h.dC 48 rfl).one (ai (h.dC 50 rfl).one (ai rfl (ai rfl aT)))) fun w h => nJ (aa (ag VY rfl) (aa (aA h 53 rfl xz rfl rfl) (nN (aH hs rfl (fun c121 hs => ?_) (fun c121 hs => ?_)))))))
 refine aB (aa (ah (v := v62) rfl) (aa (ag VZ rfl) (aa (aA h 53 rfl aU rfl rfl) (sV (R := dA) (vs := [(I6 gW.1.n)]) (xs := [gW.1.n]) h 54 iR rfl rfl rfl ⟨rfl, trivial⟩ rfl fun w u122 h => ?_))))
 obtain ⟨a123, hs⟩ := bu hs
 refine lg (R := dA) (m := [gW.1.n]) h 41 rfl (h.dG 54 rfl) iR rfl rfl rfl a123.1 a123.2 fun w u124 h => aa (ae (v := u124) rfl) (ay (au ?_))
 exact bP (u124, (qO ++ [gW.1.n])) ⟨h.cn _, hs⟩
 refine aI (au ?_)
 exact bP (v62, qO) ⟨h.cn _, hs⟩
 refine Cz mixed (by kernel_rfl) h fun w h => aM (ah (v := v62) rfl) (aM (bT bZ rfl (h.dG 41 rfl)) (aM (bD rfl rfl) (aM (ah (v := (.bool (decide (((qO.length : Int) : Int) = 40)))) rfl) (jL (b := decide (((qO.length : Int) : Int) = 40)) hs (fun tu hs => ?_) (fun tu hs => ?_)))))
 refine jf rfl (cB tu) (aM (ah (v := va) rfl) (jf rfl (cB tu) (aM (ag wD rfl) (jf rfl (cB tu) (aM (aA h 47 rfl aU rfl rfl) (jf rfl (cB tu) ?_))))))
 obtain ⟨JM, e127, hs⟩ := aJ hs
 obtain ⟨b129, o130, cs131, h, r132, i128⟩ := h.Fw 1 55 rfl jW rfl (aG e127).1 (aG e127).2
 obtain ⟨u133, rfl, g134⟩ := pg r132
 replace h := h.bM 56 g134.up
 refine aM (i128 _ _ _ _ _ _ _ _ _ rfl rfl) (jf rfl (cB tu) (aM (ag sQ rfl) (jf rfl (cB tu) (aM (eU (k := 2) h 55 rfl Cj rfl rfl) (jf rfl (cB tu) (aM (ag sO rfl) (jf rfl (cB tu) (aM (aA h 47 rfl aU rfl rfl) (jf rfl (cB tu) ?_)))))))))
 obtain ⟨Zp, e136, hs⟩ := aJ hs
 obtain ⟨b138, o139, cs140, h, r141, i137⟩ := h.Fw 56 57 rfl jF rfl (aG e136).1 (aG e136).2
 obtain ⟨u142, rfl, g143⟩ := Dy r141
 replace h := h.bM 58 g143.up
 refine aM (i137 _ _ _ _ _ _ _ _ _ rfl rfl) (jf rfl (cB tu) (aM (ag qB rfl) (jf rfl (cB tu) (aM (eU (k := 0) h 57 rfl aU rfl rfl) (jf rfl (cB tu) (aM (bD rfl rfl) (aM (dJ (b := true) (v := (.bool (decide ((Zp.op : Int) = 9)))) (cB tu) rfl) (Bu ?_))))))))
 replace h := h.iQ 43 46 rfl rfl (by decide) (aG e83).2 Zk rfl
 refine au ?_
 exact bP (decide ((Zp.op : Int) = 9)) ⟨h.cn _, hs⟩
 refine gD (b' := false) rfl (cB tu) rfl (gD (b' := false) rfl (cB tu) rfl (gD (b' := false) rfl (cB tu) rfl (gD (b' := false) rfl (cB tu) rfl (gD (b' := false) rfl (cB tu) rfl (gD (b' := false) rfl (cB tu) rfl (gD (b' := false) rfl (cB tu) rfl (gD (b' := false) rfl (cB tu) rfl (gD (b' := false) rfl (cB tu) rfl (gD (b' := false) rfl (cB tu) rfl (gD (b' := false) rfl (cB tu) rfl (gD (b' := false) rfl (cB tu) rfl (aM (dJ (b := false) (v := (.bool (false))) (cB tu) rfl) (Bu ?_)))))))))))))
 replace h := h.iQ 43 46 rfl rfl (by decide) (aG e83).2 Zk rfl
 refine au ?_
 exact bP false ⟨h.cn _, hs⟩
 refine iT (bK (bK (dU (au ?_))))
 replace h := h.Fz 41 25 rfl rfl (by decide)
 replace h := (h.fH 10).moveC 42 10 rfl rfl (by decide)
 replace h := (h.fH 11).moveC 43 11 rfl rfl (by decide)
 replace h := (h.fH 12).moveC 44 12 rfl rfl (by decide)
 replace h := (h.fH 13).moveC 45 13 rfl rfl (by decide)
 exact bP (v62, qO, Fq, v65, K8, wE, v68, K9, Bj, Cx, Jj) ⟨h.cn _, hs⟩
def nX (a : List Int) (b : List Int) (i3 : Int) (s : Unit) (I4 : Unit → Option Bool) : Option Bool :=
  (idx a i3).bind fun x9 => (idx b i3).bind fun nW => bif decide ((x9 : Int) ≠ nW) then some false else I4 ()
def rX (s : Unit) : Option Bool :=
  some true
def slices_Equal_int (a : List Int) (b : List Int) : Option Bool :=
  bif decide (((a.length : Int) : Int) ≠ (b.length : Int)) then some false else upto (nX a b) rX 0 ((a.length : Int)).toNat ()
theorem yQ (w0 : World) (M : BS) (hM : ∀ b, M b → b < w0.heap.size) (va : Value) (a : List Int) (ha : fP dA w0 BE M va a) (vb : Value) (b : List Int) (hb : fP dA w0 BE M vb b) (r : Bool) (hs : slices_Equal_int a b = some r) :
    Calls Tryz.prog 18 #[va, vb] w0 (fun e w' => Grow w0 w' ∧ e = .returned (.bool r)) := by
 refine aL (args := [va, vb]) Tryz.func18 rfl Tryz.ntmps18 (bC rfl) ?_
 have h := SH.init hM
 replace h := h.fG 1 ha bE
 replace h := h.fG 2 hb (cO bE)
 have vE := ha.bW
 have KZ := hb.bW
 refine nG (aa (ae (v := (.bool (false))) rfl) (nK (aa (ah (v := va) rfl) (aa (bT bZ rfl (h.iM 1 rfl)) (aa (ah (v := vb) rfl) (aa (bT bZ rfl (h.iM 2 rfl)) (aa (iP rfl rfl) (nN (aH hs rfl (fun c1 hs => ?_) (fun c1 hs => ?_))))))))))
 refine nG (aa (ae (v := (.bool (false))) rfl) (nR (az (bR (v := (.bool (false))) Tryz.results18 rfl ?_))))
 obtain rfl := fI hs
 exact ⟨h.grown, rfl⟩
 refine aI (ak (aO (nG (aa (ah (v := va) rfl) (aa (bT bZ rfl (h.iM 1 rfl)) (aa (ah (v := (I6 0)) rfl) (nN (aP ?_))))))))
 have hli3 := (h.iM 1 rfl).bW
 refine fT (σ := Nat × Int) (inl ([4, 5] ++ rg 13 13)) (fun ⟨k2, i3⟩ => [(13, (I6 i3))]) (fun ⟨k2, i3⟩ w => SH w0 M BE w (hset [(1, .sr dA va a), (2, .sr dA vb b)]) ∧ i3 = (k2 : Int) ∧ upto (nX a b) rX i3 (((a.length : Int)).toNat - k2) () = some r) (fun ⟨k2, i3⟩ => ((a.length : Int)).toNat - k2) ⟨0, 0⟩ ⟨rfl, trivial⟩ ?_ ?_
 exact ⟨h.cn _, rfl, hs⟩
 rintro ⟨k2, i3⟩ w dz ⟨h, hik, hs⟩
 refine nG ?_
 refine aa (dL rfl rfl) (nN ?_)
 refine aO (iw rfl (fun e7 => ?_) (fun e7 => ?_))
 refine aI (ak ?_)
 rw [sJ (by have := qE e7; omega)] at hs
 generalize JG : upto (nX a b) rX (i3 + 1) (((a.length : Int)).toNat - (k2 + 1)) = I4 at hs
 have Wo : jI (i3 + 1) := (by have := qE e7; have := hli3; exact jI.mk (by omega) (by omega))
 refine aO (aP (nG (aa (ah (v := (I6 i3)) rfl) (aa (ae (v := (I6 i3)) rfl) (nN (aO (Cz mixed (by kernel_rfl) h fun w h => aM (ah (v := va) rfl) (aM (ah (v := (I6 i3)) rfl) ?_))))))))
 obtain ⟨x9, e10, hs⟩ := aJ hs
 obtain ⟨b12, o13, cs14, h, r15, i11⟩ := h.Br 1 3 rfl bZ rfl (aG e10).1 (aG e10).2
 obtain rfl := r15
 refine aM (i11 _ _ _ _ _ _ _ _ _ rfl rfl) (aM (eU (k := 0) h 3 rfl aU rfl rfl) (aM (ah (v := vb) rfl) (aM (ah (v := (I6 i3)) rfl) ?_)))
 obtain ⟨nW, e17, hs⟩ := aJ hs
 obtain ⟨b19, o20, cs21, h, r22, i18⟩ := h.Br 2 4 rfl bZ rfl (aG e17).1 (aG e17).2
 obtain rfl := r22
 refine aM (i18 _ _ _ _ _ _ _ _ _ rfl rfl) (aM (eU (k := 0) h 4 rfl aU rfl rfl) (aM (iP rfl rfl) (Bu (ak (aH hs rfl (fun c23 hs => ?_) (fun c23 hs => ?_))))))
 refine nG (aa (ae (v := (.bool (false))) rfl) (nR (aF (az (az (aF (az (bR (v := (.bool (false))) Tryz.results18 rfl ?_))))))))
 obtain rfl := fI hs
 exact ⟨h.grown, rfl⟩
 refine aI (ax (ak (aB (aa (dm rfl rfl Wo) (aa (ah (v := (I6 ((i3 + 1)))) rfl) (ay (au ?_)))))))
 subst JG
 exact jQ ⟨k2 + 1, i3 + 1⟩ ⟨h.cn _, by omega, hs⟩ (by have := qE e7; dsimp only; omega)
 rw [sK (by have := of_decide_eq_false e7; omega)] at hs
 refine nE (aa (ae (v := (.bool (true))) rfl) (nR (bR (v := (.bool (true))) Tryz.results18 rfl ?_)))
 obtain rfl := fI hs
 exact ⟨h.grown, rfl⟩
def mK (a : List Val) (b : List Val) (i3 : Int) (s : Unit) (I4 : Unit → Option Bool) : Option Bool :=
  (idx a i3).bind fun x9 => (idx b i3).bind fun nW => bif !(decide (x9.kind = nW.kind) && decide (x9.n = nW.n)) then some false else I4 ()
def qw (s : Unit) : Option Bool :=
  some true
def jZ (a : List Val) (b : List Val) : Option Bool :=
  bif decide (((a.length : Int) : Int) ≠ (b.length : Int)) then some false else upto (mK a b) qw 0 ((a.length : Int)).toNat ()
theorem xn (w0 : World) (M : BS) (hM : ∀ b, M b → b < w0.heap.size) (va : Value) (a : List Val) (ha : fP bJ w0 BE M va a) (vb : Value) (b : List Val) (hb : fP bJ w0 BE M vb b) (r : Bool) (hs : jZ a b = some r) :
    Calls Tryz.prog 47 #[va, vb] w0 (fun e w' => Grow w0 w' ∧ e = .returned (.bool r)) := by
 refine aL (args := [va, vb]) Tryz.func47 rfl Tryz.ntmps47 (bC rfl) ?_
 have h := SH.init hM
 replace h := h.fG 1 ha bE
 replace h := h.fG 2 hb (cO bE)
 have vE := ha.bW
 have KZ := hb.bW
 refine nG (aa (ae (v := (.bool (false))) rfl) (nK (aa (ah (v := va) rfl) (aa (bT bH rfl (h.iM 1 rfl)) (aa (ah (v := vb) rfl) (aa (bT bH rfl (h.iM 2 rfl)) (aa (iP rfl rfl) (nN (aH hs rfl (fun c1 hs => ?_) (fun c1 hs => ?_))))))))))
 refine nG (aa (ae (v := (.bool (false))) rfl) (nR (az (bR (v := (.bool (false))) Tryz.results47 rfl ?_))))
 obtain rfl := fI hs
 exact ⟨h.grown, rfl⟩
 refine aI (ak (aO (nG (aa (ah (v := va) rfl) (aa (bT bH rfl (h.iM 1 rfl)) (aa (ah (v := (I6 0)) rfl) (nN (aP ?_))))))))
 have hli3 := (h.iM 1 rfl).bW
 refine fT (σ := Nat × Int) (inl ([4, 5] ++ rg 13 13)) (fun ⟨k2, i3⟩ => [(13, (I6 i3))]) (fun ⟨k2, i3⟩ w => SH w0 M BE w (hset [(1, .sr bJ va a), (2, .sr bJ vb b)]) ∧ i3 = (k2 : Int) ∧ upto (mK a b) qw i3 (((a.length : Int)).toNat - k2) () = some r) (fun ⟨k2, i3⟩ => ((a.length : Int)).toNat - k2) ⟨0, 0⟩ ⟨rfl, trivial⟩ ?_ ?_
 exact ⟨h.cn _, rfl, hs⟩
 rintro ⟨k2, i3⟩ w dz ⟨h, hik, hs⟩
 refine nG ?_
 refine aa (dL rfl rfl) (nN ?_)
 refine aO (iw rfl (fun e7 => ?_) (fun e7 => ?_))
 refine aI (ak ?_)
 rw [sJ (by have := qE e7; omega)] at hs
 generalize JG : upto (mK a b) qw (i3 + 1) (((a.length : Int)).toNat - (k2 + 1)) = I4 at hs
 have Wo : jI (i3 + 1) := (by have := qE e7; have := hli3; exact jI.mk (by omega) (by omega))
 refine aO (aP (nG (aa (ah (v := (I6 i3)) rfl) (aa (ae (v := (I6 i3)) rfl) (nN (aO (Cz mixed (by kernel_rfl) h fun w h => aM (ah (v := va) rfl) (aM (ah (v := (I6 i3)) rfl) ?_))))))))
 obtain ⟨x9, e10, hs⟩ := aJ hs
 obtain ⟨b12, o13, cs14, h, r15, i11⟩ := h.Br 1 3 rfl bH rfl (aG e10).1 (aG e10).2
 obtain rfl := r15
 refine aM (i11 _ _ _ _ _ _ _ _ _ rfl rfl) (aM (jm (k := 0) (vs := [(I6 x9.kind), (I6 x9.n)]) h 3 rfl bS rfl rfl rfl (bC rfl)) (aM (ah (v := vb) rfl) (aM (ah (v := (I6 i3)) rfl) ?_)))
 obtain ⟨nW, e17, hs⟩ := aJ hs
 obtain ⟨b19, o20, cs21, h, r22, i18⟩ := h.Br 2 4 rfl bH rfl (aG e17).1 (aG e17).2
 obtain rfl := r22
 refine aM (i18 _ _ _ _ _ _ _ _ _ rfl rfl) (aM (jm (k := 0) (vs := [(I6 nW.kind), (I6 nW.n)]) h 4 rfl bS rfl rfl rfl (bC rfl)) (aM (r_neqP Sl rfl rfl) (Bu (ak (aH hs rfl (fun c23 hs => ?_) (fun c23 hs => ?_))))))
 refine nG (aa (ae (v := (.bool (false))) rfl) (nR (aF (az (az (aF (az (bR (v := (.bool (false))) Tryz.results47 rfl ?_))))))))
 obtain rfl := fI hs
 exact ⟨h.grown, rfl⟩
 refine aI (ax (ak (aB (aa (dm rfl rfl Wo) (aa (ah (v := (I6 ((i3 + 1)))) rfl) (ay (au ?_)))))))
 subst JG
 exact jQ ⟨k2 + 1, i3 + 1⟩ ⟨h.cn _, by omega, hs⟩ (by have := qE e7; dsimp only; omega)
 rw [sK (by have := of_decide_eq_false e7; omega)] at hs
 refine nE (aa (ae (v := (.bool (true))) rfl) (nR (bR (v := (.bool (true))) Tryz.results47 rfl ?_)))
 obtain rfl := fI hs
 exact ⟨h.grown, rfl⟩
def xZ (b : List (List Val)) (i3 : Int) (x4 : List Val) (s : Unit) (I4 : Unit → Option Bool) : Option Bool :=
  (idx b i3).bind fun nW => (jZ x4 nW).bind fun y25 => bif (!y25) then some false else I4 ()
def Ca (s : Unit) : Option Bool :=
  some true
def DX (a : List (List Val)) (b : List (List Val)) : Option Bool :=
  bif decide (((a.length : Int) : Int) ≠ (b.length : Int)) then some false else fq (xZ b) Ca 0 a ()
theorem Pp (w0 : World) (M : BS) (hM : ∀ b, M b → b < w0.heap.size) (va : Value) (a : List (List Val)) (ha : fP (oV bJ) w0 BE M va a) (vb : Value) (b : List (List Val)) (hb : fP (oV bJ) w0 BE M vb b) (r : Bool) (hs : DX a b = some r) :
    Calls Tryz.prog 44 #[va, vb] w0 (fun e w' => Grow w0 w' ∧ e = .returned (.bool r)) := by
 refine aL (args := [va, vb]) Tryz.func44 rfl Tryz.ntmps44 (bC rfl) ?_
 have h := SH.init hM
 replace h := h.fG 1 ha bE
 replace h := h.fG 2 hb (cO bE)
 have vE := ha.bW
 have KZ := hb.bW
 refine nG (aa (ae (v := (.bool (false))) rfl) (nJ (aa (ah (v := va) rfl) (aa (ah (v := vb) rfl) (jP (args := [va, vb, (.func (.func 79) #[] #[])]) fnOk78 rfl rfl (aL (args := [va, vb, (.func (.func 79) #[] #[])]) Tryz.func78 rfl Tryz.ntmps78 (bC rfl) (nG (aa (ae (v := (.bool (false))) rfl) (nK (aa (ah (v := va) rfl) (aa (bT eB rfl (h.iM 1 rfl)) (aa (ah (v := vb) rfl) (aa (bT eB rfl (h.iM 2 rfl)) (aa (iP rfl rfl) ?_))))))))))))))
 refine nN (aH hs rfl (fun c1 hs => ?_) (fun c1 hs => ?_))
 refine nG (aa (ae (v := (.bool (false))) rfl) (nR (az (bR (v := (.bool (false))) Tryz.results78 rfl (⟨_, rfl, ?_⟩)))))
 refine aa (ae (v := (.bool (false))) rfl) (nR (bR (v := (.bool (false))) Tryz.results44 rfl ?_))
 obtain rfl := fI hs
 exact ⟨h.grown, rfl⟩
 refine aI (ak (aO (nG (aa (ah (v := va) rfl) (aa (bT eB rfl (h.iM 1 rfl)) (aa (ah (v := (I6 0)) rfl) (nN (aP (fT (σ := Nat × Int) (inl ([6, 7, 8, 9] ++ rg 17 15)) (fun ⟨k2, i3⟩ => [(17, (I6 i3))]) (fun ⟨k2, i3⟩ w => SH w0 M BE w (hset [(1, .sr (oV bJ) va a), (2, .sr (oV bJ) vb b)]) ∧ i3 = (k2 : Int) ∧ fq (xZ b) Ca i3 (a.drop k2) () = some r) (fun ⟨k2, i3⟩ => a.length - k2) ⟨0, 0⟩ ⟨rfl, trivial⟩ ?_ ?_)))))))))
 exact ⟨h.cn _, rfl, hs⟩
 rintro ⟨k2, i3⟩ w dz ⟨h, hik, hs⟩
 refine nG ?_
 refine aa (dL rfl rfl) (nN ?_)
 refine aO (iw rfl (fun e7 => ?_) (fun e7 => ?_))
 refine aI (ak ?_)
 obtain ⟨x4, e8a, e8b⟩ := gK (hik ▸ e7)
 rw [e8b, ja] at hs
 generalize JG : fq (xZ b) Ca (i3 + 1) (a.drop (k2 + 1)) = I4 at hs
 have Wo := gN ((h.iM 1 rfl)).bW hik e7
 refine aO (aP (nG (aa (ah (v := (I6 i3)) rfl) ?_)))
 obtain ⟨b10, o11, cs12, h, r13, i9⟩ := h.Br 1 3 rfl eB rfl (jb hik) (gM hik e8a)
 obtain ⟨LC, rfl, g15⟩ := r13
 replace h := h.bM 4 g15.up
 refine aa (i9 _ _ _ _ _ _ _ _ _ rfl rfl) (aa (eU (k := 0) h 3 rfl lC rfl rfl) (aa (ae (v := (I6 i3)) rfl) (aa (ae (v := LC) rfl) (nJ (aa (ah (v := vb) rfl) (aa (ah (v := (I6 i3)) rfl) ?_))))))
 obtain ⟨nW, e17, hs⟩ := aJ hs
 obtain ⟨b19, o20, cs21, h, r22, i18⟩ := h.Br 2 5 rfl eB rfl (aG e17).1 (aG e17).2
 obtain ⟨u23, rfl, g24⟩ := r22
 replace h := h.bM 6 g24.up
 refine aa (i18 _ _ _ _ _ _ _ _ _ rfl rfl) (aa (eU (k := 0) h 5 rfl lC rfl rfl) (aa (ae (v := u23) rfl) (nJ (aa (ah (v := (.func (.func 79) #[] #[])) rfl) (aa (ah (v := LC) rfl) (aa (ah (v := u23) rfl) (jP (args := [LC, u23]) fnOk79 rfl rfl (aL (args := [LC, u23]) Tryz.func79 rfl Tryz.ntmps79 (bC rfl) (nG (aa (ae (v := (.bool (false))) rfl) (nJ (aa (ah (v := LC) rfl) (aa (ah (v := u23) rfl) ?_)))))))))))))
 obtain ⟨y25, e26, hs⟩ := aJ hs
 refine aR V5 rfl rfl (xn _ _ h.lt LC x4 (h.mM 4 rfl) u23 nW (h.mM 6 rfl) _ e26) ?_
 rintro _ w ⟨k27, rfl⟩
 refine ⟨_, rfl, ?_⟩
 replace h := h.grow k27
 refine aa (ae (v := (.bool (y25))) rfl) (nR (bR (v := (.bool (y25))) Tryz.results79 rfl (⟨_, rfl, ?_⟩)))
 refine aa (gQ rfl) (nN (aH hs rfl (fun c28 hs => ?_) (fun c28 hs => ?_)))
 refine nG (aa (ae (v := (.bool (false))) rfl) (nR (aF (az (az (aF (az (bR (v := (.bool (false))) Tryz.results78 rfl (⟨_, rfl, ?_⟩)))))))))
 refine aa (ae (v := (.bool (false))) rfl) (nR (bR (v := (.bool (false))) Tryz.results44 rfl ?_))
 obtain rfl := fI hs
 exact ⟨h.grown, rfl⟩
 refine aI (ax (ak (aB (aa (dm rfl rfl Wo) (aa (ah (v := (I6 ((i3 + 1)))) rfl) (ay (au ?_)))))))
 subst JG
 exact jQ ⟨k2 + 1, i3 + 1⟩ ⟨h.cn _, by omega, hs⟩ (by have := qE e7; dsimp only; omega)
 rw [gL (hik ▸ e7), nZ] at hs
 refine nE (aa (ae (v := (.bool (true))) rfl) (nR (bR (v := (.bool (true))) Tryz.results78 rfl (⟨_, rfl, ?_⟩))))
 refine aa (ae (v := (.bool (true))) rfl) (nR (bR (v := (.bool (true))) Tryz.results44 rfl ?_))
 obtain rfl := fI hs
 exact ⟨h.grown, rfl⟩
def uu (nO : Unit → Option Bool) (x34 : Bool) : Option Bool :=
  bif x34 then some false else nO ()
def zw (b : LX.State) (i10 : Int) (dS : LX.Frame) (s : Unit) (nO : Unit → Option Bool) : Option Bool :=
  (idx b.frames i10).bind fun x24 => bif ((decide ((dS.proc : Int) = x24.proc) && decide ((dS.at_ : Int) = x24.at_)) && decide ((dS.kP : Int) = x24.kP)) then (jZ dS.regs x24.regs).bind fun y39 => uu nO (!y39) else uu nO true
def Df (s : Unit) : Option Bool :=
  some true
def zx (a : LX.State) (b : LX.State) : Option Bool :=
  bif (decide ((a.status : Int) = b.status) && decide ((a.aQ : Int) = b.aQ)) then (DX a.cells b.cells).bind fun y4 => bif y4 then bif decide (((a.frames.length : Int) : Int) ≠ (b.frames.length : Int)) then some false else fq (zw b) Df 0 a.frames () else some false else some false
theorem DY (w0 : World) (M : BS) (hM : ∀ b, M b → b < w0.heap.size) (a : LX.State) (Fp FX : Value) (ha0 : fP eu w0 BE M Fp a.frames) (ha1 : fP (oV bJ) w0 BE M FX a.cells) (b : LX.State) (vb0 vb1 : Value) (hb0 : fP eu w0 BE M vb0 b.frames) (hb1 : fP (oV bJ) w0 BE M vb1 b.cells) (r : Bool) (hs : zx a b = some r) :
    Calls Tryz.prog 19 #[(.agg #[Fp, FX, (I6 a.status), (I6 a.aQ)]), (.agg #[vb0, vb1, (I6 b.status), (I6 b.aQ)])] w0 (fun e w' => Grow w0 w' ∧ e = .returned (.bool r)) := by
 refine aL (args := [(.agg #[Fp, FX, (I6 a.status), (I6 a.aQ)]), (.agg #[vb0, vb1, (I6 b.status), (I6 b.aQ)])]) Tryz.func19 rfl Tryz.ntmps19 (bC rfl) ?_
 have h := SH.init hM
 replace h := h.fG 1 ha0 bE
 replace h := h.fG 2 ha1 (cO bE)
 replace h := h.fG 3 hb0 (cO (cO bE))
 replace h := h.fG 4 hb1 (cO (cO (cO bE)))
 refine nG (oP (cs := [Fp, FX, (I6 a.status), (I6 a.aQ)]) h 5 rfl rfl fun w b1 h => oP (cs := [vb0, vb1, (I6 b.status), (I6 b.aQ)]) h 6 rfl rfl fun w b2 h => aa (ae (v := (.bool (false))) rfl) (nJ (aa (ag nV rfl) (aa (aA h 5 rfl aU rfl rfl) (aa (ag nV rfl) (aa (aA h 6 rfl aU rfl rfl) (aa (bD rfl rfl) (aa (ah (v := (.bool (decide ((a.status : Int) = b.status)))) rfl) (aC rfl rfl (fun q => ag wC rfl) (aC rfl rfl (fun q => aA h 5 rfl aU (dE q) rfl) (aC rfl rfl (fun q => ag wC rfl) (aC rfl rfl (fun q => aA h 6 rfl aU (dE q) rfl) (aC rfl rfl (fun q => bD (dE q) (dE q)) (aa (gP rfl rfl nQ) (aa (ah (v := (.bool ((decide ((a.status : Int) = b.status) && decide ((a.aQ : Int) = b.aQ))))) rfl) (jL (b := (decide ((a.status : Int) = b.status) && decide ((a.aQ : Int) = b.aQ))) hs (fun c3 hs => ?_) (fun c3 hs => ?_)))))))))))))))))
 refine dX rfl (cB c3) (aa (ag il rfl) (dX rfl (cB c3) (aa (aA h 5 rfl kr rfl rfl) (dX rfl (cB c3) (aa (ag il rfl) (dX rfl (cB c3) (aa (aA h 6 rfl kr rfl rfl) (dX rfl (cB c3) ?_))))))))
 obtain ⟨y4, e5, hs⟩ := aJ hs
 refine aR fnOk44 rfl rfl (Pp _ _ h.lt FX a.cells (h.iM 2 rfl) vb1 b.cells (h.iM 4 rfl) _ e5) ?_
 rintro _ w ⟨k6, rfl⟩
 refine ⟨_, rfl, ?_⟩
 replace h := h.grow k6
 refine aa (dJ (b := true) (v := (.bool (y4))) (cB c3) rfl) (aa (ah (v := (.bool (y4))) rfl) (jL (b := y4) hs (fun c7 hs => ?_) (fun c7 hs => ?_)))
 refine dX rfl (cB c7) (aa (ag ed rfl) (dX rfl (cB c7) (aa (aA h 5 rfl iU rfl rfl) (dX rfl (cB c7) (aa (ag ed rfl) (dX rfl (cB c7) (aa (aA h 6 rfl iU rfl rfl) (dX rfl (cB c7) (jP (args := [Fp, vb0, (.func (.func 46) #[] #[])]) fnOk45 rfl rfl (aL (args := [Fp, vb0, (.func (.func 46) #[] #[])]) Tryz.func45 rfl Tryz.ntmps45 (bC rfl) (nG (aa (ae (v := (.bool (false))) rfl) (nK (aa (ah (v := Fp) rfl) (aa (bT df rfl (h.iM 1 rfl)) (aa (ah (v := vb0) rfl) (aa (bT df rfl (h.iM 3 rfl)) (aa (iP rfl rfl) ?_))))))))))))))))))
 refine nN (aH hs rfl (fun c8 hs => ?_) (fun c8 hs => ?_))
 refine nG (aa (ae (v := (.bool (false))) rfl) (nR (az (bR (v := (.bool (false))) Tryz.results45 rfl (⟨_, rfl, ?_⟩)))))
 refine aa (dJ (b := true) (v := (.bool (false))) (cB c7) rfl) (aa (ae (v := (.bool (false))) rfl) (nR (bR (v := (.bool (false))) Tryz.results19 rfl ?_)))
 obtain rfl := fI hs
 exact ⟨h.grown, rfl⟩
 refine aI (ak (aO (nG (aa (ah (v := Fp) rfl) (aa (bT df rfl (h.iM 1 rfl)) (aa (ah (v := (I6 0)) rfl) (nN (aP (fT (σ := Nat × Int) (inl ([6, 7, 8, 9] ++ rg 17 15)) (fun ⟨k9, i10⟩ => [(17, (I6 i10))]) (fun ⟨k9, i10⟩ w => SH w0 M BE w (hset [(1, .sr eu Fp a.frames), (3, .sr eu vb0 b.frames)]) ∧ i10 = (k9 : Int) ∧ fq (zw b) Df i10 (a.frames.drop k9) () = some r) (fun ⟨k9, i10⟩ => a.frames.length - k9) ⟨0, 0⟩ ⟨rfl, trivial⟩ ?_ ?_)))))))))
 exact ⟨h.cn _, rfl, hs⟩
 rintro ⟨k9, i10⟩ w dz ⟨h, hik, hs⟩
 refine nG ?_
 refine aa (dL rfl rfl) (nN ?_)
 refine aO (iw rfl (fun e14 => ?_) (fun e14 => ?_))
 refine aI (ak ?_)
 obtain ⟨dS, Nl, Nn⟩ := gK (hik ▸ e14)
 rw [Nn, ja] at hs
 generalize FO : fq (zw b) Df (i10 + 1) (a.frames.drop (k9 + 1)) = nO at hs
 have Np := gN ((h.iM 1 rfl)).bW hik e14
 refine aO (aP (nG (aa (ah (v := (I6 i10)) rfl) ?_)))
 obtain ⟨b17, o18, WM, h, TF, i16⟩ := h.Br 1 7 rfl df rfl (jb hik) (gM hik Nl)
 obtain ⟨u21, rfl, g22⟩ := wM TF
 replace h := h.bM 8 g22.up
 refine aa (i16 _ _ _ _ _ _ _ _ _ rfl rfl) (aa (jm (k := 0) (vs := [(I6 dS.proc), (I6 dS.at_), u21, (I6 dS.kP)]) h 7 rfl iA rfl rfl rfl (bC rfl)) (bO h 9 iA fun w Ej h => aa (ae (v := (I6 i10)) rfl) (dn (vs := [(I6 dS.proc), (I6 dS.at_), u21, (I6 dS.kP)]) h 9 [(I6 dS.proc), (I6 dS.at_), u21, (I6 dS.kP)] rfl iA rfl rfl rfl rfl rfl (ai rfl (ai rfl (ai (h.fM 8 rfl).one (ai rfl aT)))) fun w h => nJ (aa (ah (v := vb0) rfl) (aa (ah (v := (I6 i10)) rfl) ?_)))))
 obtain ⟨x24, e25, hs⟩ := aJ hs
 obtain ⟨b27, o28, cs29, h, r30, i26⟩ := h.Br 3 10 rfl df rfl (aG e25).1 (aG e25).2
 obtain ⟨u31, rfl, g32⟩ := wM r30
 replace h := h.bM 11 g32.up
 refine aa (i26 _ _ _ _ _ _ _ _ _ rfl rfl) (aa (jm (k := 0) (vs := [(I6 x24.proc), (I6 x24.at_), u31, (I6 x24.kP)]) h 10 rfl iA rfl rfl rfl (bC rfl)) (bO h 12 iA fun w b33 h => dn (vs := [(I6 x24.proc), (I6 x24.at_), u31, (I6 x24.kP)]) h 12 [(I6 x24.proc), (I6 x24.at_), u31, (I6 x24.kP)] rfl iA rfl rfl rfl rfl rfl (ai rfl (ai rfl (ai (h.fM 11 rfl).one (ai rfl aT)))) fun w h => nN (bX (σ := Bool) (inl [26, 27, 28, 29, 30]) (fun x34 => [(30, (.bool (x34)))]) (fun x34 w => SH w0 M BE w (hset [(1, .sr eu Fp a.frames), (3, .sr eu vb0 b.frames)]) ∧ uu nO x34 = some r) ?_ ?_)))
 rintro x34 w dz ⟨h, hs⟩
 refine aH hs rfl (fun c35 hs => ?_) (fun c35 hs => ?_)
 refine nG (aa (ae (v := (.bool (false))) rfl) (nR (aF (az (az (aF (az (bR (v := (.bool (false))) Tryz.results45 rfl (⟨_, rfl, ?_⟩)))))))))
 refine aa (dJ (b := true) (v := (.bool (false))) (cB c7) rfl) (aa (ae (v := (.bool (false))) rfl) (nR (bR (v := (.bool (false))) Tryz.results19 rfl ?_)))
 obtain rfl := fI hs
 exact ⟨h.grown, rfl⟩
 refine aI (ax (ak (aB (aa (dm rfl rfl Np) (aa (ah (v := (I6 ((i10 + 1)))) rfl) (ay (au ?_)))))))
 subst FO
 exact jQ ⟨k9 + 1, i10 + 1⟩ ⟨h.cn _, by omega, hs⟩ (by have := qE e14; dsimp only; omega)
 refine aB (aa (ah (v := (.func (.func 46) #[] #[])) rfl) (aa (dh (vs := [(I6 dS.proc), (I6 dS.at_), u21, (I6 dS.kP)]) h 9 rfl iA rfl rfl rfl) (aa (dh (vs := [(I6 x24.proc), (I6 x24.at_), u31, (I6 x24.kP)]) h 12 rfl iA rfl rfl rfl) (jP (args := [(.agg #[(I6 dS.proc), (I6 dS.at_), u21, (I6 dS.kP)]), (.agg #[(I6 x24.proc), (I6 x24.at_), u31, (I6 x24.kP)])]) fnOk46 rfl rfl (aL (args := [(.agg #[(I6 dS.proc), (I6 dS.at_), u21, (I6 dS.kP)]), (.agg #[(I6 x24.proc), (I6 x24.at_), u31, (I6 x24.kP)])]) Tryz.func46 rfl Tryz.ntmps46 (bC rfl) (nG (oP (cs := [(I6 dS.proc), (I6 dS.at_), u21, (I6 dS.kP)]) h 13 rfl rfl fun w b36 h => oP (cs := [(I6 x24.proc), (I6 x24.at_), u31, (I6 x24.kP)]) h 14 rfl rfl fun w b37 h => aa (ae (v := (.bool (false))) rfl) (nJ (aa (ag wD rfl) (aa (aA h 13 rfl aU rfl rfl) (aa (ag wD rfl) (aa (aA h 14 rfl aU rfl rfl) (aa (bD rfl rfl) (aa (ah (v := (.bool (decide ((dS.proc : Int) = x24.proc)))) rfl) (aC rfl rfl (fun q => ag sO rfl) (aC rfl rfl (fun q => aA h 13 rfl aU (dE q) rfl) (aC rfl rfl (fun q => ag sO rfl) ?_)))))))))))))))))
 refine aC rfl rfl (fun q => aA h 14 rfl aU (dE q) rfl) (aC rfl rfl (fun q => bD (dE q) (dE q)) (aa (gP rfl rfl nQ) (aa (ah (v := (.bool ((decide ((dS.proc : Int) = x24.proc) && decide ((dS.at_ : Int) = x24.at_))))) rfl) (aC rfl rfl (fun q => ag zt rfl) (aC rfl rfl (fun q => aA h 13 rfl aU (dE q) rfl) (aC rfl rfl (fun q => ag zt rfl) (aC rfl rfl (fun q => aA h 14 rfl aU (dE q) rfl) (aC rfl rfl (fun q => bD (dE q) (dE q)) (aa (gP rfl rfl nQ) (aa (ah (v := (.bool (((decide ((dS.proc : Int) = x24.proc) && decide ((dS.at_ : Int) = x24.at_)) && decide ((dS.kP : Int) = x24.kP))))) rfl) (jL (b := ((decide ((dS.proc : Int) = x24.proc) && decide ((dS.at_ : Int) = x24.at_)) && decide ((dS.kP : Int) = x24.kP))) hs (fun OE hs => ?_) (fun OE hs => ?_))))))))))))
 refine dX rfl (cB OE) (aa (ag kT rfl) (dX rfl (cB OE) (aa (aA h 13 rfl lC rfl rfl) (dX rfl (cB OE) (aa (ag kT rfl) (dX rfl (cB OE) (aa (aA h 14 rfl lC rfl rfl) (dX rfl (cB OE) ?_))))))))
 obtain ⟨y39, e40, hs⟩ := aJ hs
 refine aR V5 rfl rfl (xn _ _ h.lt u21 dS.regs (h.mM 8 rfl) u31 x24.regs (h.mM 11 rfl) _ e40) ?_
 rintro _ w ⟨k41, rfl⟩
 refine ⟨_, rfl, ?_⟩
 replace h := h.grow k41
 refine aa (dJ (b := true) (v := (.bool (y39))) (cB OE) rfl) (aa (ae (v := (.bool (y39))) rfl) (nR (bR (v := (.bool (y39))) Tryz.results46 rfl (⟨_, rfl, ?_⟩))))
 refine aa (gQ rfl) (ay (au ?_))
 exact bP (!y39) ⟨h.cn _, hs⟩
 refine yx rfl (cB OE) rfl (yx rfl (cB OE) rfl (yx rfl (cB OE) rfl (yx rfl (cB OE) rfl (yx rfl (cB OE) rfl (aa (dJ (b := false) (v := (.bool (false))) (cB OE) rfl) (aa (ae (v := (.bool (false))) rfl) (nR (bR (v := (.bool (false))) Tryz.results46 rfl (⟨_, rfl, ?_⟩)))))))))
 refine aa (gQ rfl) (ay (au ?_))
 exact bP true ⟨h.cn _, hs⟩
 rw [gL (hik ▸ e14), nZ] at hs
 refine nE (aa (ae (v := (.bool (true))) rfl) (nR (bR (v := (.bool (true))) Tryz.results45 rfl (⟨_, rfl, ?_⟩))))
 refine aa (dJ (b := true) (v := (.bool (true))) (cB c7) rfl) (aa (ae (v := (.bool (true))) rfl) (nR (bR (v := (.bool (true))) Tryz.results19 rfl ?_)))
 obtain rfl := fI hs
 exact ⟨h.grown, rfl⟩
 refine yx rfl (cB c7) rfl (yx rfl (cB c7) rfl (yx rfl (cB c7) rfl (yx rfl (cB c7) rfl (yx rfl (cB c7) rfl (aa (dJ (b := false) (v := (.bool (false))) (cB c7) rfl) (aa (ae (v := (.bool (false))) rfl) (nR (bR (v := (.bool (false))) Tryz.results19 rfl ?_))))))))
 obtain rfl := fI hs
 exact ⟨h.grown, rfl⟩
 refine yx rfl (cB c3) rfl (yx rfl (cB c3) rfl (yx rfl (cB c3) rfl (yx rfl (cB c3) rfl (yx rfl (cB c3) rfl (aa (dJ (b := false) (v := (.bool (false))) (cB c3) rfl) (aa (ah (v := (.bool (false))) rfl) (nL (b' := false) rfl rfl rfl (nL (b' := false) rfl rfl rfl (nL (b' := false) rfl rfl rfl (nL (b' := false) rfl rfl rfl (nL (b' := false) rfl rfl rfl (aa (dJ (b := false) (v := (.bool (false))) rfl rfl) (aa (ae (v := (.bool (false))) rfl) (nR (bR (v := (.bool (false))) Tryz.results19 rfl ?_)))))))))))))))
 obtain rfl := fI hs
 exact ⟨h.grown, rfl⟩
def vv (a : Int) (b : Int) : Option Int :=
  gJ (0 < b) (bif decide (((Int.tmod a b) : Int) < 0) then gJ (jI ((Int.tmod a b) + b)) (some ((Int.tmod a b) + b)) else some (Int.tmod a b))
theorem Ih (w0 : World) (M : BS) (hM : ∀ b, M b → b < w0.heap.size) (a : Int) (b : Int) (r : Int) (hs : vv a b = some r) :
    Calls Tryz.prog 16 #[(I6 a), (I6 b)] w0 (fun e w' => Grow w0 w' ∧ e = .returned (.int .i64 r)) := by
 refine aL (args := [(I6 a), (I6 b)]) Tryz.func16 rfl Tryz.ntmps16 (bC rfl) ?_
 have h := SH.init hM
 refine nG (aa (ae (v := (I6 0)) rfl) (nJ (aa (ah (v := (I6 a)) rfl) (aa (ah (v := (I6 b)) rfl) ?_))))
 obtain ⟨a1, hs⟩ := bu hs
 refine aa (r_rem rfl rfl a1) (aa (ae (v := (I6 ((Int.tmod a b)))) rfl) (nK (aa (ah (v := (I6 ((Int.tmod a b)))) rfl) (aa (dL rfl rfl) (nN (aH hs rfl (fun c2 hs => ?_) (fun c2 hs => ?_)))))))
 refine aB (aa (ah (v := (I6 ((Int.tmod a b)))) rfl) (aa (ah (v := (I6 b)) rfl) ?_))
 obtain ⟨a3, hs⟩ := bu hs
 refine aa (dm rfl rfl a3) (aa (ae (v := (I6 (((Int.tmod a b) + b)))) rfl) (nJ (aa (ah (v := (I6 (((Int.tmod a b) + b)))) rfl) (aa (ae (v := (I6 (((Int.tmod a b) + b)))) rfl) (nR (bR (v := (I6 (((Int.tmod a b) + b)))) Tryz.results16 rfl ?_))))))
 obtain rfl := fI hs
 exact ⟨h.grown, rfl⟩
 refine nS (aa (ah (v := (I6 ((Int.tmod a b)))) rfl) (aa (ae (v := (I6 ((Int.tmod a b)))) rfl) (nR (bR (v := (I6 ((Int.tmod a b)))) Tryz.results16 rfl ?_))))
 obtain rfl := fI hs
 exact ⟨h.grown, rfl⟩
end
end Go.Proofs.YtfclkapelkhlpaaGreatDoor
namespace Go.Proofs.YtfclkapelkhlpaaGreatDoor
open Go Go.Proofs Go.LX
noncomputable section
def ni (a : Val) (b : Int) (x2 : Bool) : Int :=
  bif x2 then 4 else bif (decide ((a.kind : Int) = 1) && (!(fC a.n))) then 3 else bif (decide ((a.kind : Int) = 2) && (!(aS a.n b))) then 5 else 0
def dR (a : Val) (b : Int) : Int :=
  bif (!(aW a.kind 0 2)) then ni a b (!(aW a.kind 0 2)) else ni a b (decide ((a.kind : Int) = 0) && decide ((a.n : Int) ≠ 0))
def jA (a : List (List Val)) (x20 : Val) (s : Unit) (Zd : Unit → Int) : Int :=
  bif decide (((dR x20 (a.length : Int)) : Int) ≠ 0) then (dR x20 (a.length : Int)) else Zd ()
def jB (I4 : Unit → Int) (s : Unit) : Int :=
  I4 ()
def jC (a : List (List Val)) (x4 : List Val) (s : Unit) (I4 : Unit → Int) : Int :=
  bif (!(aW (x4.length : Int) 1 4)) then 2 else each (jA a) (jB I4) x4 ()
def jD (s : Unit) : Int :=
  0
def kW (a : List (List Val)) : Int :=
  bif decide ((24 : Int) < (a.length : Int)) then 2 else each (jC a) jD a ()
def mh (b : LX.State) (x44 : Val) (s : Unit) (nx46 : Unit → Option Int) : Option Int :=
  bif decide (((dR x44 (b.cells.length : Int)) : Int) ≠ 0) then some (dR x44 (b.cells.length : Int)) else nx46 ()
def mi (NC : Int → Option Int) (Gt : LX.Frame) (s : Unit) : Option Int :=
  NC (Gt.regs.length : Int)
def gp (a : List bQ) (Gt : LX.Frame) (b : LX.State) (NC : Int → Option Int) (x30 : Bool) : Option Int :=
  bif x30 then some 3 else (idx a Gt.proc).bind fun x32 => bif decide (((Gt.regs.length : Int) : Int) ≠ x32.regs) then some 4 else each (mh b) (mi NC Gt) Gt.regs ()
def fo (a : List bQ) (b : LX.State) (Gt : LX.Frame) (Am : Int) (NC : Int → Option Int) : Option Int :=
  bif (!(aS Gt.proc (a.length : Int))) then some 5 else (idx a Gt.proc).bind fun XQ => bif (!(aS Gt.at_ (XQ.code.length : Int))) then gp a Gt b NC true else gp a Gt b NC (!(aS Gt.kP Am))
def iK (Am : Int) : Option Int :=
  some 0
def pY (a : List bQ) (b : LX.State) : Option Int :=
  bif ((!(aW b.status 0 3)) || (!(fC b.aQ))) then some 3 else bif (((decide ((b.aQ : Int) ≠ 0) && decide ((b.status : Int) ≠ 3)) || (decide ((b.status : Int) = 1) && decide ((0 : Int) < (b.frames.length : Int)))) || (decide ((b.status : Int) ≠ 1) && decide (((b.frames.length : Int) : Int) = 0))) then some 4 else bif decide ((10 : Int) < (b.frames.length : Int)) then some 2 else bif decide (((kW b.cells) : Int) ≠ 0) then some (kW b.cells) else each (fo a b) iK b.frames 1
end
end Go.Proofs.YtfclkapelkhlpaaGreatDoor
namespace Go.Proofs.YtfclkapelkhlpaaGreatDoor
open Go Go.Proofs Go.LX
noncomputable section
abbrev Re : List (Int × Str) := [(2, [118]), (4, [46]), (5, [110, 101, 119]), (6, [102]), (1, [])]
theorem bnd {α β : Type} (a : α) (f : α → Option β) : (some a).bind f = f a := rfl
theorem UC {α σ : Type} {g : α → Option σ} {l : List α} (hu : ∀ p ∈ l, ∀ q ∈ l, g p ≠ none → g q ≠ none → p = q) {p : α} (hp : p ∈ l) {t : σ} (h : g p = some t) : l.findSome? g = some t := by
  cases e : l.findSome? g with
  | none =>
    rw [List.findSome?_eq_none_iff] at e
    rw [e p hp] at h; cases h
  | some u =>
    obtain ⟨q, hq, hqu⟩ := List.exists_of_findSome?_eq_some e
    have := hu p hp q hq (by rw [h]; simp) (by rw [hqu]; simp)
    subst this
    rw [h] at hqu; exact hqu.symm
theorem Ma {α σ : Type} {step : α → σ → Option σ} {g : α → Option σ} : ∀ {l : List α}, (∀ p ∈ l, ∀ s, step p s = some ((g p).getD s)) → (∀ p ∈ l, g p = none) → ∀ s, Jz step l s = some s
  | [], _, _, s => rfl
  | p :: l, h, hn, s => by
    unfold Jz
    rw [h p (by simp), hn p (by simp), Option.getD_none, bnd]
    exact Ma (fun q hq => h q (List.mem_cons_of_mem _ hq)) (fun q hq => hn q (List.mem_cons_of_mem _ hq)) s
theorem Mc {α σ : Type} {step : α → σ → Option σ} {g : α → Option σ} : ∀ {l : List α}, (∀ p ∈ l, ∀ s, step p s = some ((g p).getD s)) → (∀ p ∈ l, ∀ q ∈ l, g p ≠ none → g q ≠ none → p = q) → l.Nodup → ∀ s, Jz step l s = some ((l.findSome? g).getD s)
  | [], _, _, _, s => rfl
  | p :: l, h, hu, hn, s => by
    unfold Jz
    rw [h p (by simp), bnd]
    have hn' := List.nodup_cons.1 hn
    cases e : g p with
    | none =>
      rw [Option.getD_none, Mc (fun q hq => h q (List.mem_cons_of_mem _ hq)) (fun a ha b hb => hu a (List.mem_cons_of_mem _ ha) b (List.mem_cons_of_mem _ hb)) hn'.2 s, List.findSome?_cons, e]
    | some t =>
      rw [Option.getD_some, Ma (fun q hq => h q (List.mem_cons_of_mem _ hq)) (fun q hq => ?_) t, List.findSome?_cons, e]
      · rfl
      · cases e2 : g q with
        | none => rfl
        | some u =>
          have := hu p (by simp) q (List.mem_cons_of_mem _ hq) (by rw [e]; simp) (by rw [e2]; simp)
          subst this
          exact absurd hq hn'.1
theorem UD {α σ : Type} {step : α → σ → Option σ} {g : α → Option σ} {L : List α} (h : ∀ p ∈ L, ∀ s, step p s = some ((g p).getD s)) (hu : ∀ p ∈ L, ∀ q ∈ L, g p ≠ none → g q ≠ none → p = q) (hn : L.Nodup) (s : σ) : sN step L s ((L.findSome? g).getD s) := by
  intro l hl
  rw [Mc (fun p hp => h p (hl.mem_iff.1 hp)) (fun p hp q hq => hu p (hl.mem_iff.1 hp) q (hl.mem_iff.1 hq)) (hl.nodup_iff.2 hn) s]
  congr 2
  cases e : L.findSome? g with
  | none =>
    rw [List.findSome?_eq_none_iff] at e ⊢
    exact fun x hx => e x (hl.mem_iff.1 hx)
  | some t =>
    obtain ⟨p, hp, ht⟩ := List.exists_of_findSome?_eq_some e
    exact UC (fun p hp q hq => hu p (hl.mem_iff.1 hp) q (hl.mem_iff.1 hq)) (hl.mem_iff.2 hp) ht
def joO (pe : Int × Str) (y : Int × Bool) (x : Bool) : Option (Int × Int) := bif x then some (pe.1, y.1) else none
def Pq (s : Str) (pe : Int × Str) : Option (Option (Int × Int)) :=
  (strings_TrimPrefix s pe.2).bind fun Nr => (CF Nr).bind fun FP => bif (!FP.2) then (jG (⟨pe.1, FP.1⟩ : Tok)).bind fun rY => some (joO pe FP (decide ((rY : Str) = s))) else some (joO pe FP false)
theorem Zw (pe : Int × Str) (y : Int × Bool) (a b : Int) (x : Bool) : uR pe y a b x = some ((joO pe y x).getD (a, b)) := by
  unfold uR joO; cases x <;> rfl
theorem Zx (s : Str) (pe : Int × Str) (st : Int × Int) : pM s pe st = (Pq s pe).bind fun o => some (o.getD st) := by
  obtain ⟨a, b⟩ := st
  unfold pM Pq
  simp only [Zw]
  cases strings_TrimPrefix s pe.2 with
  | none => rfl
  | some y =>
    simp only [bnd]
    cases CF y with
    | none => rfl
    | some z =>
      simp only [bnd]
      cases z.2 with
      | true => rfl
      | false =>
        simp only [Bool.not_false, cond_true]
        cases jG (⟨pe.1, z.1⟩ : Tok) <;> rfl
def gO (s : Str) (p : Int × Str) : Option (Int × Int) := (Pq s p).join
def okW (s : Str) : Bool := Re.all (fun p => (Pq s p).isSome) && Re.all (fun p => Re.all fun q => (gO s p).isNone || (gO s q).isNone || decide (p = q))
def preC (s : Str) : Int × Int := (Re.findSome? (gO s)).getD (0, 0)
theorem Zy {s : Str} (h : okW s = true) : zn (pM s) Re (0, 0) = some (preC s) := by
  unfold okW at h
  rw [Bool.and_eq_true, List.all_eq_true, List.all_eq_true] at h
  refine Qj (UD (g := gO s) (fun p hp st => ?_) (fun p hp q hq h1 h2 => ?_) (by decide) (0, 0))
  · have h1 := h.1 p hp
    rw [Zx]
    unfold gO
    cases e : Pq s p with
    | none => rw [e] at h1; cases h1
    | some o => cases o <;> rfl
  · have := List.all_eq_true.1 (h.2 p hp) q hq
    rw [Bool.or_eq_true, Bool.or_eq_true] at this
    rcases this with (e | e) | e
    · exact absurd (Option.isNone_iff_eq_none.1 e) h1
    · exact absurd (Option.isNone_iff_eq_none.1 e) h2
    · exact qE e
def XR (s : Str) : Option (Int × Int) := bif okW s then some (preC s) else zn (pM s) Re (0, 0)
theorem XT (s : Str) : XR s = zn (pM s) Re (0, 0) := by
  unfold XR
  cases e : okW s with
  | false => rfl
  | true => exact (Zy e).symm
def wF (N : Nat) (Bl : List Tok) (F : List fB) (Bn : Int) (Ak : (List Tok × Int × Bool × Int) → Option (List Tok × dP)) (x29 : Str) (Jh : Bool) (y31 : Int) : Option (List Tok × dP) :=
  (XR x29).bind fun OT => (FQ N x29 Bl F y31 Bn Ak Jh) OT
theorem Ki : @wF = @uS := by
  funext a b c d e f g h
  unfold wF uS
  rw [XT]
def zN (N : Nat) (W : List Str) (F : List fB) (s : List Tok × Int × Bool × Int) (Ak : List Tok × Int × Bool × Int → Option (List Tok × dP)) : Option (List Tok × dP) :=
  match s with | (Bl, Bn, Qy, y20) => bif (decide ((0 : Int) < Bn) && Qy) then bif decide (((W.length : Int) : Int) ≤ y20) then wF N Bl F Bn Ak [] false y20 else gJ (jI (y20 + 1)) (gJ (jI ((y20 + 1) - 1)) ((idx W ((y20 + 1) - 1)).bind fun x103 => wF N Bl F Bn Ak x103 Qy (y20 + 1))) else some (Bl, (⟨y20, Qy⟩ : dP))
theorem Kj : @zN = @uT := by
  unfold zN uT
  rw [Ki]
def F7 (N : Nat) (sx : dP) (W : List Str) (F : List fB) : Option (List Tok × dP) :=
  again (zN N W F) N ([], 1, sx.ok, sx.at_)
theorem Md : @F7 = @FR := by
  unfold F7 FR
  rw [Kj]
def wG (N : Nat) (F0 : dP → List Str → List fB → Int → Option (List bB × dP)) (mJ : Int) (W : List Str) (F : List fB) (a : Int) (nW : List bB) (zX : Int) (l7 : (List bB × Int × Bool) → Option (List bB × dP)) (QF : Int) (QG : Bool) (rR : List Tok) : Option (List bB × dP) :=
  bif decide (((mJ + 1) : Int) = 2) then (F7 N (⟨QF, QG⟩ : dP) W F).bind fun Nr => uU F0 mJ a W F nW zX rR l7 Nr.2.at_ Nr.2.ok Nr.1 else uU F0 mJ a W F nW zX rR l7 QF QG []
theorem Kk : @wG = @uV := by
  unfold wG uV
  rw [Md]
def sF (N : Nat) (F0 : dP → List Str → List fB → Int → Option (List bB × dP)) (mJ : Int) (W : List Str) (F : List fB) (a : Int) (nW : List bB) (l7 : (List bB × Int × Bool) → Option (List bB × dP)) (tq : Int) (BK : Bool) (zX : Int) : Option (List bB × dP) :=
  bif decide (((mJ + 1) : Int) ≠ 4) then (F7 N (⟨tq, BK⟩ : dP) W F).bind fun y95 => wG N F0 mJ W F a nW zX l7 y95.2.at_ y95.2.ok y95.1 else wG N F0 mJ W F a nW zX l7 tq BK []
theorem Kl : @sF = @rC := by
  unfold sF rC
  rw [Md, Kk]
def wH (N : Nat) (F0 : dP → List Str → List fB → Int → Option (List bB × dP)) (nW : List bB) (W : List Str) (F : List fB) (a : Int) (l7 : (List bB × Int × Bool) → Option (List bB × dP)) (x27 : Str) (y28 : Int) (y29 : Bool) : Option (List bB × dP) :=
  bif decide ((x27 : Str) = [125]) then some (nW, (⟨y28, y29⟩ : dP)) else (FC [115, 101, 116, 32, 112, 117, 116, 32, 115, 97, 121, 32, 112, 97, 117, 115, 101, 32, 103, 111, 32, 105, 102, 32, 119, 104, 105, 108, 101, 32, 114, 101, 116, 117, 114, 110]).bind fun y31 => (slices_Index_string y31 x27).bind fun mJ => gJ (jI (mJ + 1)) (bif (!(y29 && decide ((0 : Int) < (mJ + 1)))) then some ([], (⟨y28, (y29 && decide ((0 : Int) < (mJ + 1)))⟩ : dP)) else bif decide (((mJ + 1) : Int) ≤ 2) then bif decide (((W.length : Int) : Int) ≤ y28) then (CF []).bind fun y104 => sF N F0 mJ W F a nW l7 y28 false y104.1 else gJ (jI (y28 + 1)) (gJ (jI ((y28 + 1) - 1)) ((idx W ((y28 + 1) - 1)).bind fun QH => (CF QH).bind fun QI => sF N F0 mJ W F a nW l7 (y28 + 1) (y29 && decide ((0 : Int) < (mJ + 1))) QI.1)) else sF N F0 mJ W F a nW l7 y28 (y29 && decide ((0 : Int) < (mJ + 1))) 0)
theorem Km : @wH = @uW := by
  unfold wH uW
  rw [Kl]
def zO (N : Nat) (F0 : dP → List Str → List fB → Int → Option (List bB × dP)) (W : List Str) (F : List fB) (a : Int) (s : List bB × Int × Bool) (l7 : List bB × Int × Bool → Option (List bB × dP)) : Option (List bB × dP) :=
  match s with | (nW, I5, KU) => bif KU then bif decide (((W.length : Int) : Int) ≤ I5) then wH N F0 nW W F a l7 [] I5 false else gJ (jI (I5 + 1)) (gJ (jI ((I5 + 1) - 1)) ((idx W ((I5 + 1) - 1)).bind fun JM => wH N F0 nW W F a l7 JM (I5 + 1) KU)) else some ([], (⟨I5, KU⟩ : dP))
theorem Kn : @zO = @uX := by
  unfold zO uX
  rw [Km]
def yc (N : Nat) (F0 : dP → List Str → List fB → Int → Option (List bB × dP)) (W : List Str) (F : List fB) (a : Int) (y1 : Int) (y2 : Bool) : Option (List bB × dP) :=
  again (zO N F0 W F a) N ([], y1, y2)
theorem La : @yc = @wT := by
  unfold yc wT
  rw [Kn]
def wI (N : Nat) (F0 : dP → List Str → List fB → Int → Option (List bB × dP)) (W : List Str) (F : List fB) (a : Int) (Ex : Bool) (I7 : Int) (Nt : Bool) : Option (List bB × dP) :=
  bif Ex then yc N F0 W F a I7 false else yc N F0 W F a I7 Nt
theorem Ko : @wI = @uY := by
  unfold wI uY
  rw [La]
def zy (N : Nat) (F0 : dP → List Str → List fB → Int → Option (List bB × dP)) (sx : dP) (W : List Str) (F : List fB) (a : Int) : Option (List bB × dP) :=
  bif decide (((W.length : Int) : Int) ≤ sx.at_) then wI N F0 W F a true sx.at_ false else gJ (jI (sx.at_ + 1)) (gJ (jI ((sx.at_ + 1) - 1)) ((idx W ((sx.at_ + 1) - 1)).bind fun OU => wI N F0 W F a (decide ((OU : Str) ≠ [123]) || decide ((6 : Int) < a)) (sx.at_ + 1) sx.ok))
theorem NQ : @zy = @yC := by
  unfold zy yC
  rw [Ko]
def AV : Nat → dP → List Str → List fB → Int → Option (List bB × dP)
  | 0 => fun _ _ _ _ => none
  | N + 1 => zy N (AV N)
theorem Kq : ∀ N, AV N = wU N
  | 0 => rfl
  | N + 1 => by show zy N (AV N) = yC N (wU N); rw [NQ, Kq N]
def jh (N : Nat) (y1 : List Str) (rY : List fB) (i101 : Int) (ll : (List fB × Int × Bool) → Option (List fB × Int)) (I8 : Int) (y112 : Bool) : Option (List fB × Int) :=
  (AV N (⟨I8, y112⟩ : dP) y1 rY 1).bind fun kE => (idx rY i101).bind fun yj => ll ((rY.set (i101).toNat { yj with body := kE.1 }), kE.2.at_, kE.2.ok)
theorem xB : @jh = @iB := by
  unfold jh iB
  rw [show @AV = @wU from funext Kq]
def ji (N : Nat) (y1 : List Str) (rY : List fB) (i101 : Int) (ll : (List fB × Int × Bool) → Option (List fB × Int)) (qd : Int) (Nv : Bool) : Option (List fB × Int) :=
  bif decide (((y1.length : Int) : Int) ≤ qd) then jh N y1 rY i101 ll qd false else gJ (jI (qd + 1)) (gJ (jI ((qd + 1) - 1)) ((idx y1 ((qd + 1) - 1)).bind fun Y6 => jh N y1 rY i101 ll (qd + 1) Nv))
theorem xC : @ji = @iC := by
  unfold ji iC
  rw [xB]
def jk (N : Nat) (y1 : List Str) (rY : List fB) (i101 : Int) (ll : (List fB × Int × Bool) → Option (List fB × Int)) (qf : Int) (Nw : Bool) : Option (List fB × Int) :=
  bif decide (((y1.length : Int) : Int) ≤ qf) then ji N y1 rY i101 ll qf false else gJ (jI (qf + 1)) (gJ (jI ((qf + 1) - 1)) ((idx y1 ((qf + 1) - 1)).bind fun Y7 => ji N y1 rY i101 ll (qf + 1) Nw))
theorem xD : @jk = @iD := by
  unfold jk iD
  rw [xC]
def jl (N : Nat) (y1 : List Str) (rY : List fB) (i101 : Int) (ll : (List fB × Int × Bool) → Option (List fB × Int)) (OW : Bool) (I9 : Int) (Ny : Bool) : Option (List fB × Int) :=
  bif OW then jk N y1 rY i101 ll I9 false else jk N y1 rY i101 ll I9 Ny
theorem xE : @jl = @iE := by
  unfold jl iE
  rw [xD]
def kX (N : Nat) (y1 : List Str) (i101 : Int) (s : List fB × Int × Bool) (ll : List fB × Int × Bool → Option (List fB × Int)) : Option (List fB × Int) :=
  match s with | (rY, y98, y99) => bif decide (((y1.length : Int) : Int) ≤ y98) then jl N y1 rY i101 ll true y98 false else gJ (jI (y98 + 1)) (gJ (jI ((y98 + 1) - 1)) ((idx y1 ((y98 + 1) - 1)).bind fun x152 => jl N y1 rY i101 ll (decide ((x152 : Str) ≠ [102, 117, 110])) (y98 + 1) y99))
theorem xG : @kX = @iF := by
  unfold kX iF
  rw [xE]
def kY (N : Nat) (y1 : List Str) (a : Str) (lh : List fB) (s : Unit) : Option (List fB × Int) :=
  upto (kX N y1) (jv N y1 a) 0 ((lh.length : Int)).toNat (lh, 0, true)
theorem xH : @kY = @iG := by
  unfold kY iG
  rw [xG]
def kZ (N : Nat) (y1 : List Str) (a : Str) (lh : List fB) : Option (List fB × Int) :=
  bif (decide (((lh.length : Int) : Int) = 0) || decide ((4 : Int) < (lh.length : Int))) then some ([], 1) else upto (jw lh) (kY N y1 a lh) 0 ((lh.length : Int)).toNat ()
theorem xI : @kZ = @iH := by
  unfold kZ iH
  rw [xH]
def oK (N : Nat) (a : Str) : Option (List fB × Int) :=
  (M0 a [32]).bind fun y1 => fq (jy y1) (kZ N y1 a) 0 y1 []
theorem zP : @oK = @kV := by
  unfold oK kV
  rw [xI]
def qZ (N : Nat) : Option (List fB) :=
  (oK N [102, 117, 110, 32, 48, 32, 49, 32, 123, 32, 115, 101, 116, 32, 48, 32, 51, 32, 119, 104, 105, 108, 101, 32, 118, 48, 32, 123, 32, 115, 97, 121, 32, 102, 49, 32, 118, 48, 32, 118, 48, 32, 103, 111, 32, 118, 48, 32, 112, 97, 117, 115, 101, 32, 115, 101, 116, 32, 48, 32, 45, 32, 118, 48, 32, 49, 32, 125, 32, 125, 32, 102, 117, 110, 32, 50, 32, 50, 32, 123, 32, 114, 101, 116, 117, 114, 110, 32, 42, 32, 118, 48, 32, 118, 49, 32, 125]).bind fun y1 => some y1.1
theorem Cu : @qZ = @kM := by
  unfold qZ kM
  rw [zP]
abbrev NN : Nat := 70000
theorem UE : kM NN = qZ NN := by rw [Cu]
end
end Go.Proofs.YtfclkapelkhlpaaGreatDoor
namespace Go.Proofs.YtfclkapelkhlpaaGreatDoor
open Go Go.Proofs Go.LX
theorem eqInt (a b : List Int) : slices_Equal_int a b = some (decide (a = b)) := by
  unfold slices_Equal_int
  by_cases h : a.length = b.length
  · rw [dF (by omega)]
    simp only [cond_false, Int.toNat_natCast]
    rw [Lp (fun x y => decide (x = y)) a b h rfl (fun i x y nx h1 h2 => by
      unfold nX
      rw [nU, nU, h1, h2]
      by_cases e : x = y <;> simp [e]), FB (fun _ _ => rfl)]
  · rw [dT (by omega)]
    have : a ≠ b := fun e => h (by rw [e])
    rw [dF this]; rfl
theorem F8 (a b : Int) : (decide (a < 0) || decide (b ≤ a)) = !aS a b := by
  unfold aS; rw [Bool.eq_iff_iff]; simp; try omega
theorem Zz {α : Type} (x : α) (l : List α) : idx (x :: l) 0 = some x := by simp [idx]
theorem Sy {l : List Int} : l.length = 1 ↔ ∃ x, l = [x] := by
  match l with
  | [] => simp
  | [x] => simp
  | x :: y :: r => simp
def zQ (i : Nat) (x : bQ) : Int :=
  if (0 ≤ x.params ∧ x.params ≤ 3) ∧ (1 ≤ x.regs ∧ x.params ≤ x.regs ∧ x.regs ≤ 40) ∧ ¬ (i = 0 ∧ x.params ≠ 0) then (if 1 ≤ x.code.length ∧ x.code.length ≤ 2000 then 0 else 2) else 3
theorem b39_eq (i : Nat) (x : bQ) (nx : Unit → Option Int) : iX (i : Int) x () nx = if zQ i x ≠ 0 then some (zQ i x) else nx () := by
  unfold iX zQ
  by_cases h1 : (0 ≤ x.params ∧ x.params ≤ 3) ∧ (1 ≤ x.regs ∧ x.params ≤ x.regs ∧ x.regs ≤ 40) ∧ ¬ (i = 0 ∧ x.params ≠ 0)
  · have e : (((((decide ((x.params : Int) < 0) || decide ((3 : Int) < x.params)) || decide ((x.regs : Int) < 1)) || decide ((x.regs : Int) < x.params)) || decide ((40 : Int) < x.regs)) || (decide ((i : Int) = 0) && decide ((0 : Int) < x.params))) = false := by
      simp only [Bool.or_eq_false_iff, Bool.and_eq_false_iff, decide_eq_false_iff_not]; omega
    rw [e, if_pos h1]
    simp only [cond_false]
    by_cases h2 : 1 ≤ x.code.length ∧ x.code.length ≤ 2000
    · rw [if_pos h2, show (decide (((x.code.length : Int) : Int) = 0) || decide ((2000 : Int) < (x.code.length : Int))) = false by simp only [Bool.or_eq_false_iff, decide_eq_false_iff_not]; omega]
      rfl
    · rw [if_neg h2, show (decide (((x.code.length : Int) : Int) = 0) || decide ((2000 : Int) < (x.code.length : Int))) = true by simp only [Bool.or_eq_true, decide_eq_true_eq]; omega]
      rfl
  · have e : (((((decide ((x.params : Int) < 0) || decide ((3 : Int) < x.params)) || decide ((x.regs : Int) < 1)) || decide ((x.regs : Int) < x.params)) || decide ((40 : Int) < x.regs)) || (decide ((i : Int) = 0) && decide ((0 : Int) < x.params))) = true := by
      simp only [Bool.or_eq_true, Bool.and_eq_true, decide_eq_true_eq]; omega
    rw [e, if_neg h1]
    rfl
def heads : Nat → List bQ → Int
  | _, [] => 0
  | i, x :: p => if zQ i x ≠ 0 then zQ i x else heads (i + 1) p
theorem Kr (k : Unit → Option Int) : ∀ (p : List bQ) (i : Nat), fq iX k (i : Int) p () = if heads i p ≠ 0 then some (heads i p) else k ()
  | [], i => by simp [heads, fq]
  | x :: p, i => by
    show iX (i : Int) x () (fq iX k ((i : Int) + 1) p) = _
    rw [b39_eq, show ((i : Int) + 1) = ((i + 1 : Nat) : Int) by omega, Kr k p (i + 1), heads]
    by_cases h : zQ i x = 0 <;> simp [h]
end Go.Proofs.YtfclkapelkhlpaaGreatDoor
namespace Go.Proofs.YtfclkapelkhlpaaGreatDoor
open Go Go.Proofs Go.LX
def rJ (x : bQ) : Prop := 1 ≤ x.code.length ∧ x.code.length ≤ 2000
theorem dO {α σ ρ : Type} {body : α → σ → (σ → ρ) → ρ} {k : σ → ρ} (x : α) (l : List α) (s : σ) : each body k (x :: l) s = body x s (each body k l) := rfl
theorem gT {α σ ρ : Type} {body : α → σ → (σ → ρ) → ρ} {k : σ → ρ} (s : σ) : each body k [] s = k s := rfl
theorem XU (d : Int) : ∀ l : List Int, ∃ y, each (nP d) su l () = some y
  | [] => ⟨0, rfl⟩
  | x :: l => by
    obtain ⟨y, hy⟩ := XU d l
    rw [dO]
    unfold nP
    cases (!(decide ((0 : Int) ≤ x) && decide ((x : Int) < d))) with
    | true => exact ⟨3, rfl⟩
    | false => exact ⟨y, hy⟩
theorem XV (x9 : Bool) (a : Ins) (b FU : Int) (c : List bQ) (y13 Cr d sS : Int) : ∃ y, ek x9 a b FU c y13 Cr d sS = some y ∧ (y = 0 → (a.args.length : Int) = Cr) := by
  unfold ek
  cases x9 with
  | false => exact ⟨3, rfl, fun h => absurd h (by decide)⟩
  | true =>
    simp only [Bool.not_true, cond_false]
    generalize hc : (((decide ((a.a : Int) ≠ sS) || decide ((a.b : Int) ≠ FU)) || decide ((a.c : Int) ≠ y13)) || decide (((a.args.length : Int) : Int) ≠ Cr)) = C
    cases C with
    | true => exact ⟨4, rfl, fun h => absurd h (by decide)⟩
    | false =>
      simp only [Bool.or_eq_false_iff, decide_eq_false_iff_not, Decidable.not_not] at hc
      simp only [cond_false]
      cases decide ((a.op : Int) = 7) with
      | true => obtain ⟨y, hy⟩ := XU d a.args; exact ⟨y, hy, fun _ => hc.2⟩
      | false => exact ⟨0, rfl, fun _ => hc.2⟩
theorem j4_tot (a : Ins) (b : Int) (c : List bQ) (d : Int) (x9 : Bool) (Cr T9 FU y13 : Int) : ∃ y, bY a b c d x9 Cr T9 FU y13 = some y ∧ (y = 0 → (a.args.length : Int) = Cr) := by
  unfold bY
  cases decide ((a.op : Int) = 12) with
  | true => exact XV x9 a b FU c y13 Cr d 0
  | false => exact XV x9 a b FU c y13 Cr d T9
def NR (a : Ins) (r : Option Int) : Prop := ∃ y, r = some y ∧ (y = 0 → a.args.length ≤ 3)
theorem Lb (a : Ins) (b : Int) (c : List bQ) (d : Int) (x9 : Bool) {Cr : Int} (T9 FU y13 : Int) (h : Cr ≤ 3) : NR a (bY a b c d x9 Cr T9 FU y13) := by
  obtain ⟨y, h1, h2⟩ := j4_tot a b c d x9 Cr T9 FU y13
  exact ⟨y, h1, fun h0 => by have := h2 h0; omega⟩
theorem qg {a : Ins} {c : Bool} {x y : Option Int} (h1 : NR a x) (h2 : NR a y) : NR a (bif c then x else y) := by
  cases c
  · exact h2
  · exact h1
theorem Kt {a : Ins} {e : Int} (h : e ≠ 0) : NR a (some e) := ⟨e, rfl, fun h0 => absurd h0 h⟩
theorem UF (a : Ins) (b : Int) (c : List bQ) (d e : Int) (hp : ∀ x ∈ c, x.params ≤ 3) : NR a (gY a b c d e) := by
  unfold gY
  refine qg (Kt (by decide)) (qg (Kt (by decide)) (qg (Lb _ _ _ _ _ _ _ _ (by decide)) (qg (Lb _ _ _ _ _ _ _ _ (by decide)) ?_)))
  have k12 : ∀ x, NR a (dI a b c d x) := fun x => by
    unfold dI
    exact qg (Lb _ _ _ _ _ _ _ _ (by decide)) (qg (Lb _ _ _ _ _ _ _ _ (by decide)) (Lb _ _ _ _ _ _ _ _ (by decide)))
  have k11 : ∀ x, NR a (dM a b c d e x) := fun x => by
    unfold dM
    refine qg (Lb _ _ _ _ _ _ _ _ (by decide)) ?_
    cases decide ((a.op : Int) = 7) with
    | false =>
      rw [cond_false]
      exact qg (k12 _) (qg (k12 _) (k12 _))
    | true =>
      simp only [cond_true]
      rw [F8]
      cases hb : aS a.b (c.length : Int) with
      | false => exact Kt (by decide)
      | true =>
        simp only [Bool.not_true, cond_false]
        unfold aS at hb
        simp only [Bool.and_eq_true, decide_eq_true_eq] at hb
        obtain ⟨n, hn⟩ := Int.eq_ofNat_of_zero_le hb.1
        rw [hn, vO (by omega), Option.bind_some]
        exact Lb _ _ _ _ _ _ _ _ (hp _ (List.getElem_mem _))
  have k10 : ∀ x, NR a (dN a b c d e x) := fun x => by
    unfold dN
    refine qg (Lb _ _ _ _ _ _ _ _ (by decide)) ?_
    cases decide ((a.op : Int) = 3) with
    | false =>
      rw [cond_false]
      exact qg (k11 _) (k11 _)
    | true =>
      simp only [cond_true]
      by_cases h1 : a.args.length = 1
      · rw [dT (show ((a.args.length : Int) : Int) = 1 by omega)]
        obtain ⟨y, hy⟩ := Sy.1 h1
        simp only [cond_true]
        rw [show idx a.args 0 = some y by rw [hy, Zz], Option.bind_some]
        exact Lb _ _ _ _ _ _ _ _ (by decide)
      · rw [dF (show ¬ ((a.args.length : Int) : Int) = 1 by omega)]
        exact Lb _ _ _ _ _ _ _ _ (by decide)
  exact qg (k10 _) (k10 _)
def Good (a : List bQ) : Prop := a.length ≤ 4 ∧ ∀ x ∈ a, rJ x ∧ ∀ c ∈ x.code, c.args.length ≤ 3
theorem Ps {i : Nat} {x : bQ} (h : zQ i x = 0) : x.params ≤ 3 ∧ rJ x := by
  unfold zQ at h
  split at h
  · split at h
    · exact ⟨by omega, by unfold rJ; omega⟩
    · cases h
  · cases h
theorem Ku : ∀ (p : List bQ) (i : Nat), heads i p = 0 → ∀ x ∈ p, x.params ≤ 3 ∧ rJ x
  | [], _, _, x, hx => by cases hx
  | y :: p, i, h, x, hx => by
    unfold heads at h
    split at h
    · rename_i h1; exact absurd h h1
    · rename_i h1
      rcases List.mem_cons.1 hx with rfl | hx
      · exact Ps (Decidable.not_not.1 h1)
      · exact Ku p (i + 1) h x hx
theorem Sz (a : List bQ) (x : bQ) (k : Unit → Option Int) (hp : ∀ x ∈ a, x.params ≤ 3) (Q : Prop) (hk : ∃ y, k () = some y ∧ (y = 0 → Q)) : ∀ (l : List Ins) (i : Int), ∃ y, fq (fV a x) k i l () = some y ∧ (y = 0 → Q ∧ ∀ c ∈ l, c.args.length ≤ 3)
  | [], i => by
    obtain ⟨y, h1, h2⟩ := hk
    exact ⟨y, h1, fun h => ⟨h2 h, by intro c hc; cases hc⟩⟩
  | c :: l, i => by
    obtain ⟨y, h1, h2⟩ := Sz a x k hp Q hk l (i + 1)
    have e1 : fq (fV a x) k i (c :: l) () = fV a x i c () (fq (fV a x) k (i + 1) l) := rfl
    rw [e1]
    unfold fV
    obtain ⟨z, g1, g2⟩ := UF c i a x.regs (x.code.length : Int) hp
    rw [g1, Option.bind_some]
    by_cases hz : z = 0
    · rw [dF (by omega), cond_false]
      refine ⟨y, h1, fun h => ⟨(h2 h).1, fun d hd => ?_⟩⟩
      rcases List.mem_cons.1 hd with rfl | hd
      · exact g2 hz
      · exact (h2 h).2 d hd
    · rw [dT hz, cond_true]
      exact ⟨z, rfl, fun h => absurd h hz⟩
theorem SA (a : List bQ) (hp : ∀ x ∈ a, x.params ≤ 3 ∧ rJ x) : ∀ l : List bQ, (∀ x ∈ l, x.params ≤ 3 ∧ rJ x) → ∃ y, each (ku a) oD l () = some y ∧ (y = 0 → ∀ x ∈ l, ∀ c ∈ x.code, c.args.length ≤ 3)
  | [], _ => ⟨0, rfl, fun _ x hx => by cases hx⟩
  | x :: l, hl => by
    obtain ⟨y, h1, h2⟩ := SA a hp l (fun z hz => hl z (List.mem_cons_of_mem _ hz))
    rw [dO]
    unfold ku
    have hx := hl x (by simp)
    obtain ⟨z, g1, g2⟩ := Sz a x (oC x (each (ku a) oD l)) (fun x hx => (hp x hx).1) (∀ x ∈ l, ∀ c ∈ x.code, c.args.length ≤ 3) (by
      unfold oC
      have h3 := hx.2
      unfold rJ at h3
      rw [gI, show ((x.code.length : Int) - 1) = ((x.code.length - 1 : Nat) : Int) by omega, vO (by omega), Option.bind_some]
      cases (decide ((x.code[x.code.length - 1].op : Int) ≠ 8) && decide ((x.code[x.code.length - 1].op : Int) ≠ 12)) with
      | true => exact ⟨4, rfl, fun h => absurd h (by decide)⟩
      | false => exact ⟨y, h1, h2⟩) x.code 0
    refine ⟨z, g1, fun h => ?_⟩
    intro w hw
    rcases List.mem_cons.1 hw with rfl | hw
    · exact (g2 h).2
    · exact (g2 h).1 w hw
theorem UG (a : List bQ) : ∃ y, qP a = some y ∧ (y = 0 → Good a) := by
  unfold qP
  generalize hc : (decide (((a.length : Int) : Int) = 0) || decide ((4 : Int) < (a.length : Int))) = C
  cases C with
  | true => exact ⟨2, rfl, fun h => absurd h (by decide)⟩
  | false =>
    simp only [Bool.or_eq_false_iff, decide_eq_false_iff_not] at hc
    have h1 : fq iX (mf a) 0 a () = _ := Kr (mf a) a 0
    rw [cond_false, h1]
    by_cases hz : heads 0 a = 0
    · rw [if_neg (by omega)]
      have hp := Ku a 0 hz
      obtain ⟨y, g1, g2⟩ := SA a hp a hp
      exact ⟨y, g1, fun h => ⟨by omega, fun x hx => ⟨(hp x hx).2, g2 h x hx⟩⟩⟩
    · rw [if_pos hz]
      exact ⟨_, rfl, fun h => absurd h hz⟩
def Pt (a : List bQ) : Int := (qP a).getD 0
theorem XW (a : List bQ) : qP a = some (Pt a) := by
  obtain ⟨y, h, _⟩ := UG a
  unfold Pt
  rw [h]; rfl
def xJ (R x : Int) : Prop := 0 ≤ x ∧ x < R
def Cv (a : List bQ) (R L : Int) (c : Ins) : Prop :=
  (c.op = 1 ∧ xJ R c.a ∧ (-1000000000 ≤ c.b ∧ c.b ≤ 1000000000)) ∨
  (c.op = 2 ∧ xJ R c.a ∧ xJ R c.b) ∨
  (c.op = 3 ∧ xJ R c.a ∧ xJ R c.b ∧ xJ R c.c ∧ ∃ n, c.args = [n] ∧ 1 ≤ n ∧ n ≤ 5) ∨
  ((c.op = 4 ∨ c.op = 6) ∧ xJ R c.a ∧ xJ R c.b ∧ (0 ≤ c.c ∧ c.c < 4)) ∨
  (c.op = 5 ∧ xJ R c.a ∧ (1 ≤ c.b ∧ c.b ≤ 4)) ∨
  (c.op = 7 ∧ xJ R c.a ∧ (∃ p, idx a c.b = some p ∧ (c.args.length : Int) = p.params) ∧ ∀ x ∈ c.args, xJ R x) ∨
  ((c.op = 8 ∨ c.op = 9 ∨ c.op = 11) ∧ xJ R c.a) ∨
  c.op = 10 ∨
  (c.op = 12 ∧ (0 ≤ c.b ∧ c.b < L)) ∨
  (c.op = 13 ∧ xJ R c.a ∧ (0 ≤ c.b ∧ c.b < L))
theorem SB (R : Int) : ∀ l : List Int, each (nP R) su l () = some 0 → ∀ x ∈ l, xJ R x
  | [], _, x, hx => by cases hx
  | y :: l, h, x, hx => by
    rw [dO] at h
    unfold nP at h
    cases e : (!(decide ((0 : Int) ≤ y) && decide ((y : Int) < R))) with
    | true => rw [e, cond_true] at h; cases h
    | false =>
      rw [e, cond_false] at h
      rcases List.mem_cons.1 hx with rfl | hx
      · simp at e; exact e
      · exact SB R l h x hx
theorem ZA {c : Ins} {i : Int} {a : List bQ} {R L : Int} (h : gY c i a R L = some 0) : Cv a R L c := by
  obtain ⟨op, ca, cb, cc, args⟩ := c
  by_cases h1 : op = 1
  · subst h1
    simp [gY, bL, dQ, fE, fO, eP, bY, ek, dN, dM, dI, Bool.cond_eq_ite] at h
    simp [Cv, xJ]
    (repeat (split at h; · simp at h))
    omega
  by_cases h2 : op = 2
  · subst h2
    simp [gY, bL, dQ, fE, fO, eP, bY, ek, dN, dM, dI, Bool.cond_eq_ite] at h
    simp [Cv, xJ]
    (repeat (split at h; · simp at h))
    omega
  by_cases h3 : op = 3
  · subst h3
    simp [gY, bL, dQ, fE, fO, eP, bY, ek, dN, dM, dI, Bool.cond_eq_ite] at h
    simp [Cv, xJ]
    by_cases hl : args.length = 1
    · obtain ⟨y, rfl⟩ := Sy.1 hl
      simp [Zz] at h
      split at h
      · simp at h
      split at h
      · simp at h
      refine ⟨by omega, by omega, by omega, y, rfl, by omega, by omega⟩
    · exfalso
      rw [if_neg (show ¬ ((args.length : Int) = 1) by omega)] at h
      split at h <;> simp at h
  by_cases h4 : op = 4
  · subst h4
    simp [gY, bL, dQ, fE, fO, eP, bY, ek, dN, dM, dI, Bool.cond_eq_ite] at h
    simp [Cv, xJ]
    (repeat (split at h; · simp at h))
    omega
  by_cases h5 : op = 5
  · subst h5
    simp [gY, bL, dQ, fE, fO, eP, bY, ek, dN, dM, dI, Bool.cond_eq_ite] at h
    simp [Cv, xJ]
    (repeat (split at h; · simp at h))
    omega
  by_cases h6 : op = 6
  · subst h6
    simp [gY, bL, dQ, fE, fO, eP, bY, ek, dN, dM, dI, Bool.cond_eq_ite] at h
    simp [Cv, xJ]
    (repeat (split at h; · simp at h))
    omega
  by_cases h7 : op = 7
  · subst h7
    simp [gY, bL, dQ, fE, fO, eP, bY, ek, dN, dM, dI, Bool.cond_eq_ite] at h
    simp [Cv, xJ]
    split at h
    · simp at h
    split at h
    · simp at h
    obtain ⟨p, hp, h⟩ := aJ h
    (repeat (split at h; · simp at h))
    refine ⟨by omega, ⟨p, hp, by omega⟩, fun x hx => SB R args h x hx⟩
  by_cases h8 : op = 8
  · subst h8
    simp [gY, bL, dQ, fE, fO, eP, bY, ek, dN, dM, dI, Bool.cond_eq_ite] at h
    simp [Cv, xJ]
    (repeat (split at h; · simp at h))
    omega
  by_cases h9 : op = 9
  · subst h9
    simp [gY, bL, dQ, fE, fO, eP, bY, ek, dN, dM, dI, Bool.cond_eq_ite] at h
    simp [Cv, xJ]
    (repeat (split at h; · simp at h))
    omega
  by_cases h10 : op = 10
  · subst h10
    simp [Cv, xJ]
  by_cases h11 : op = 11
  · subst h11
    simp [gY, bL, dQ, fE, fO, eP, bY, ek, dN, dM, dI, Bool.cond_eq_ite] at h
    simp [Cv, xJ]
    (repeat (split at h; · simp at h))
    omega
  by_cases h12 : op = 12
  · subst h12
    simp [gY, bL, dQ, fE, fO, eP, bY, ek, dN, dM, dI, Bool.cond_eq_ite] at h
    simp [Cv, xJ]
    (repeat (split at h; · simp at h))
    omega
  by_cases h13 : op = 13
  · subst h13
    simp [gY, bL, dQ, fE, fO, eP, bY, ek, dN, dM, dI, Bool.cond_eq_ite] at h
    simp [Cv, xJ]
    (repeat (split at h; · simp at h))
    omega
  · exfalso
    simp [gY, bL, dQ, fE, fO, eP, bY, ek, dN, dM, dI, Bool.cond_eq_ite, *] at h
structure mo (a : List bQ) : Prop where
  many : 1 ≤ a.length ∧ a.length ≤ 4
  head : ∀ (i : Nat) x, a[i]? = some x → (0 ≤ x.params ∧ x.params ≤ 3) ∧ (1 ≤ x.regs ∧ x.params ≤ x.regs ∧ x.regs ≤ 40) ∧ ¬ (i = 0 ∧ x.params ≠ 0) ∧ rJ x
  last : ∀ x ∈ a, ∃ c, idx x.code ((x.code.length : Int) - 1) = some c ∧ (c.op = 8 ∨ c.op = 12)
  ins : ∀ x ∈ a, ∀ c ∈ x.code, Cv a x.regs x.code.length c
theorem Me : ∀ (p : List bQ) (j : Nat), heads j p = 0 → ∀ (i : Nat) x, p[i]? = some x → zQ (j + i) x = 0
  | [], j, _, i, x, hx => by simp at hx
  | y :: p, j, h, i, x, hx => by
    unfold heads at h
    split at h
    · rename_i h1; exact absurd h h1
    · rename_i h1
      cases i with
      | zero => simp at hx; subst hx; exact Decidable.not_not.1 h1
      | succ i => rw [show j + (i + 1) = (j + 1) + i by omega]; exact Me p (j + 1) h i x (by simpa using hx)
theorem SC (a : List bQ) (x : bQ) (k : Unit → Option Int) : ∀ (l : List Ins) (i : Int), fq (fV a x) k i l () = some 0 → k () = some 0 ∧ ∀ c ∈ l, Cv a x.regs x.code.length c
  | [], i, h => ⟨h, fun c hc => by cases hc⟩
  | y :: l, i, h => by
    have e1 : fq (fV a x) k i (y :: l) () = fV a x i y () (fq (fV a x) k (i + 1) l) := rfl
    rw [e1] at h
    unfold fV at h
    obtain ⟨z, hz, h⟩ := aJ h
    by_cases z0 : z = 0
    · subst z0
      rw [dF (by simp), cond_false] at h
      obtain ⟨h1, h2⟩ := SC a x k l (i + 1) h
      refine ⟨h1, fun c hc => ?_⟩
      rcases List.mem_cons.1 hc with rfl | hc
      · exact ZA hz
      · exact h2 c hc
    · rw [dT z0, cond_true] at h
      exact absurd (fI h) z0
theorem SE (a : List bQ) : ∀ l : List bQ, each (ku a) oD l () = some 0 → ∀ x ∈ l, (∃ c, idx x.code ((x.code.length : Int) - 1) = some c ∧ (c.op = 8 ∨ c.op = 12)) ∧ ∀ c ∈ x.code, Cv a x.regs x.code.length c
  | [], _, x, hx => by cases hx
  | y :: l, h, x, hx => by
    rw [dO] at h
    unfold ku at h
    obtain ⟨h1, h2⟩ := SC a y _ y.code 0 h
    unfold oC at h1
    obtain ⟨_, h1⟩ := bu h1
    obtain ⟨c, hc, h1⟩ := aJ h1
    cases e : (decide ((c.op : Int) ≠ 8) && decide ((c.op : Int) ≠ 12)) with
    | true => rw [e, cond_true] at h1; cases h1
    | false =>
      rw [e, cond_false] at h1
      rcases List.mem_cons.1 hx with rfl | hx
      · exact ⟨⟨c, hc, by simp only [Bool.and_eq_false_iff, decide_eq_false_iff_not, Decidable.not_not] at e; exact e⟩, h2⟩
      · exact SE a l h1 x hx
theorem Dh {a : List bQ} (h : Pt a = 0) : mo a := by
  have h0 := XW a
  rw [h] at h0
  unfold qP at h0
  generalize hc : (decide (((a.length : Int) : Int) = 0) || decide ((4 : Int) < (a.length : Int))) = C at h0
  cases C with
  | true => cases h0
  | false =>
    simp only [Bool.or_eq_false_iff, decide_eq_false_iff_not] at hc
    have h1 : fq iX (mf a) 0 a () = _ := Kr (mf a) a 0
    rw [cond_false, h1] at h0
    by_cases hz : heads 0 a = 0
    · rw [if_neg (by omega)] at h0
      have hb := SE a a h0
      refine ⟨by omega, fun i x hx => ?_, fun x hx => (hb x hx).1, fun x hx => (hb x hx).2⟩
      have := Me a 0 hz i x hx
      rw [Nat.zero_add] at this
      unfold zQ at this
      split at this
      · rename_i g
        split at this
        · rename_i g2; exact ⟨g.1, g.2.1, g.2.2, g2⟩
        · cases this
      · cases this
    · rw [if_pos hz] at h0
      exact absurd (fI h0) hz
end Go.Proofs.YtfclkapelkhlpaaGreatDoor
namespace Go.Proofs.YtfclkapelkhlpaaGreatDoor
open Go Go.Proofs Go.LX
theorem ja {α σ ρ : Type} {body : Int → α → σ → (σ → ρ) → ρ} {k : σ → ρ} (i : Int) (x : α) (l : List α) (s : σ) : fq body k i (x :: l) s = body i x s (fq body k (i + 1) l) := rfl
theorem Ii {σ ρ : Type} {body : Int → σ → (σ → ρ) → ρ} {k : σ → ρ} (i : Int) (m : Nat) (s : σ) : upto body k i (m + 1) s = body i s (upto body k (i + 1) m) := rfl
theorem yf {σ β : Type} {body : σ → (σ → Option β) → Option β} {m : Nat} {s : σ} : again body (m + 1) s = body s (again body m) := rfl
def ik (n : Nat) (v : Val) : Prop := (v.kind = 0 ∧ v.n = 0) ∨ (v.kind = 1 ∧ -1000000000 ≤ v.n ∧ v.n ≤ 1000000000) ∨ (v.kind = 2 ∧ 0 ≤ v.n ∧ v.n < n)
instance (n : Nat) (v : Val) : Decidable (ik n v) := inferInstanceAs (Decidable (_ ∨ _))
theorem Di (n : Nat) (v : Val) : cz v (n : Int) = 0 ↔ ik n v := by
  obtain ⟨k, m⟩ := v
  simp only [cz, ik, Bool.cond_eq_ite, Bool.or_eq_true, decide_eq_true_eq]
  constructor
  · intro h
    (repeat' split at h) <;> first | omega | (exfalso; omega)
  · intro h
    rcases h with ⟨h1, h2⟩ | ⟨h1, h2⟩ | ⟨h1, h2⟩
    · rw [if_pos h1, if_neg (by omega)]
    · rw [if_neg (by omega), if_pos h1, if_neg (by omega)]
    · rw [if_neg (by omega), if_neg (by omega), if_pos h1, if_neg (by omega)]
theorem Pv (v : Val) (n : Int) : dR v n = cz v n := by
  obtain ⟨k, m⟩ := v
  simp only [cz, dR, ni, aW, fC, aS, Bool.cond_eq_ite, Bool.or_eq_true, Bool.and_eq_true, Bool.not_eq_true', decide_eq_true_eq, decide_eq_false_iff_not, Bool.and_eq_false_iff]
  (repeat' split) <;> first | rfl | (exfalso; omega)
def nY (l : List (List Val)) : Prop := l.length ≤ 24 ∧ ∀ c ∈ l, (1 ≤ c.length ∧ c.length ≤ 4) ∧ ∀ v ∈ c, ik l.length v
theorem Pw (a : List (List Val)) : kW a = dK a := by
  unfold kW dK
  have k1 : ∀ (l : List Val) (f : Unit → Int), each (jA a) (jB f) l () = each (ic a) (gB f) l () := by
    intro l f
    induction l with
    | nil => rfl
    | cons x l ih =>
      show (bif decide ((dR x (a.length : Int) : Int) ≠ 0) then dR x (a.length : Int) else each (jA a) (jB f) l ()) = (bif decide ((cz x (a.length : Int) : Int) ≠ 0) then cz x (a.length : Int) else each (ic a) (gB f) l ())
      rw [Pv, ih]
  have k2 : ∀ l : List (List Val), each (jC a) jD l () = each (iV a) ig l () := by
    intro l
    induction l with
    | nil => rfl
    | cons x l ih =>
      show (bif (!(aW (x.length : Int) 1 4)) then 2 else each (jA a) (jB (each (jC a) jD l)) x ()) = (bif (decide (((x.length : Int) : Int) = 0) || decide ((4 : Int) < (x.length : Int))) then 2 else each (ic a) (gB (each (iV a) ig l)) x ())
      have e : (!(aW (x.length : Int) 1 4)) = (decide (((x.length : Int) : Int) = 0) || decide ((4 : Int) < (x.length : Int))) := by
        unfold aW; rw [Bool.eq_iff_iff]; simp only [Bool.or_eq_true, Bool.not_eq_true', Bool.and_eq_false_iff, decide_eq_true_eq, decide_eq_false_iff_not]; omega
      rw [e, k1]
      have : each (jC a) jD l = each (iV a) ig l := by funext u; exact ih
      rw [this]
  rw [k2]
theorem Rf (a : List (List Val)) : dK a = 0 ↔ nY a := by
  have k1 : ∀ (l : List Val) (f : Unit → Int), each (ic a) (gB f) l () = 0 ↔ (∀ v ∈ l, ik a.length v) ∧ f () = 0 := by
    intro l f
    induction l with
    | nil => simp [gT, gB]
    | cons x l ih =>
      show (bif decide ((cz x (a.length : Int) : Int) ≠ 0) then cz x (a.length : Int) else each (ic a) (gB f) l ()) = 0 ↔ _
      by_cases h : cz x (a.length : Int) = 0
      · rw [dF (by omega), cond_false, ih]
        have := (Di _ _).1 h
        simp [this]
      · rw [dT h, cond_true]
        have h2 : ¬ ik a.length x := fun e => h ((Di _ _).2 e)
        simp [h, h2]
  have k2 : ∀ l : List (List Val), each (iV a) ig l () = 0 ↔ ∀ c ∈ l, (1 ≤ c.length ∧ c.length ≤ 4) ∧ ∀ v ∈ c, ik a.length v := by
    intro l
    induction l with
    | nil => simp [gT, ig]
    | cons x l ih =>
      show (bif (decide (((x.length : Int) : Int) = 0) || decide ((4 : Int) < (x.length : Int))) then 2 else each (ic a) (gB (each (iV a) ig l)) x ()) = 0 ↔ _
      by_cases h : 1 ≤ x.length ∧ x.length ≤ 4
      · rw [show (decide (((x.length : Int) : Int) = 0) || decide ((4 : Int) < (x.length : Int))) = false by simp only [Bool.or_eq_false_iff, decide_eq_false_iff_not]; omega, cond_false, k1, ih]
        simp [h]
      · rw [show (decide (((x.length : Int) : Int) = 0) || decide ((4 : Int) < (x.length : Int))) = true by simp only [Bool.or_eq_true, decide_eq_true_eq]; omega, cond_true]
        simp [h]
  unfold dK nY
  by_cases h : a.length ≤ 24
  · rw [dF (by omega), cond_false, k2]; simp [h]
  · rw [dT (by omega), cond_true]; simp [h]
structure zR (a : List bQ) (n : Nat) (f : LX.Frame) (x : bQ) : Prop where
  proc : idx a f.proc = some x
  at_ : 0 ≤ f.at_ ∧ f.at_ < x.code.length
  regs : (f.regs.length : Int) = x.regs
  vals : ∀ v ∈ f.regs, ik n v
def jE (a : List bQ) (n : Nat) : Int → List LX.Frame → Prop
  | _, [] => True
  | ahead, f :: l => (∃ x, zR a n f x) ∧ (0 ≤ f.kP ∧ f.kP < ahead) ∧ jE a n f.regs.length l
structure sG (a : List bQ) (s : LX.State) : Prop where
  status : 0 ≤ s.status ∧ s.status ≤ 3
  aQ : -1000000000 ≤ s.aQ ∧ s.aQ ≤ 1000000000
  stay : s.status ≠ 3 → s.aQ = 0
  ended : s.status = 1 ↔ s.frames = []
  many : s.frames.length ≤ 10
  cells : nY s.cells
  frames : jE a s.cells.length 1 s.frames
end Go.Proofs.YtfclkapelkhlpaaGreatDoor
namespace Go.Proofs.YtfclkapelkhlpaaGreatDoor
open Go Go.Proofs Go.LX
def ahead (pre : List LX.Frame) : Int := match pre.getLast? with | none => 1 | some f => f.regs.length
theorem Mf : ahead [] = 1 := rfl
theorem EX (pre : List LX.Frame) (f : LX.Frame) : ahead (pre ++ [f]) = f.regs.length := by simp [ahead]
theorem Ij (b : LX.State) (f : LX.Frame) (n1 : Unit → Option Int) (n2 : Int → Option Int) (hn : n1 () = n2 f.regs.length) : ∀ l : List Val, each (nA b) (nC n1) l () = each (mh b) (mi n2 f) l ()
  | [] => hn
  | x :: l => by
    show (bif decide ((cz x (b.cells.length : Int) : Int) ≠ 0) then some (cz x (b.cells.length : Int)) else each (nA b) (nC n1) l ()) = (bif decide ((dR x (b.cells.length : Int) : Int) ≠ 0) then some (dR x (b.cells.length : Int)) else each (mh b) (mi n2 f) l ())
    rw [Pv, Ij b f n1 n2 hn l]
theorem Px (b : LX.State) (n1 : Unit → Option Int) (Q : Prop) (hn : ∃ y, n1 () = some y ∧ (y = 0 ↔ Q)) : ∀ l : List Val, ∃ y, each (nA b) (nC n1) l () = some y ∧ (y = 0 ↔ (∀ v ∈ l, ik b.cells.length v) ∧ Q)
  | [] => by obtain ⟨y, h1, h2⟩ := hn; exact ⟨y, h1, by simp [h2]⟩
  | x :: l => by
    obtain ⟨y, h1, h2⟩ := Px b n1 Q hn l
    have e : each (nA b) (nC n1) (x :: l) () = (bif decide ((cz x (b.cells.length : Int) : Int) ≠ 0) then some (cz x (b.cells.length : Int)) else each (nA b) (nC n1) l ()) := rfl
    rw [e]
    by_cases h : cz x (b.cells.length : Int) = 0
    · rw [dF (by omega), cond_false]
      have := (Di _ _).1 h
      exact ⟨y, h1, by rw [h2]; simp [this]⟩
    · rw [dT h, cond_true]
      refine ⟨_, rfl, ?_⟩
      have h3 : ¬ ik b.cells.length x := fun e => h ((Di _ _).2 e)
      simp [h, h3]
theorem IP (a : List bQ) (b : LX.State) (hm : b.frames.length ≤ 10) : ∀ (l pre : List LX.Frame), b.frames = pre ++ l →
    fq (rE a b) uZ (pre.length : Int) l () = each (fo a b) iK l (ahead pre)
  | [], pre, h => rfl
  | f :: l, pre, h => by
    have ih := IP a b hm l (pre ++ [f]) (by simpa using h)
    rw [EX] at ih
    have hi : (((pre ++ [f]).length : Nat) : Int) = (pre.length : Int) + 1 := by simp
    rw [hi] at ih
    rw [ja, dO]
    generalize fq (rE a b) uZ ((pre.length : Int) + 1) l = K1 at ih ⊢
    generalize each (fo a b) iK l = K2 at ih ⊢
    unfold rE fo
    have hl : pre.length ≤ 10 := by have := congrArg List.length h; simp at this; omega
    have e1 : (decide ((f.proc : Int) < 0) || decide (((a.length : Int) : Int) ≤ f.proc)) = !aS f.proc (a.length : Int) := F8 _ _
    rw [e1]
    cases hp : aS f.proc (a.length : Int) with
    | false => rfl
    | true =>
      simp only [Bool.not_true, cond_false]
      cases hx : idx a f.proc with
      | none => rfl
      | some x =>
        simp only [bnd]
        cases ha : aS f.at_ (x.code.length : Int) with
        | false =>
          rw [show (((decide ((f.at_ : Int) < 0) || decide (((x.code.length : Int) : Int) ≤ f.at_)) || decide ((f.kP : Int) < 0)) || (decide ((pre.length : Int) = 0) && decide ((f.kP : Int) ≠ 0))) = true by
            have := F8 f.at_ (x.code.length : Int)
            rw [ha] at this
            rw [this]; rfl]
          rfl
        | true =>
          have h3 := F8 f.at_ (x.code.length : Int)
          rw [ha] at h3
          rw [h3]
          simp only [Bool.not_true, Bool.false_or, cond_false]
          have key : ∀ t, rD f x b K1 t = gp a f b K2 t := by
            intro t
            unfold rD gp
            rw [hx, bnd, Ij b f _ _ ih]
          simp only [key]
          rcases List.eq_nil_or_concat pre with rfl | ⟨q, g, rfl⟩
          · rw [Mf]
            by_cases ht : f.kP = 0
            · rw [show (decide ((f.kP : Int) < 0) || (decide ((([] : List LX.Frame).length : Int) = 0) && decide ((f.kP : Int) ≠ 0))) = false by simp [ht], cond_false, dF (by simp), cond_false, show (!aS f.kP 1) = false by simp [ht, aS]]
            · rw [show (decide ((f.kP : Int) < 0) || (decide ((([] : List LX.Frame).length : Int) = 0) && decide ((f.kP : Int) ≠ 0))) = true by simp [ht], cond_true, show (!aS f.kP 1) = true by simp [aS]; omega]
          · rw [List.concat_eq_append] at *
            rw [EX]
            have hlen : ((q ++ [g]).length : Int) = (q.length : Int) + 1 := by simp
            rw [hlen, show (decide ((q.length : Int) + 1 = 0)) = false from dF (by omega), Bool.false_and, Bool.or_false]
            by_cases ht : f.kP < 0
            · rw [dT ht, cond_true, show (!aS f.kP (g.regs.length : Int)) = true by simp [aS]; omega]
            · rw [dF ht, cond_false, dT (by omega), cond_true, gI (by omega) (by simp at hl; omega), show (q.length : Int) + 1 - 1 = ((q.length : Nat) : Int) by omega, nU, h]
              simp only [List.append_assoc, List.getElem?_append_right (Nat.le_refl _), Nat.sub_self, List.cons_append, List.nil_append, List.getElem?_cons_zero, bnd]
              congr 1
              rw [Bool.eq_iff_iff]; simp [aS]; omega
theorem Kv (a : List bQ) (b : LX.State) : yE a b = pY a b := by
  unfold yE pY
  have e1 : (((decide ((b.status : Int) < 0) || decide ((3 : Int) < b.status)) || decide ((b.aQ : Int) < -1000000000)) || decide ((1000000000 : Int) < b.aQ)) = ((!(aW b.status 0 3)) || (!(fC b.aQ))) := by
    unfold fC aW; rw [Bool.eq_iff_iff]; simp only [Bool.or_eq_true, Bool.not_eq_true', Bool.and_eq_false_iff, decide_eq_true_eq, decide_eq_false_iff_not]; omega
  have e2 : ((decide ((b.status : Int) ≠ 3) && decide ((b.aQ : Int) ≠ 0)) || (decide ((b.status : Int) = 1) != decide (((b.frames.length : Int) : Int) = 0))) = (((decide ((b.aQ : Int) ≠ 0) && decide ((b.status : Int) ≠ 3)) || (decide ((b.status : Int) = 1) && decide ((0 : Int) < (b.frames.length : Int)))) || (decide ((b.status : Int) ≠ 1) && decide (((b.frames.length : Int) : Int) = 0))) := by
    by_cases h1 : b.status = 1 <;> by_cases h2 : b.frames.length = 0 <;> by_cases h3 : b.status = 3 <;> by_cases h4 : b.aQ = 0 <;> simp [h1, h2, h3, h4] <;> omega
  rw [e1, e2, Pw]
  by_cases h : b.frames.length ≤ 10
  · have := IP a b h b.frames [] rfl
    rw [Mf] at this
    rw [← this]; rfl
  · rw [show (decide ((10 : Int) < (b.frames.length : Int))) = true from dT (by omega)]
    rfl
theorem Kw (a : List bQ) (b : LX.State) : ∀ (l : List LX.Frame) (t : Int), ∃ y, each (fo a b) iK l t = some y ∧ (y = 0 ↔ jE a b.cells.length t l)
  | [], t => ⟨0, rfl, by simp [jE]⟩
  | f :: l, t => by
    obtain ⟨y, h1, h2⟩ := Kw a b l f.regs.length
    rw [dO]
    generalize each (fo a b) iK l = K2 at h1 ⊢
    unfold fo
    cases hp : aS f.proc (a.length : Int) with
    | false =>
      refine ⟨5, rfl, ?_⟩
      have : ¬ jE a b.cells.length t (f :: l) := by
        rintro ⟨⟨x, g⟩, -, -⟩
        have := aG g.proc
        have h3 := (List.getElem?_eq_some_iff.1 this.2).1
        unfold aS at hp
        simp only [Bool.and_eq_false_iff, decide_eq_false_iff_not] at hp
        omega
      simp [this]
    | true =>
      unfold aS at hp
      simp only [Bool.and_eq_true, decide_eq_true_eq] at hp
      simp only [Bool.not_true, cond_false]
      obtain ⟨n, hn⟩ := Int.eq_ofNat_of_zero_le hp.1
      have hx : idx a f.proc = some (a[n]'(by omega)) := by rw [hn, vO (by omega)]
      generalize a[n]'(by omega) = x at hx
      rw [hx, bnd]
      have kB : ∃ y, gp a f b K2 true = some y ∧ y ≠ 0 := ⟨3, rfl, by decide⟩
      have uniq : ∀ z, zR a b.cells.length f z → z = x := fun z g => by have := g.proc; rw [hx] at this; exact (fI this).symm
      cases ha : aS f.at_ (x.code.length : Int) with
      | false =>
        obtain ⟨y, g1, g2⟩ := kB
        refine ⟨y, g1, ?_⟩
        have : ¬ jE a b.cells.length t (f :: l) := by
          rintro ⟨⟨z, g⟩, -, -⟩
          have := uniq z g; subst this
          have := g.at_
          unfold aS at ha
          simp only [Bool.and_eq_false_iff, decide_eq_false_iff_not] at ha
          omega
        simp [this, g2]
      | true =>
        simp only [Bool.not_true, cond_false]
        cases ht : aS f.kP t with
        | false =>
          obtain ⟨y, g1, g2⟩ := kB
          refine ⟨y, g1, ?_⟩
          have : ¬ jE a b.cells.length t (f :: l) := by
            rintro ⟨⟨z, g⟩, h3, -⟩
            unfold aS at ht
            simp only [Bool.and_eq_false_iff, decide_eq_false_iff_not] at ht
            omega
          simp [this, g2]
        | true =>
          simp only [Bool.not_true]
          unfold gp
          rw [hx, cond_false, bnd]
          unfold aS at ha ht
          simp only [Bool.and_eq_true, decide_eq_true_eq] at ha ht
          by_cases hr : (f.regs.length : Int) = x.regs
          · rw [dF (by omega), cond_false, ← Ij b f (fun _ => K2 f.regs.length) _ rfl]
            obtain ⟨z, g1, g2⟩ := Px b (fun _ => K2 f.regs.length) _ ⟨y, h1, h2⟩ f.regs
            refine ⟨z, g1, g2.trans ⟨fun h => ⟨⟨x, hx, ha, hr, h.1⟩, ht, h.2⟩, ?_⟩⟩
            rintro ⟨⟨z, g⟩, h3, h4⟩
            exact ⟨g.vals, h4⟩
          · rw [dT (by omega), cond_true]
            refine ⟨4, rfl, ?_⟩
            have : ¬ jE a b.cells.length t (f :: l) := by
              rintro ⟨⟨z, g⟩, -, -⟩
              have := uniq z g; subst this
              exact hr g.regs
            simp [this]
theorem Ky (a : List bQ) (b : LX.State) : ∃ y, yE a b = some y ∧ (y = 0 ↔ sG a b) := by
  rw [Kv]
  unfold pY
  cases c1 : ((!(aW b.status 0 3)) || (!(fC b.aQ))) with
  | true =>
    refine ⟨3, rfl, ⟨fun h => absurd h (by decide), fun h => ?_⟩⟩
    unfold fC aW at c1
    simp only [Bool.or_eq_true, Bool.not_eq_true', Bool.and_eq_false_iff, decide_eq_false_iff_not] at c1
    have := h.status; have := h.aQ; omega
  | false =>
    unfold fC aW at c1
    simp only [Bool.or_eq_false_iff, Bool.not_eq_false', Bool.and_eq_true, decide_eq_true_eq] at c1
    rw [cond_false]
    cases c2 : (((decide ((b.aQ : Int) ≠ 0) && decide ((b.status : Int) ≠ 3)) || (decide ((b.status : Int) = 1) && decide ((0 : Int) < (b.frames.length : Int)))) || (decide ((b.status : Int) ≠ 1) && decide (((b.frames.length : Int) : Int) = 0))) with
    | true =>
      refine ⟨4, rfl, ⟨fun h => absurd h (by decide), fun h => ?_⟩⟩
      simp only [Bool.or_eq_true, Bool.and_eq_true, decide_eq_true_eq] at c2
      rcases c2 with (c2 | c2) | c2
      · exact absurd (h.stay c2.2) c2.1
      · have := h.ended.1 c2.1; rw [this] at c2; simp at c2
      · exact absurd (h.ended.2 (List.eq_nil_of_length_eq_zero (by omega))) c2.1
    | false =>
      simp only [Bool.or_eq_false_iff, Bool.and_eq_false_iff, decide_eq_false_iff_not] at c2
      rw [cond_false]
      by_cases hm : b.frames.length ≤ 10
      · rw [dF (by omega), cond_false, Pw]
        by_cases hc : dK b.cells = 0
        · rw [dF (by omega), cond_false]
          obtain ⟨y, h1, h2⟩ := Kw a b b.frames 1
          refine ⟨y, h1, h2.trans ⟨fun h => ⟨by omega, by omega, fun h3 => by omega, ⟨fun h3 => ?_, fun h3 => ?_⟩, hm, (Rf _).1 hc, h⟩, fun h => h.frames⟩⟩
          · exact List.eq_nil_of_length_eq_zero (by omega)
          · rw [h3] at c2; simp at c2; omega
        · rw [dT hc, cond_true]
          exact ⟨_, rfl, ⟨fun h => absurd h hc, fun h => absurd ((Rf _).2 h.cells) hc⟩⟩
      · rw [dT (by omega), cond_true]
        exact ⟨2, rfl, ⟨fun h => absurd h (by decide), fun h => absurd h.many hm⟩⟩
def Rh (a : List bQ) (s : LX.State) : Int := (yE a s).getD 0
theorem ckS_eq (a : List bQ) (s : LX.State) : yE a s = some (Rh a s) := by obtain ⟨y, h, -⟩ := Ky a s; unfold Rh; rw [h]; rfl
theorem EY {a : List bQ} {s : LX.State} : Rh a s = 0 ↔ sG a s := by obtain ⟨y, h, h2⟩ := Ky a s; unfold Rh; rw [h]; exact h2
theorem Dj (a : List bQ) (s : LX.State) : yF a s = some (if Pt a ≠ 0 then Pt a else Rh a s) := by
  unfold yF
  rw [XW, bnd]
  by_cases h : Pt a = 0
  · rw [dF (by omega), cond_false, ckS_eq, bnd, if_neg (by omega)]
  · rw [dT h, cond_true, if_pos h]
end Go.Proofs.YtfclkapelkhlpaaGreatDoor
namespace Go.Proofs.YtfclkapelkhlpaaGreatDoor
open Go Go.Proofs Go.LX
theorem XX (a b : List Val) : jZ a b = some (decide (a = b)) := by
  unfold jZ
  by_cases h : a.length = b.length
  · rw [dF (by omega)]
    simp only [cond_false, Int.toNat_natCast]
    rw [Lp (fun x y => decide (x = y)) a b h rfl (fun i x y nx h1 h2 => by
      unfold mK
      rw [nU, nU, h1, h2]
      obtain ⟨k, n⟩ := x; obtain ⟨k2, n2⟩ := y
      by_cases e : k = k2 <;> by_cases e2 : n = n2 <;> simp [e, e2]), FB (fun _ _ => rfl)]
  · rw [dT (by omega)]
    have : a ≠ b := fun e => h (by rw [e])
    rw [dF this]; rfl
theorem ZB (a b : List (List Val)) : DX a b = some (decide (a = b)) := by
  unfold DX
  by_cases h : a.length = b.length
  · rw [dF (by omega), cond_false, Jr (fun x y => decide (x = y)) a b h rfl (fun i x y nx h2 => by
      unfold xZ
      rw [nU, h2, bnd, XX, bnd]
      by_cases e : x = y <;> simp [e]), FB (fun _ _ => rfl)]
  · rw [dT (by omega)]
    have : a ≠ b := fun e => h (by rw [e])
    rw [dF this]; rfl
theorem fr_eq (x y : LX.Frame) (nx : Unit → Option Bool) : (bif ((decide ((x.proc : Int) = y.proc) && decide ((x.at_ : Int) = y.at_)) && decide ((x.kP : Int) = y.kP)) then (jZ x.regs y.regs).bind fun y39 => uu nx (!y39) else uu nx true) = bif decide (x = y) then nx () else some false := by
  obtain ⟨p, t, r, o⟩ := x; obtain ⟨p2, t2, r2, o2⟩ := y
  simp only [XX, bnd, uu]
  by_cases e1 : p = p2 <;> by_cases e2 : t = t2 <;> by_cases e3 : r = r2 <;> by_cases e4 : o = o2 <;> simp [e1, e2, e3, e4]
theorem st_eq (a b : LX.State) : decide (a = b) = ((decide (a.status = b.status) && decide (a.aQ = b.aQ)) && (decide (a.cells = b.cells) && decide (a.frames = b.frames))) := by
  obtain ⟨f, c, s, w⟩ := a; obtain ⟨f2, c2, s2, w2⟩ := b
  rw [Bool.eq_iff_iff]; simp; constructor <;> (intro h; simp [h])
theorem NS (a b : LX.State) : zx a b = some (decide (a = b)) := by
  rw [st_eq]
  unfold zx
  cases (decide ((a.status : Int) = b.status) && decide ((a.aQ : Int) = b.aQ)) with
  | false => rfl
  | true =>
    rw [cond_true, ZB, bnd]
    cases decide (a.cells = b.cells) with
    | false => rfl
    | true =>
      rw [cond_true]
      by_cases h : a.frames.length = b.frames.length
      · rw [dF (by omega), cond_false, Jr (fun x y => decide (x = y)) a.frames b.frames h rfl (fun i x y nx h2 => by
          unfold zw
          rw [nU, h2, bnd]
          exact fr_eq x y nx), FB (fun _ _ => rfl)]; rfl
      · rw [dT (by omega)]
        have : a.frames ≠ b.frames := fun e => h (by rw [e])
        rw [dF this]; rfl
structure Small (s : LX.State) : Prop where
  frames : s.frames.length ≤ 10
  regs : ∀ f ∈ s.frames, f.regs.length ≤ 40
  cells : s.cells.length ≤ 24
  fields : ∀ c ∈ s.cells, c.length ≤ 4
theorem vw {a : List bQ} {n : Nat} : ∀ {l : List LX.Frame} {t : Int}, jE a n t l → ∀ f ∈ l, ∃ x, zR a n f x
  | [], _, _, f, hf => by cases hf
  | g :: l, t, h, f, hf => by
    rcases List.mem_cons.1 hf with rfl | hf
    · exact h.1
    · exact vw h.2.2 f hf
theorem mo.mem {a : List bQ} (h : mo a) {k : Int} {x : bQ} (hx : idx a k = some x) : x ∈ a ∧ (0 ≤ x.params ∧ x.params ≤ 3) ∧ (1 ≤ x.regs ∧ x.params ≤ x.regs ∧ x.regs ≤ 40) ∧ rJ x := by
  have h1 := (aG hx).2
  have := h.head _ x h1
  exact ⟨List.mem_of_getElem? h1, this.1, this.2.1, this.2.2.2⟩
theorem sG.small {a : List bQ} {s : LX.State} (h : sG a s) (ha : mo a) : Small s where
  frames := h.many
  regs f hf := by
    obtain ⟨x, g⟩ := vw h.frames f hf
    have := (ha.mem g.proc).2.2.1
    have := g.regs
    omega
  cells := h.cells.1
  fields c hc := (h.cells.2 c hc).1.2
theorem F9 {α : Type} {bytes : Nat} {a : List α} (h : a.length ≤ 400) (hb : bytes ≤ 48) : clone bytes a = some a := by
  have : a.length * bytes ≤ 400 * 48 := Nat.mul_le_mul h hb
  unfold clone
  exact tX ⟨by simp; omega, by simp; omega⟩
theorem Ik {ρ : Type} {body : Int → Unit → (Unit → ρ) → ρ} {k : Unit → ρ} : ∀ (m : Nat) (i : Nat), (∀ j : Nat, i ≤ j → j < i + m → ∀ nx, body (j : Int) () nx = nx ()) → upto body k (i : Int) m () = k ()
  | 0, i, _ => rfl
  | m + 1, i, h => by
    rw [Ii, h i (Nat.le_refl _) (by omega), show ((i : Int) + 1) = ((i + 1 : Nat) : Int) by omega]
    exact Ik m (i + 1) (fun j h1 h2 => h j (by omega) (by omega))
theorem Py {l : List (List Val)} (h : l.length ≤ 24) (hf : ∀ c ∈ l, c.length ≤ 4) : DK l = some l := by
  unfold DK
  rw [F9 (by omega) (by decide), bnd, Int.toNat_natCast]
  exact Ik (k := xV l) l.length 0 (fun j h1 h2 nx => by
    unfold xU
    rw [vO (by omega), bnd, F9 (by have := hf _ (List.getElem_mem (by omega : j < l.length)); omega) (by decide), bnd])
theorem copy_eq {s : LX.State} (h : Small s) : DL s = some s := by
  unfold DL
  rw [F9 (by have := h.frames; omega) (by decide), bnd, Py h.cells h.fields, bnd]
  unfold EH
  rw [Int.toNat_natCast]
  exact Ik (k := BV s s.cells) s.frames.length 0 (fun j h1 h2 nx => by
    unfold BU
    rw [vO (by omega), bnd, F9 (by have := h.regs _ (List.getElem_mem (by omega : j < s.frames.length)); omega) (by decide), bnd])
theorem room_le {α : Type} {bytes : Nat} {l m : List α} (h : l.length + m.length ≤ 100000) (hb : bytes ≤ 48) : Room bytes l m := by
  have : (l.length + m.length) * bytes ≤ 100000 * 48 := Nat.mul_le_mul h hb
  exact ⟨by omega, by omega⟩
end Go.Proofs.YtfclkapelkhlpaaGreatDoor
namespace Go.Proofs.YtfclkapelkhlpaaGreatDoor
open Go Go.Proofs Go.LX
def Ga (l : List Int) (v : Val) : List Int := if v.kind = 2 ∧ v.n ∉ l then l ++ [v.n] else l
def Gb (l : List Int) (vs : List Val) : List Int := vs.foldl Ga l
def cellAt (cells : List (List Val)) (k : Int) : List Val := (idx cells k).getD []
def Lc (cells : List (List Val)) : Nat → Nat → List Int → List Int
  | 0, _, l => l
  | m + 1, k, l => if h : k < l.length then Lc cells m (k + 1) (Gb l (cellAt cells l[k])) else l
def Dk (cells : List (List Val)) (vs : List Val) : List Int := Lc cells 25 0 (Gb [] vs)
theorem DZ (l : List Int) (v : Val) (vs : List Val) : Gb l (v :: vs) = Gb (Ga l v) vs := rfl
theorem XY (l : List Int) (v : Val) : l <+: Ga l v := by
  unfold Ga; split
  · exact List.prefix_append _ _
  · exact List.prefix_refl _
theorem Dl : ∀ (vs : List Val) (l : List Int), l <+: Gb l vs
  | [], l => List.prefix_refl _
  | v :: vs, l => (XY l v).trans (Dl vs _)
theorem SF (cells : List (List Val)) : ∀ (m k : Nat) (l : List Int), l <+: Lc cells m k l
  | 0, _, l => List.prefix_refl _
  | m + 1, k, l => by
    unfold Lc; split
    · exact (Dl _ _).trans (SF cells m _ _)
    · exact List.prefix_refl _
theorem Mg : ∀ (n : Nat) (l : List Int), l.Nodup → (∀ x ∈ l, 0 ≤ x ∧ x < n) → l.length ≤ n
  | 0, l, _, h => by
    cases l with
    | nil => simp
    | cons x l => have := h x (by simp); omega
  | n + 1, l, hn, h => by
    have h1 := Mg n (l.erase (n : Int)) (hn.erase _) (fun x hx => by
      have h2 := (hn.mem_erase_iff).1 hx
      have := h x h2.2
      have h3 := h2.1
      constructor
      · omega
      · push_cast at this; omega)
    have h4 : l.length ≤ (l.erase (n : Int)).length + 1 := by rw [List.length_erase]; split <;> omega
    omega
def qD (n : Nat) (l : List Int) : Prop := l.Nodup ∧ ∀ x ∈ l, 0 ≤ x ∧ x < n
theorem qD.len {n : Nat} {l : List Int} (h : qD n l) : l.length ≤ n := Mg n l h.1 h.2
theorem qD.nil {n : Nat} : qD n [] := ⟨List.nodup_nil, fun x hx => by cases hx⟩
theorem ik.ref {n : Nat} {v : Val} (h : ik n v) (hk : v.kind = 2) : 0 ≤ v.n ∧ v.n < n := by unfold ik at h; omega
theorem qD.v {n : Nat} {l : List Int} (h : qD n l) {v : Val} (hv : ik n v) : qD n (Ga l v) := by
  unfold Ga; split
  · rename_i hc
    refine ⟨List.nodup_append.2 ⟨h.1, by simp, fun a ha b hb => ?_⟩, fun x hx => ?_⟩
    · simp at hb; subst hb; intro e; subst e; exact hc.2 ha
    · rcases List.mem_append.1 hx with hx | hx
      · exact h.2 x hx
      · simp at hx; subst hx; exact hv.ref hc.1
  · exact h
theorem qD.l {n : Nat} : ∀ {vs : List Val} {l : List Int}, qD n l → (∀ v ∈ vs, ik n v) → qD n (Gb l vs)
  | [], l, h, _ => h
  | v :: vs, l, h, hv => qD.l (vs := vs) (l := Ga l v) (h.v (hv v (by simp))) (fun w hw => hv w (List.mem_cons_of_mem _ hw))
theorem Cb {cells : List (List Val)} {k : Int} (h : 0 ≤ k ∧ k < cells.length) : idx cells k = some (cellAt cells k) ∧ cellAt cells k ∈ cells := by
  obtain ⟨n, rfl⟩ := Int.eq_ofNat_of_zero_le h.1
  unfold cellAt
  rw [vO (by omega)]
  exact ⟨rfl, List.getElem_mem _⟩
theorem nY.at {cells : List (List Val)} (h : nY cells) {k : Int} (hk : 0 ≤ k ∧ k < cells.length) : (1 ≤ (cellAt cells k).length ∧ (cellAt cells k).length ≤ 4) ∧ ∀ v ∈ cellAt cells k, ik cells.length v := h.2 _ (Cb hk).2
theorem qD.Lc {cells : List (List Val)} (hc : nY cells) : ∀ {m k : Nat} {l : List Int}, qD cells.length l → qD cells.length (Lc cells m k l)
  | 0, _, l, h => h
  | m + 1, k, l, h => by
    unfold Proofs.YtfclkapelkhlpaaGreatDoor.Lc; split
    · rename_i hk
      exact qD.Lc hc (h.l (hc.at (h.2 _ (List.getElem_mem hk))).2)
    · exact h
def gq (vs : List Val) (l : List Int) : Prop := ∀ v ∈ vs, v.kind = 2 → v.n ∈ l
theorem gq.pre {vs : List Val} {l m : List Int} (h : gq vs l) (hp : l <+: m) : gq vs m := fun v hv hk => hp.subset (h v hv hk)
theorem ZC (l : List Int) (v : Val) (hk : v.kind = 2) : v.n ∈ Ga l v := by
  unfold Ga; split
  · simp
  · rename_i hc
    exact Decidable.not_not.1 (fun h => hc ⟨hk, h⟩)
theorem NT : ∀ (vs : List Val) (l : List Int), gq vs (Gb l vs)
  | [], l, v, hv, _ => by cases hv
  | w :: vs, l, v, hv, hk => by
    rw [DZ]
    rcases List.mem_cons.1 hv with rfl | hv
    · exact (Dl vs _).subset (ZC l v hk)
    · exact NT vs _ v hv hk
theorem XZ {cells : List (List Val)} (hc : nY cells) : ∀ {m k : Nat} {l : List Int}, qD cells.length l → cells.length < k + m → (∀ j (hj : j < l.length), j < k → gq (cellAt cells l[j]) l) → ∀ x ∈ Lc cells m k l, gq (cellAt cells x) (Lc cells m k l)
  | 0, k, l, h, hm, hj, x, hx => by
    have := h.len
    obtain ⟨j, h1, rfl⟩ := List.getElem_of_mem hx
    exact hj j h1 (by have h1' : j < l.length := h1; omega)
  | m + 1, k, l, h, hm, hj, x, hx => by
    unfold Proofs.YtfclkapelkhlpaaGreatDoor.Lc at hx ⊢
    split at hx
    · rename_i hk
      rw [dif_pos hk]
      have hv := (hc.at (h.2 _ (List.getElem_mem hk))).2
      have hp := Dl (cellAt cells l[k]) l
      refine XZ hc (h.l hv) (by omega) (fun j h1 h2 => ?_) x hx
      by_cases e : j < l.length
      · have e1 : (Gb l (cellAt cells l[k]))[j] = l[j] := (hp.getElem e).symm
        rw [e1]
        by_cases e2 : j < k
        · exact (hj j e e2).pre hp
        · have : j = k := by omega
          subst this
          exact NT _ _
      · omega
    · rename_i hk
      rw [dif_neg hk]
      obtain ⟨j, h1, rfl⟩ := List.getElem_of_mem hx
      exact hj j h1 (by omega)
theorem X0 {cells : List (List Val)} (hc : nY cells) {vs : List Val} (hv : ∀ v ∈ vs, ik cells.length v) : qD cells.length (Dk cells vs) ∧ gq vs (Dk cells vs) ∧ ∀ x ∈ Dk cells vs, gq (cellAt cells x) (Dk cells vs) := by
  have h0 : qD cells.length (Gb [] vs) := qD.nil.l hv
  refine ⟨qD.Lc hc h0, (NT vs []).pre (SF _ _ _ _), XZ hc h0 (by have := hc.1; omega) (fun j h1 h2 => absurd h2 (Nat.not_lt_zero _))⟩
theorem NU {α : Type} (k k' : Int) (v : α) : ∀ l : List (Int × α), lk k (BF k' v l) = if k = k' then some v else lk k l
  | [] => by unfold BF lk; by_cases h : k = k' <;> simp [h, lk]
  | p :: l => by
    unfold BF
    by_cases h : k' = p.1
    · rw [if_pos h]
      show (if k = p.1 then some v else lk k l) = if k = k' then some v else (if k = p.1 then some p.2 else lk k l)
      by_cases e : k = p.1
      · rw [if_pos e, if_pos (by omega)]
      · rw [if_neg e, if_neg (by omega), if_neg e]
    · rw [if_neg h]
      show (if k = p.1 then some p.2 else lk k (BF k' v l)) = if k = k' then some v else (if k = p.1 then some p.2 else lk k l)
      by_cases e : k = p.1
      · rw [if_pos e, if_pos e, if_neg (by omega)]
      · rw [if_neg e, if_neg e, NU k k' v l]
def Seen (l : List Int) (m : List (Int × Bool)) : Prop := ∀ k, (lk k m).getD false = decide (k ∈ l)
theorem Seen.nil : Seen [] [] := fun k => rfl
theorem Seen.put {l : List Int} {m : List (Int × Bool)} (h : Seen l m) (n : Int) : Seen (l ++ [n]) (BF n true m) := by
  intro k
  rw [NU]
  by_cases e : k = n
  · simp [e]
  · rw [if_neg e, h k, Bool.eq_iff_iff]; simp [e]
theorem Gc {ρ : Type} {body : Val → List Int × List (Int × Bool) → (List Int × List (Int × Bool) → Option ρ) → Option ρ} {K : List Int × List (Int × Bool) → Option ρ}
    (hb : ∀ x l m nx, l.length ≤ 1000 → body x (l, m) nx = bif (decide (x.kind = 2) && (!((lk x.n m).getD false))) then nx (l ++ [x.n], BF x.n true m) else nx (l, m)) :
    ∀ (vs : List Val) (l : List Int) (m : List (Int × Bool)), Seen l m → l.length + vs.length ≤ 1000 → ∃ m', Seen (Gb l vs) m' ∧ each body K vs (l, m) = K (Gb l vs, m')
  | [], l, m, h, _ => ⟨m, h, rfl⟩
  | v :: vs, l, m, h, hl => by
    simp only [List.length_cons] at hl
    rw [dO, hb v l m _ (by omega), h v.n, DZ]
    unfold Ga
    by_cases hc : v.kind = 2 ∧ v.n ∉ l
    · rw [if_pos hc, dT hc.1, dF hc.2, Bool.true_and, Bool.not_false, cond_true]
      exact Gc hb vs _ _ (h.put v.n) (by simp; omega)
    · rw [if_neg hc, show (decide (v.kind = 2) && !decide (v.n ∈ l)) = false by rw [Bool.and_eq_false_iff]; simp; simp only [not_and, Decidable.not_not] at hc; by_cases e : v.kind = 2 <;> simp [e, hc], cond_false]
      exact Gc hb vs _ _ h (by omega)
theorem Pz {cells : List (List Val)} (hc : nY cells) : ∀ (m N k : Nat) (l : List Int) (s : List (Int × Bool)), qD cells.length l → Seen l s → cells.length < k + m → m < N → k ≤ l.length → again (mg cells) N ((k : Int), l, s) = some (Lc cells m k l, 0)
  | m, 0, k, l, s, h, hs, hm, hN, hk => by omega
  | 0, N + 1, k, l, s, h, hs, hm, hN, hk => by have := h.len; omega
  | m + 1, N + 1, k, l, s, h, hs, hm, hN, hk => by
    rw [yf]
    unfold mg Proofs.YtfclkapelkhlpaaGreatDoor.Lc
    simp only
    have hl := h.len
    have hn := hc.1
    by_cases hlt : k < l.length
    · rw [dT (by omega), cond_true, vO hlt, bnd, dif_pos hlt]
      have hr := h.2 _ (List.getElem_mem hlt)
      have hv := hc.at hr
      rw [(Cb hr).1, bnd]
      have e0 : (fun (s : Int × List Int × List (Int × Bool)) (O7 : Int × List Int × List (Int × Bool) → Option (List Int × Int)) => match s with | (JY, BM, Bj) => bif decide ((JY : Int) < (BM.length : Int)) then (idx BM JY).bind fun x79 => (idx cells x79).bind fun x87 => each oG (oH JY O7) x87 (BM, Bj) else some (BM, 0)) = mg cells := rfl
      rw [e0]
      obtain ⟨s', h1, h2⟩ := Gc (body := oG) (K := oH (k : Int) (again (mg cells) N)) (fun x l m nx hl => by
        unfold oG
        simp only [u7]
        cases (decide (x.kind = 2) && (!((lk x.n m).getD false))) with
        | false => rfl
        | true => rw [cond_true, cond_true, tX (room_le (by simp; omega) (by decide))]) (cellAt cells l[k]) l s hs (by have := hv.1.2; omega)
      rw [h2]
      unfold oH
      simp only
      rw [gI (by omega) (by omega)]
      have hp := (Dl (cellAt cells l[k]) l).length_le
      exact Pz hc m N (k + 1) _ s' (h.l hv.2) h1 (by omega) (by omega) (by omega)
    · rw [dF (by omega), cond_false, dif_neg hlt]
theorem X3 {N : Nat} (hN : 100 ≤ N) {cells : List (List Val)} (hc : nY cells) {vs : List Val} (hv : ∀ v ∈ vs, ik cells.length v) (hl : vs.length ≤ 400) : BX N cells vs = some (Dk cells vs, 0) := by
  unfold BX
  rw [(Rf cells).2 hc, dF (by simp), cond_false, dF (by omega), cond_false]
  have k1 : ∀ l : List Val, (∀ v ∈ l, ik cells.length v) → each (qW cells) (oI N cells vs) l () = oI N cells vs () := by
    intro l
    induction l with
    | nil => intro _; rfl
    | cons x l ih =>
      intro h
      rw [dO]
      unfold qW
      rw [(Di _ _).2 (h x (by simp)), dF (by simp), cond_false]
      exact ih (fun v hv => h v (List.mem_cons_of_mem _ hv))
  rw [k1 vs hv]
  unfold oI
  obtain ⟨s', h1, h2⟩ := Gc (body := qV) (K := vg N cells) (fun x l m nx hl => by
    unfold qV
    simp only [u6]
    cases (decide (x.kind = 2) && (!((lk x.n m).getD false))) with
    | false => rfl
    | true => rw [cond_true, cond_true, tX (room_le (by simp; omega) (by decide))]) vs [] [] Seen.nil (by simp; omega)
  rw [h2]
  exact Pz hc 25 N 0 _ s' (qD.nil.l hv) h1 (by have := hc.1; omega) (by omega) (by omega)
end Go.Proofs.YtfclkapelkhlpaaGreatDoor
