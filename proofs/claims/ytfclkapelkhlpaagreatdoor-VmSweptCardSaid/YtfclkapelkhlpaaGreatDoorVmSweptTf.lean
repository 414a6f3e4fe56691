/-
  What the law VmSwept needs of our own library and of the walks, no more.
-/
import Derived.Test.YtfclkapelkhlpaaGreatDoorProg
import Derived.Test.YtfclkapelkhlpaaGreatDoorVmSweptTe
set_option linter.unusedSimpArgs false
set_option linter.unusedVariables false
set_option maxRecDepth 10000
namespace Go.Proofs.YtfclkapelkhlpaaGreatDoor
open Go Go.Proofs Go.LX
noncomputable section
theorem PU (N : Nat) (w0 : World) (M : BS) (hM : ∀ b, M b → b < w0.heap.size) (sb : Nat) (sx : LX.State) (fw vs1 : Value) (fF fq : List Value) (hC : Chunk.holds w0 M (Chunk.own' (.two (.two (.two (.two (.blk sb [fw, vs1, (.int .i64 (sx.status)), (.int .i64 (sx.aV))]) (.own aB.raw 49 fw (List.zip sx.frames fF))) (.bL (aR aM 51 hn fF (List.map aB.sub sx.frames)))) (.own (aT Val).raw 47 vs1 (List.zip sx.cells fq))) (.bL (aR aM 51 hn fq (List.map (aT Val).sub sx.cells))) : Chunk)) (.two (.two (.two (.two (.blk sb [fw, vs1, (.int .i64 (sx.status)), (.int .i64 (sx.aV))]) (.own aB.raw 49 fw (List.zip sx.frames fF))) (.bL (aR aM 51 hn fF (List.map aB.sub sx.frames)))) (.own (aT Val).raw 47 vs1 (List.zip sx.cells fq))) (.bL (aR aM 51 hn fq (List.map (aT Val).sub sx.cells))) : Chunk)) (hap : ∀ b, Chunk.own' (.two (.two (.two (.two (.blk sb [fw, vs1, (.int .i64 (sx.status)), (.int .i64 (sx.aV))]) (.own aB.raw 49 fw (List.zip sx.frames fF))) (.bL (aR aM 51 hn fF (List.map aB.sub sx.frames)))) (.own (aT Val).raw 47 vs1 (List.zip sx.cells fq))) (.bL (aR aM 51 hn fq (List.map (aT Val).sub sx.cells))) : Chunk) b → ¬ M b) (va : Value) (a : List dx) (ha : fH kF w0 (fun b => M b ∨ (.two (.two (.two (.two (.blk sb [fw, vs1, (.int .i64 (sx.status)), (.int .i64 (sx.aV))]) (.own aB.raw 49 fw (List.zip sx.frames fF))) (.bL (aR aM 51 hn fF (List.map aB.sub sx.frames)))) (.own (aT Val).raw 47 vs1 (List.zip sx.cells fq))) (.bL (aR aM 51 hn fq (List.map (aT Val).sub sx.cells))) : Chunk).own' b) va a) (r : DC × Bool × LX.State) (hs : Oz N sx a = some r) :
    Calls Tryz.prog 65 #[va, (.pointer (some ⟨sb, 0, none⟩))] w0 (fun e w' => aL (Chunk.own' (.two (.two (.two (.two (.blk sb [fw, vs1, (.int .i64 (sx.status)), (.int .i64 (sx.aV))]) (.own aB.raw 49 fw (List.zip sx.frames fF))) (.bL (aR aM 51 hn fF (List.map aB.sub sx.frames)))) (.own (aT Val).raw 47 vs1 (List.zip sx.cells fq))) (.bL (aR aM 51 hn fq (List.map (aT Val).sub sx.cells))) : Chunk)) w0 w' ∧ ∃ AU, ∃ AV, ∃ AX, ∃ AY, e = .returned (.tuple #[.agg #[.bool r.1.said, .int .i64 r.1.n, .bool r.1.DD], .bool r.2.1]) ∧ Chunk.holds w' M (Chunk.own' (.two (.two (.two (.two (.blk sb [AU, AV, .int .i64 r.2.2.status, .int .i64 r.2.2.aV]) (.own aB.raw 49 AU (List.zip r.2.2.frames AX))) (.bL (aR aM 51 hn AX (List.map aB.sub r.2.2.frames)))) (.own (aT Val).raw 47 AV (List.zip r.2.2.cells AY))) (.bL (aR aM 51 hn AY (List.map (aT Val).sub r.2.2.cells))) : Chunk)) (.two (.two (.two (.two (.blk sb [AU, AV, .int .i64 r.2.2.status, .int .i64 r.2.2.aV]) (.own aB.raw 49 AU (List.zip r.2.2.frames AX))) (.bL (aR aM 51 hn AX (List.map aB.sub r.2.2.frames)))) (.own (aT Val).raw 47 AV (List.zip r.2.2.cells AY))) (.bL (aR aM 51 hn AY (List.map (aT Val).sub r.2.2.cells))) : Chunk) ∧ (∀ b, Chunk.own' (.two (.two (.two (.two (.blk sb [AU, AV, .int .i64 r.2.2.status, .int .i64 r.2.2.aV]) (.own aB.raw 49 AU (List.zip r.2.2.frames AX))) (.bL (aR aM 51 hn AX (List.map aB.sub r.2.2.frames)))) (.own (aT Val).raw 47 AV (List.zip r.2.2.cells AY))) (.bL (aR aM 51 hn AY (List.map (aT Val).sub r.2.2.cells))) : Chunk) b → b < w0.heap.size → Chunk.own' (.two (.two (.two (.two (.blk sb [fw, vs1, (.int .i64 (sx.status)), (.int .i64 (sx.aV))]) (.own aB.raw 49 fw (List.zip sx.frames fF))) (.bL (aR aM 51 hn fF (List.map aB.sub sx.frames)))) (.own (aT Val).raw 47 vs1 (List.zip sx.cells fq))) (.bL (aR aM 51 hn fq (List.map (aT Val).sub sx.cells))) : Chunk) b)) := by
 refine aS (args := [va, (.pointer (some ⟨sb, 0, none⟩))]) Tryz.func65 rfl Tryz.ntmps65 (Nat.le_of_ble_eq_true rfl) ?_
 have h := SH.EJ hM hC hap
 replace h := h.Bw 6 ha zo
 generalize zt : (.two (.two (.two (.two (.blk sb [fw, vs1, (.int .i64 (sx.status)), (.int .i64 (sx.aV))]) (.own aB.raw 49 fw (List.zip sx.frames fF))) (.bL (aR aM 51 hn fF (List.map aB.sub sx.frames)))) (.own (aT Val).raw 47 vs1 (List.zip sx.cells fq))) (.bL (aR aM 51 hn fq (List.map (aT Val).sub sx.cells))) : Chunk).own' = K0 at h
 replace h := h.bX 1 5 (by decide) rfl rfl
 replace h := h.bX 1 4 (by decide) rfl rfl
 replace h := h.bX 1 3 (by decide) rfl rfl
 replace h := h.bX 1 2 (by decide) rfl rfl
 have uw := ha.cB
 refine ai (ag (bY h 7 gF fun w b1 h => ae (aj (v := (.bool (false))) rfl) (ah (aa (ai (ag (ae (au (v := (.pointer (some ⟨sb, 0, none⟩))) rfl) (ae (bT rfl) (ae (ak dY rfl) (ae (aD h 1 rfl iR rfl rfl) (ae (oM (N := aB) dm rfl (h.eF 2 rfl) (h.iK 3 rfl)) ?_)))))))))))
 obtain ⟨a2, hs⟩ := bM hs
 refine ae (oz rfl rfl a2) (ae (aj (v := (.int .i64 (((sx.frames.length : Int) - 1)))) rfl) (ah (aa (ai (ag (ae (au (v := (.pointer (some ⟨sb, 0, none⟩))) rfl) (ae (bT rfl) (ae (ak dY rfl) (ae (aD h 1 rfl iR rfl rfl) (ae (au (v := (.int .i64 (((sx.frames.length : Int) - 1)))) rfl) ?_))))))))))
 obtain ⟨x3, e4, hs⟩ := aQ hs
 obtain ⟨u8, e9, h⟩ := h.pq 3 8 x3.regs rfl rfl (by decide) (aI e4).2 rfl
 obtain ⟨b6, q7, i5⟩ := h.uR 2 rfl dm rfl (aI e4).1 (fe (aI e4).2 e9)
 refine ae (i5 _ _ _ _ _ _ _ _ _ rfl rfl) (ae (aj (v := (.pointer (some ⟨b6, (((sx.frames.length : Int) - 1)).toNat * 4, none⟩))) rfl) (ah (aa (ai (Cy mixed h fun w h => bZ 0 (aL.refl BE _) rfl ax (by kernel_rfl) (by kernel_rfl) (by kernel_rfl) (fun w hk => au (v := va) rfl) (bZ 1 (aL.refl BE _) rfl ax (by kernel_rfl) (by kernel_rfl) (by kernel_rfl) (fun w hk => au (v := (.pointer (some ⟨b6, (((sx.frames.length : Int) - 1)).toNat * 4, none⟩))) rfl) (bZ 2 (aL.refl BE _) rfl ax (by kernel_rfl) (by kernel_rfl) (by kernel_rfl) (fun w hk => bT rfl) (bZ 3 (aL.refl BE _) rfl ax (by kernel_rfl) (by kernel_rfl) (by kernel_rfl) (fun w hk => ak tX rfl) ?_))))))))
 obtain ⟨Yo, SI, SK⟩ := h.xc 2 rfl q7 (fe (aI e4).2 e9)
 obtain ⟨rfl, -⟩ := SK
 refine bZ 4 (aL.refl BE _) rfl ax (by kernel_rfl) (by kernel_rfl) (by kernel_rfl) (fun w hk => have h := h.grow hk; oC (k := 0) (SI.grow hk) aZ rfl rfl) ?_
 obtain ⟨aW, C9, hs⟩ := aQ hs
 obtain ⟨bq10x5_4, oq10x5_5, Yp, h, SL, SN⟩ := h.Dm 6 69 rfl jI rfl (aI C9).1 (aI C9).2
 obtain ⟨uq10x5_8, rfl, SQ⟩ := nN SL
 replace h := h.di 70 SQ.up
 refine bZ 5 (aL.refl BE _) rfl ax (by kernel_rfl) (by kernel_rfl) (by kernel_rfl) (fun w hk => SN _ _ _ _ _ _ _ _ _ rfl rfl) (bZ 6 (aL.refl BE _) rfl ax (by kernel_rfl) (by kernel_rfl) (by kernel_rfl) (fun w hk => ak qV rfl) (bZ 7 (aL.refl BE _) rfl ax (by kernel_rfl) (by kernel_rfl) (by kernel_rfl) (fun w hk => have h := h.grow hk; eO (k := 2) h 69 rfl zl rfl rfl) (bZ 8 (aL.refl BE _) rfl ax (by kernel_rfl) (by kernel_rfl) (by kernel_rfl) (fun w hk => au (v := (.pointer (some ⟨b6, (((sx.frames.length : Int) - 1)).toNat * 4, none⟩))) rfl) (bZ 9 (aL.refl BE _) rfl ax (by kernel_rfl) (by kernel_rfl) (by kernel_rfl) (fun w hk => bT rfl) (bZ 10 (aL.refl BE _) rfl ax (by kernel_rfl) (by kernel_rfl) (by kernel_rfl) (fun w hk => ak qU rfl) ?_)))))
 obtain ⟨XK, PV, PW⟩ := h.xc 2 rfl q7 (fe (aI e4).2 e9)
 obtain ⟨rfl, -⟩ := PW
 refine bZ 11 (aL.refl BE _) rfl ax (by kernel_rfl) (by kernel_rfl) (by kernel_rfl) (fun w hk => have h := h.grow hk; oC (k := 1) (PV.grow hk) aZ rfl rfl) ?_
 obtain ⟨aP, IV, hs⟩ := aQ hs
 obtain ⟨Yq, Yr, XL, h, PX, PY⟩ := h.Dm 70 153 rfl jA rfl (aI IV).1 (aI IV).2
 obtain ⟨jZ, rfl, PZ⟩ := Ay PX
 replace h := h.di 154 PZ.up
 refine bZ 12 (aL.refl BE _) rfl ax (by kernel_rfl) (by kernel_rfl) (by kernel_rfl) (fun w hk => PY _ _ _ _ _ _ _ _ _ rfl rfl) (bZ 13 (aL.refl BE _) rfl ax (by kernel_rfl) (by kernel_rfl) (by kernel_rfl) (fun w hk => have h := h.grow hk; jg (k := 0) (vs := [(.int .i64 (aP.op)), (.int .i64 (aP.a)), (.int .i64 (aP.b)), (.int .i64 (aP.c)), jZ]) h 153 rfl pK rfl rfl rfl (Nat.le_of_ble_eq_true rfl)) ?_)
 obtain ⟨ws11, VI⟩ : ∃ x, x = w := ⟨_, rfl⟩
 have Nk : Grow ws11 w := VI ▸ aL.refl BE w
 refine Il VI.symm (uT 14 (by kernel_rfl) rfl ax (Dw h 177 pK fun w IW h Nl Nn => ?_))
 have Np : ws11.heap.size ≤ IW := Nat.le_trans Nk.size Nn
 replace Nk := Nk.trans Nl
 refine ah (o7 Nk (uT 15 (by kernel_rfl) rfl ax (xe (vs := [(.int .i64 (aP.op)), (.int .i64 (aP.a)), (.int .i64 (aP.b)), (.int .i64 (aP.c)), jZ]) h 177 [(.int .i64 (aP.op)), (.int .i64 (aP.a)), (.int .i64 (aP.b)), (.int .i64 (aP.c)), jZ] rfl pK rfl rfl rfl rfl rfl (ay rfl (ay rfl (ay rfl (ay rfl (ay (h.iq 154 rfl).one bg))))) fun w h P5 => ?_)))
 replace Nk := Nk.fresh P5 (fun x hx => hx ▸ Np)
 refine ah (o7 Nk (rV (by kernel_rfl) (aa (ai (qP 19 mixed (by kernel_rfl) h fun w h => aJ (au (v := (.pointer (some ⟨b6, (((sx.frames.length : Int) - 1)).toNat * 4, none⟩))) rfl) (aJ (au (v := (.pointer (some ⟨b6, (((sx.frames.length : Int) - 1)).toNat * 4, none⟩))) rfl) (aJ (bT rfl) (aJ (ak qU rfl) ?_))))))))
 obtain ⟨Za, m14, Xz⟩ := h.xc 2 rfl q7 (fe (aI e4).2 e9)
 obtain ⟨rfl, -⟩ := Xz
 refine aJ (oC (k := 1) m14 aZ rfl rfl) ?_
 obtain ⟨a16, hs⟩ := bM hs
 refine aJ (dH rfl rfl a16) (aJ (au (v := va) rfl) (aJ (au (v := (.pointer (some ⟨b6, (((sx.frames.length : Int) - 1)).toNat * 4, none⟩))) rfl) (aJ (bT rfl) (aJ (ak tX rfl) ?_))))
 obtain ⟨cs17, m18, r19⟩ := h.xc 2 rfl q7 (fe (aI e4).2 e9)
 obtain ⟨rfl, -⟩ := r19
 refine aJ (oC (k := 0) m18 aZ rfl rfl) ?_
 obtain ⟨Hz, o22, cs23, h, r24, i20⟩ := h.Dm 6 213 rfl jI rfl (aI C9).1 (aI C9).2
 obtain ⟨u25, rfl, ZB⟩ := nN r24
 replace h := h.di 214 ZB.up
 refine aJ (i20 _ _ _ _ _ _ _ _ _ rfl rfl) (aJ (ak qV rfl) (aJ (eO (k := 2) h 213 rfl zl rfl rfl) (aJ (bW jA rfl (h.mH 214 rfl)) ?_)))
 obtain ⟨a27, hs⟩ := bM hs
 refine aJ (oz rfl rfl a27) (aJ (YL rfl rfl) (aJ (bT rfl) (aJ (ak qU rfl) (zi (Ij (a' := (({ x3 with at_ := (min (x3.at_ + 1) ((aW.code.length : Int) - 1)) }), u8)) h 2 rfl q7 rfl (fe (aI e4).2 e9) aZ rfl rfl rfl rfl (by rintro _ ⟨rfl, hq⟩; exact ⟨rfl, hq⟩) fun w h => ?_)))))
 rw [FT e9] at h
 replace h := h.V7 3 ({ x3 with at_ := (min (x3.at_ + 1) ((aW.code.length : Int) - 1)) }) rfl
 refine ah (aa (ai (ag (ae (au (v := (.pointer (some ⟨b6, (((sx.frames.length : Int) - 1)).toNat * 4, none⟩))) rfl) (ae (bT rfl) (ae (ak jW rfl) ?_))))))
 obtain ⟨UG, m29, UI⟩ := h.xc 2 rfl q7 (fe (j4 (aI e4).2) e9)
 obtain ⟨rfl, -⟩ := UI
 refine ae (oC (k := 2) m29 kg rfl rfl) (ae (aj (v := u8) rfl) (ah (aa (cz (σ := Bool × Value × List Value × List LX.Frame × Value × List Value × List (List Val) × Int × Int) (inl [5, 10, 60, 61, 62, 63, 64, 65, 66, 67, 68, 69, 70, 71, 72, 73, 74, 75, 76, 77, 78, 79, 80, 81, 82, 83, 84, 85, 86, 87, 88, 89, 90, 91, 92, 93, 94, 95, 96, 97, 98, 99, 100, 101, 102, 103, 104, 105, 106, 107, 108, 109, 110, 111, 112, 113, 114, 115, 116, 117, 118, 119, 120, 121, 122, 123, 124, 125, 126, 127, 128, 129, 130, 131, 132, 133, 134, 135, 136, 137, 138, 139, 140, 141, 142, 143, 144, 145, 146, 147, 148, 149, 150, 151, 152, 153, 154, 155, 156, 157, 158, 159, 160, 161, 162, 163, 164, 165, 166, 167, 168, 169, 170, 171, 172, 173, 174, 175, 176, 177, 178, 179, 180, 181, 182, 183, 184, 185, 186, 187, 188, 189, 190, 191, 192, 193, 194, 195, 196, 197, 198, 199, 200, 201, 202, 203, 204, 205, 206, 207, 208, 209, 210, 211, 212, 213, 214, 215]) (fun ⟨y31, v32, Nq, y34, v35, Nr, UO, y38, y39⟩ => []) (fun ⟨y31, v32, Nq, y34, v35, Nr, UO, y38, y39⟩ w => SH w0 M K0 w (hset [(1, .blk sb [v32, v35, (.int .i64 (y38)), (.int .i64 (y39))]), (2, .own aB.raw 49 v32 (List.zip y34 Nq)), (3, .bL (aR aM 51 hn Nq (List.map aB.sub y34))), (4, .own (aT Val).raw 47 v35 (List.zip UO Nr)), (5, .bL (aR aM 51 hn Nr (List.map (aT Val).sub UO))), (7, .blk b1 [(.bool (false)), (.int .i64 (0)), (.bool (y31))])]) ∧ mG y31 y34 UO y38 y39 = some r) ?_ ?_))))
 rintro ⟨y31, v32, Nq, y34, v35, Nr, UO, y38, y39⟩ w dD ⟨h, hs⟩
 refine ai (ag (ae (dE (vs := [(.bool (false)), (.int .i64 (0)), (.bool (y31))]) h 7 rfl gF rfl rfl rfl) (dB (vs := [(.bool (false)), (.int .i64 (0)), (.bool (y31))]) h 7 [(.bool (false)), (.int .i64 (0)), (.bool (y31))] rfl gF rfl rfl rfl rfl rfl (ay rfl (ay rfl (ay rfl bg))) fun w h => ae (aj (v := (.bool (true))) rfl) (ah (aa (aK (j3 (vs := [(.bool (false)), (.int .i64 (0)), (.bool (y31))]) (v2 := (.bool (true))) Tryz.results65 rfl rfl h 7 rfl gF rfl ?_)))))))
 replace h := h.pair 1 2 (by decide)
 replace h := h.pair 1 3 (by decide)
 replace h := h.pair 1 4 (by decide)
 replace h := h.pair 1 5 (by decide)
 obtain rfl := Option.some.inj hs
 subst zt
 obtain ⟨o1, o2, o3⟩ := h.qD 1 (C := (.two (.two (.two (.two (.blk sb [v32, v35, (.int .i64 (y38)), (.int .i64 (y39))]) (.own aB.raw 49 v32 (List.zip y34 Nq))) (.bL (aR aM 51 hn Nq (List.map aB.sub y34)))) (.own (aT Val).raw 47 v35 (List.zip UO Nr))) (.bL (aR aM 51 hn Nr (List.map (aT Val).sub UO))) : Chunk)) rfl ⟨⟨⟨⟨trivial, trivial⟩, trivial⟩, trivial⟩, trivial⟩
 exact ⟨o2, v32, v35, Nq, Nr, rfl, o1, o3⟩
 refine ai (ag (ae (ak pz rfl) (ae (aD h 177 rfl aZ rfl rfl) (ah (aa (aU (ai (ag (ae (bJ rfl rfl) (ae (aj (v := (.bool (decide ((aP.op : Int) = 1)))) rfl) (ah (aa (aN hs rfl (fun c40 hs => ?_) (fun c40 hs => ?_))))))))))))))
 refine ag (ae (au (v := u8) rfl) (ae (ak kv rfl) (ae (aD h 177 rfl aZ rfl rfl) (ae (ak iX rfl) (ae (aD h 177 rfl aZ rfl rfl) (ae (dV (pv := [(0, (.int .i64 (1))), (1, (.int .i64 (aP.b)))]) (out := [(.int .i64 (1)), (.int .i64 (aP.b))]) uu rfl ⟨0, 1, [(.int .i64 (1))], rfl, rfl, rfl, Nat.le_of_ble_eq_true rfl, ⟨1, 1, [(.int .i64 (aP.b))], rfl, rfl, rfl, Nat.le_of_ble_eq_true rfl, rfl⟩⟩) ?_))))))
 obtain ⟨x41, e42, hs⟩ := aQ hs
 obtain ⟨Md, ZR, i43⟩ := h.uR 8 rfl bK rfl (aI e42).1 (aI e42).2
 refine ae (i43 _ _ _ _ _ _ _ _ _ rfl rfl) (xg (a' := (⟨1, aP.b⟩ : Val)) (vs := [(.int .i64 (1)), (.int .i64 (aP.b))]) h 8 rfl ZR rfl (aI e42).2 bV rfl rfl rfl rfl rfl fun w h Qt => ah (aA ?_))
 replace h := h.qQ 2 3 8 ({ x3 with at_ := (min (x3.at_ + 1) ((aW.code.length : Int) - 1)), regs := (x3.regs.set (aP.a).toNat (⟨1, aP.b⟩ : Val)) }) rfl rfl rfl (by decide) (by decide) (by decide) (j4 (aI e4).2) e9 rfl
 refine az ?_
 exact bU (false, fw, fF, ((sx.frames.set (((sx.frames.length : Int) - 1)).toNat ({ x3 with at_ := (min (x3.at_ + 1) ((aW.code.length : Int) - 1)) })).set (((sx.frames.length : Int) - 1)).toNat ({ x3 with at_ := (min (x3.at_ + 1) ((aW.code.length : Int) - 1)), regs := (x3.regs.set (aP.a).toNat (⟨1, aP.b⟩ : Val)) })), vs1, fq, sx.cells, sx.status, sx.aV) ⟨h.cn _, hs⟩
 refine ai (ag (ae (bJ rfl rfl) (ae (aj (v := (.bool (decide ((aP.op : Int) = 2)))) rfl) (ah (aa (aN hs rfl (fun Y9 hs => ?_) (fun Y9 hs => ?_)))))))
 refine qP 9 mixed (by kernel_rfl) h fun w h => aJ (au (v := u8) rfl) (aJ (ak kv rfl) (aJ (aD h 177 rfl aZ rfl rfl) (aJ (au (v := u8) rfl) (aJ (ak iX rfl) (aJ (aD h 177 rfl aZ rfl rfl) ?_)))))
 obtain ⟨ze, e49, hs⟩ := aQ hs
 obtain ⟨b51, q52, i50⟩ := h.uR 8 rfl bK rfl (aI e49).1 (aI e49).2
 refine aJ (i50 _ _ _ _ _ _ _ _ _ rfl rfl) ?_
 obtain ⟨cs53, m54, r55⟩ := h.xc 8 rfl q52 (aI e49).2
 obtain rfl := r55
 refine aJ (mM (k := 0) (vs := [(.int .i64 (ze.kind)), (.int .i64 (ze.n))]) m54 bV rfl rfl rfl (Nat.le_of_ble_eq_true rfl)) ?_
 obtain ⟨x56, e57, hs⟩ := aQ hs
 obtain ⟨b59, q60, i58⟩ := h.uR 8 rfl bK rfl (aI e57).1 (aI e57).2
 refine aJ (i58 _ _ _ _ _ _ _ _ _ rfl rfl) (zi (xg (a' := ze) (vs := [(.int .i64 (ze.kind)), (.int .i64 (ze.n))]) h 8 rfl q60 rfl (aI e57).2 bV rfl rfl rfl rfl rfl fun w h UN => ah (aA ?_)))
 replace h := h.qQ 2 3 8 ({ x3 with at_ := (min (x3.at_ + 1) ((aW.code.length : Int) - 1)), regs := (x3.regs.set (aP.a).toNat ze) }) rfl rfl rfl (by decide) (by decide) (by decide) (j4 (aI e4).2) e9 rfl
 refine az ?_
 exact bU (false, fw, fF, ((sx.frames.set (((sx.frames.length : Int) - 1)).toNat ({ x3 with at_ := (min (x3.at_ + 1) ((aW.code.length : Int) - 1)) })).set (((sx.frames.length : Int) - 1)).toNat ({ x3 with at_ := (min (x3.at_ + 1) ((aW.code.length : Int) - 1)), regs := (x3.regs.set (aP.a).toNat ze) })), vs1, fq, sx.cells, sx.status, sx.aV) ⟨h.cn _, hs⟩
 refine ai (ag (ae (bJ rfl rfl) (ae (aj (v := (.bool (decide ((aP.op : Int) = 3)))) rfl) (ah (aa (aN hs rfl (fun c62 hs => ?_) (fun c62 hs => ?_)))))))
 refine cz (σ := Bool × List LX.Frame) (inl [5, 84, 85, 86, 87, 88, 89, 90, 91, 92, 93, 94, 95, 96, 97, 98, 99, 100, 101, 102, 103, 104, 105]) (fun ⟨pV, Hq⟩ => [(5, (.bool (pV)))]) (fun ⟨pV, Hq⟩ w => SH w0 M K0 w (hset [(1, .blk sb [fw, vs1, (.int .i64 (sx.status)), (.int .i64 (sx.aV))]), (2, .own aB.raw 49 fw (List.zip Hq fF)), (3, .bL (aR aM 51 hn fF (List.map aB.sub Hq))), (4, .own (aT Val).raw 47 vs1 (List.zip sx.cells fq)), (5, .bL (aR aM 51 hn fq (List.map (aT Val).sub sx.cells))), (7, .blk b1 [(.bool (false)), (.int .i64 (0)), (.bool (false))])]) ∧ GA sx pV Hq = some r) ?_ ?_
 rintro ⟨pV, Hq⟩ w dD ⟨h, hs⟩
 refine ai (ag (ae (dE (vs := [(.bool (false)), (.int .i64 (0)), (.bool (false))]) h 7 rfl gF rfl rfl rfl) (ae (au (v := (.bool (pV))) rfl) (dB (vs := [(.bool (false)), (.int .i64 (0)), (.bool (false))]) h 7 [(.bool (false)), (.int .i64 (0)), (.bool (false))] rfl gF rfl rfl rfl rfl rfl (ay rfl (ay rfl (ay rfl bg))) fun w h => ae (aj (v := (.bool (pV))) rfl) (ah (aa (aK (aH (aC (j3 (vs := [(.bool (false)), (.int .i64 (0)), (.bool (false))]) (v2 := (.bool (pV))) Tryz.results65 rfl rfl h 7 rfl gF rfl ?_))))))))))
 replace h := h.pair 1 2 (by decide)
 replace h := h.pair 1 3 (by decide)
 replace h := h.pair 1 4 (by decide)
 replace h := h.pair 1 5 (by decide)
 obtain rfl := Option.some.inj hs
 subst zt
 obtain ⟨o1, o2, o3⟩ := h.qD 1 (C := (.two (.two (.two (.two (.blk sb [fw, vs1, (.int .i64 (sx.status)), (.int .i64 (sx.aV))]) (.own aB.raw 49 fw (List.zip Hq fF))) (.bL (aR aM 51 hn fF (List.map aB.sub Hq)))) (.own (aT Val).raw 47 vs1 (List.zip sx.cells fq))) (.bL (aR aM 51 hn fq (List.map (aT Val).sub sx.cells))) : Chunk)) rfl ⟨⟨⟨⟨trivial, trivial⟩, trivial⟩, trivial⟩, trivial⟩
 exact ⟨o2, fw, vs1, fF, fq, rfl, o1, o3⟩
 refine mf (L := (ob u8)) mixed h fun w h => bu 0 (aL.refl _ _) rfl ax (by kernel_rfl) (by kernel_rfl) (by kernel_rfl) (fun w hk => au (v := u8) rfl) (bu 1 (aL.refl _ _) rfl ax (by kernel_rfl) (by kernel_rfl) (by kernel_rfl) (fun w hk => ak kv rfl) (bu 2 (aL.refl _ _) rfl ax (by kernel_rfl) (by kernel_rfl) (by kernel_rfl) (fun w hk => have h := h.qJ 8 rfl hk; aD h 177 rfl aZ rfl rfl) (bu 3 (aL.refl _ _) rfl ax (by kernel_rfl) (by kernel_rfl) (by kernel_rfl) (fun w hk => ak vH rfl) (bu 4 (aL.refl _ _) rfl ax (by kernel_rfl) (by kernel_rfl) (by kernel_rfl) (fun w hk => have h := h.qJ 8 rfl hk; aD h 177 rfl uq rfl rfl) ?_))))
 obtain ⟨C8, Lr, hs⟩ := aQ hs
 obtain ⟨bq70x5_4, oq70x5_5, Yt, h, SS, SV⟩ := h.Dm 154 275 rfl dC rfl (aI Lr).1 (aI Lr).2
 obtain rfl := SS
 refine bu 5 (aL.refl _ _) rfl ax (by kernel_rfl) (by kernel_rfl) (by kernel_rfl) (fun w hk => SV _ _ _ _ _ _ _ _ _ rfl rfl) (bu 6 (aL.refl _ _) rfl ax (by kernel_rfl) (by kernel_rfl) (by kernel_rfl) (fun w hk => have h := h.qJ 8 rfl hk; eO (k := 0) h 275 rfl aZ rfl rfl) (bu 7 (aL.refl _ _) rfl ax (by kernel_rfl) (by kernel_rfl) (by kernel_rfl) (fun w hk => au (v := u8) rfl) (bu 8 (aL.refl _ _) rfl ax (by kernel_rfl) (by kernel_rfl) (by kernel_rfl) (fun w hk => ak iX rfl) (bu 9 (aL.refl _ _) rfl ax (by kernel_rfl) (by kernel_rfl) (by kernel_rfl) (fun w hk => have h := h.qJ 8 rfl hk; aD h 177 rfl aZ rfl rfl) ?_))))
 obtain ⟨rH, Ba, hs⟩ := aQ hs
 obtain ⟨Yu, IX, P6⟩ := h.uR 8 rfl bK rfl (aI Ba).1 (aI Ba).2
 refine bu 10 (aL.refl _ _) rfl ax (by kernel_rfl) (by kernel_rfl) (by kernel_rfl) (fun w hk => P6 _ _ _ _ _ _ _ _ _ rfl rfl) (bu 12 (aL.refl _ _) rfl ax (by kernel_rfl) (by kernel_rfl) (by kernel_rfl) (fun w hk => au (v := u8) rfl) (bu 13 (aL.refl _ _) rfl ax (by kernel_rfl) (by kernel_rfl) (by kernel_rfl) (fun w hk => ak qo rfl) (bu 14 (aL.refl _ _) rfl ax (by kernel_rfl) (by kernel_rfl) (by kernel_rfl) (fun w hk => have h := h.qJ 8 rfl hk; aD h 177 rfl aZ rfl rfl) ?_)))
 obtain ⟨rJ, Bb, hs⟩ := aQ hs
 obtain ⟨Yv, IY, P7⟩ := h.uR 8 rfl bK rfl (aI Bb).1 (aI Bb).2
 refine bu 15 (aL.refl _ _) rfl ax (by kernel_rfl) (by kernel_rfl) (by kernel_rfl) (fun w hk => P7 _ _ _ _ _ _ _ _ _ rfl rfl) ?_
 obtain ⟨gp, IZ, hs⟩ := aQ hs
 obtain ⟨PT, vT, hs⟩ := aQ hs
 obtain ⟨ws71, VJ⟩ : ∃ x, x = w := ⟨_, rfl⟩
 have uO : aL (ob u8) ws71 w := VJ ▸ aL.refl (ob u8) w
 refine rW VJ.symm (oF 11 16 (by kernel_rfl) rfl ax rfl ax ?_ ?_)
 obtain ⟨Ns, El, Em⟩ := h.xc 8 rfl IX (aI Ba).2
 obtain rfl := Em
 refine ae (mM (k := 0) (vs := [(.int .i64 (rH.kind)), (.int .i64 (rH.n))]) El bV rfl rfl rfl (Nat.le_of_ble_eq_true rfl)) (ah (aX uO (bS 16 (by kernel_rfl) rfl ax ?_)))
 obtain ⟨Nt, En, Eo⟩ := h.xc 8 rfl IY (aI Bb).2
 obtain rfl := Eo
 refine ae (mM (k := 0) (vs := [(.int .i64 (rJ.kind)), (.int .i64 (rJ.n))]) En bV rfl rfl rfl (Nat.le_of_ble_eq_true rfl)) (ah (aX uO (bS 17 (by kernel_rfl) rfl ax (bA Rl rfl rfl (Ou _ _ h.lt C8 rH rJ _ IZ) ?_))))
 rintro _ w ⟨yw, rfl⟩
 refine ⟨_, rfl, ?_⟩
 replace h := h.grow yw
 replace uO := uO.grow yw
 refine ah (aX uO (bu 18 uO rfl ax (by kernel_rfl) (by kernel_rfl) (by kernel_rfl) (fun w hk => au (v := (.tuple #[(.agg #[(.int .i64 (gp.1.kind)), (.int .i64 (gp.1.n))]), (.bool (gp.2))])) rfl) (bu 19 uO rfl ax (by kernel_rfl) (by kernel_rfl) (by kernel_rfl) (fun w hk => bF rfl rfl) (bu 20 uO rfl ax (by kernel_rfl) (by kernel_rfl) (by kernel_rfl) (fun w hk => bF rfl rfl) ?_))))
 obtain ⟨P8, Ep, Er⟩ := h.uR 8 rfl bK rfl (aI vT).1 (aI vT).2
 refine bu 21 uO rfl ax (by kernel_rfl) (by kernel_rfl) (by kernel_rfl) (fun w hk => Er _ _ _ _ _ _ _ _ _ rfl rfl) (bS 22 (by kernel_rfl) rfl ax (xg (a' := gp.1) (vs := [(.int .i64 (gp.1.kind)), (.int .i64 (gp.1.n))]) h 8 rfl Ep rfl (aI vT).2 bV rfl rfl rfl rfl rfl fun w h Et => ?_))
 replace uO := uO.same Et
 refine ah (aX uO (bu 23 uO rfl ax (by kernel_rfl) (by kernel_rfl) (by kernel_rfl) (fun w hk => aj (v := (.bool (gp.2))) rfl) (gJ (by kernel_rfl) ?_)))
 replace h := h.qQ 2 3 8 ({ x3 with at_ := (min (x3.at_ + 1) ((aW.code.length : Int) - 1)), regs := (x3.regs.set (aP.a).toNat gp.1) }) rfl rfl rfl (by decide) (by decide) (by decide) (j4 (aI e4).2) e9 rfl
 refine az ?_
 exact bU (gp.2, ((sx.frames.set (((sx.frames.length : Int) - 1)).toNat ({ x3 with at_ := (min (x3.at_ + 1) ((aW.code.length : Int) - 1)) })).set (((sx.frames.length : Int) - 1)).toNat ({ x3 with at_ := (min (x3.at_ + 1) ((aW.code.length : Int) - 1)), regs := (x3.regs.set (aP.a).toNat gp.1) }))) ⟨h.cn _, hs⟩
 obtain ⟨Nt, En, Eo⟩ := h.xc 8 rfl IY (aI Bb).2
 obtain rfl := Eo
 refine ae (mM (k := 0) (vs := [(.int .i64 (rJ.kind)), (.int .i64 (rJ.n))]) En bV rfl rfl rfl (Nat.le_of_ble_eq_true rfl)) (ah (aX uO (bS 11 (by kernel_rfl) rfl ax ?_)))
 obtain ⟨Ns, El, Em⟩ := h.xc 8 rfl IX (aI Ba).2
 obtain rfl := Em
 refine ae (mM (k := 0) (vs := [(.int .i64 (rH.kind)), (.int .i64 (rH.n))]) El bV rfl rfl rfl (Nat.le_of_ble_eq_true rfl)) (ah (aX uO (bS 17 (by kernel_rfl) rfl ax (bA Rl rfl rfl (Ou _ _ h.lt C8 rH rJ _ IZ) ?_))))
 rintro _ w ⟨yw, rfl⟩
 refine ⟨_, rfl, ?_⟩
 replace h := h.grow yw
 replace uO := uO.grow yw
 refine ah (aX uO (bu 18 uO rfl ax (by kernel_rfl) (by kernel_rfl) (by kernel_rfl) (fun w hk => au (v := (.tuple #[(.agg #[(.int .i64 (gp.1.kind)), (.int .i64 (gp.1.n))]), (.bool (gp.2))])) rfl) (bu 19 uO rfl ax (by kernel_rfl) (by kernel_rfl) (by kernel_rfl) (fun w hk => bF rfl rfl) (bu 20 uO rfl ax (by kernel_rfl) (by kernel_rfl) (by kernel_rfl) (fun w hk => bF rfl rfl) ?_))))
 obtain ⟨P8, Ep, Er⟩ := h.uR 8 rfl bK rfl (aI vT).1 (aI vT).2
 refine bu 21 uO rfl ax (by kernel_rfl) (by kernel_rfl) (by kernel_rfl) (fun w hk => Er _ _ _ _ _ _ _ _ _ rfl rfl) (bS 22 (by kernel_rfl) rfl ax (xg (a' := gp.1) (vs := [(.int .i64 (gp.1.kind)), (.int .i64 (gp.1.n))]) h 8 rfl Ep rfl (aI vT).2 bV rfl rfl rfl rfl rfl fun w h Et => ?_))
 replace uO := uO.same Et
 refine ah (aX uO (bu 23 uO rfl ax (by kernel_rfl) (by kernel_rfl) (by kernel_rfl) (fun w hk => aj (v := (.bool (gp.2))) rfl) (gJ (by kernel_rfl) ?_)))
 replace h := h.qQ 2 3 8 ({ x3 with at_ := (min (x3.at_ + 1) ((aW.code.length : Int) - 1)), regs := (x3.regs.set (aP.a).toNat gp.1) }) rfl rfl rfl (by decide) (by decide) (by decide) (j4 (aI e4).2) e9 rfl
 refine az ?_
 exact bU (gp.2, ((sx.frames.set (((sx.frames.length : Int) - 1)).toNat ({ x3 with at_ := (min (x3.at_ + 1) ((aW.code.length : Int) - 1)) })).set (((sx.frames.length : Int) - 1)).toNat ({ x3 with at_ := (min (x3.at_ + 1) ((aW.code.length : Int) - 1)), regs := (x3.regs.set (aP.a).toNat gp.1) }))) ⟨h.cn _, hs⟩
 refine cz (σ := Bool) (inl [108, 109, 110]) (fun Yn => [(108, (.bool (Yn)))]) (fun Yn w => SH w0 M K0 w (hset [(1, .blk sb [fw, vs1, (.int .i64 (sx.status)), (.int .i64 (sx.aV))]), (2, .own aB.raw 49 fw (List.zip (sx.frames.set (((sx.frames.length : Int) - 1)).toNat ({ x3 with at_ := (min (x3.at_ + 1) ((aW.code.length : Int) - 1)) })) fF)), (3, .bL (aR aM 51 (hat (((sx.frames.length : Int) - 1)).toNat) fF (List.map aB.sub (sx.frames.set (((sx.frames.length : Int) - 1)).toNat ({ x3 with at_ := (min (x3.at_ + 1) ((aW.code.length : Int) - 1)) }))))), (4, .own (aT Val).raw 47 vs1 (List.zip sx.cells fq)), (5, .bL (aR aM 51 hn fq (List.map (aT Val).sub sx.cells))), (6, .rd kF va a), (7, .blk b1 [(.bool (false)), (.int .i64 (0)), (.bool (false))]), (8, .own aM 51 u8 x3.regs), (154, .rd fT jZ aP.args), (177, .blk IW [(.int .i64 (aP.op)), (.int .i64 (aP.a)), (.int .i64 (aP.b)), (.int .i64 (aP.c)), jZ])]) ∧ Cc N sx x3 aW aP a Yn = some r) ?_ ?_
 rintro Yn w dD ⟨h, hs⟩
 refine aN hs rfl (fun Zm hs => ?_) (fun Zm hs => ?_)
 refine ai ?_
 replace h := h.iO 3 8 rfl rfl (by decide) (j4 (aI e4).2) e9 rfl
 refine mf (L := (fun b => Chunk.own' (.two (.two (.two (.two (.blk sb [fw, vs1, (.int .i64 (sx.status)), (.int .i64 (sx.aV))]) (.own aB.raw 49 fw (List.zip (sx.frames.set (((sx.frames.length : Int) - 1)).toNat ({ x3 with at_ := (min (x3.at_ + 1) ((aW.code.length : Int) - 1)) })) fF))) (.bL (aR aM 51 hn fF (List.map aB.sub (sx.frames.set (((sx.frames.length : Int) - 1)).toNat ({ x3 with at_ := (min (x3.at_ + 1) ((aW.code.length : Int) - 1)) })))))) (.own (aT Val).raw 47 vs1 (List.zip sx.cells fq))) (.bL (aR aM 51 hn fq (List.map (aT Val).sub sx.cells))) : Chunk) b ∨ b = b1)) mixed h fun w h => bu 1 (aL.refl _ _) rfl ax (by kernel_rfl) (by kernel_rfl) (by kernel_rfl) (fun w hk => au (v := (.pointer (some ⟨sb, 0, none⟩))) rfl) (bu 2 (aL.refl _ _) rfl ax (by kernel_rfl) (by kernel_rfl) (by kernel_rfl) (fun w hk => have h := ((((h.pair 1 2 (by decide)).pair 1 3 (by decide)).pair 1 4 (by decide)).pair 1 5 (by decide)).Dv 1 7 (by decide) rfl rfl hk; dE (vs := [(.int .i64 (aP.op)), (.int .i64 (aP.a)), (.int .i64 (aP.b)), (.int .i64 (aP.c)), jZ]) h 177 rfl pK rfl rfl rfl) (bu 3 (aL.refl _ _) rfl ax (by kernel_rfl) (by kernel_rfl) (by kernel_rfl) (fun w hk => au (v := u8) rfl) ?_))
 obtain ⟨eT, Ls, hs⟩ := aQ hs
 obtain ⟨ws86, VK⟩ : ∃ x, x = w := ⟨_, rfl⟩
 have Bh : aL (fun b => Chunk.own' (.two (.two (.two (.two (.blk sb [fw, vs1, (.int .i64 (sx.status)), (.int .i64 (sx.aV))]) (.own aB.raw 49 fw (List.zip (sx.frames.set (((sx.frames.length : Int) - 1)).toNat ({ x3 with at_ := (min (x3.at_ + 1) ((aW.code.length : Int) - 1)) })) fF))) (.bL (aR aM 51 hn fF (List.map aB.sub (sx.frames.set (((sx.frames.length : Int) - 1)).toNat ({ x3 with at_ := (min (x3.at_ + 1) ((aW.code.length : Int) - 1)) })))))) (.own (aT Val).raw 47 vs1 (List.zip sx.cells fq))) (.bL (aR aM 51 hn fq (List.map (aT Val).sub sx.cells))) : Chunk) b ∨ b = b1) ws86 w := VK ▸ aL.refl (fun b => Chunk.own' (.two (.two (.two (.two (.blk sb [fw, vs1, (.int .i64 (sx.status)), (.int .i64 (sx.aV))]) (.own aB.raw 49 fw (List.zip (sx.frames.set (((sx.frames.length : Int) - 1)).toNat ({ x3 with at_ := (min (x3.at_ + 1) ((aW.code.length : Int) - 1)) })) fF))) (.bL (aR aM 51 hn fF (List.map aB.sub (sx.frames.set (((sx.frames.length : Int) - 1)).toNat ({ x3 with at_ := (min (x3.at_ + 1) ((aW.code.length : Int) - 1)) })))))) (.own (aT Val).raw 47 vs1 (List.zip sx.cells fq))) (.bL (aR aM 51 hn fq (List.map (aT Val).sub sx.cells))) : Chunk) b ∨ b = b1) w
 refine rW VK.symm (oF 0 4 (by kernel_rfl) rfl ax rfl ax ?_ ?_)
 refine ae (dE (vs := [(.bool (false)), (.int .i64 (0)), (.bool (false))]) h 7 rfl gF rfl rfl rfl) (ah (aX Bh (bS 4 (by kernel_rfl) rfl ax ?_)))
 replace h := h.pair 1 2 (by decide)
 replace h := h.pair 1 3 (by decide)
 replace h := h.pair 1 4 (by decide)
 replace h := h.pair 1 5 (by decide)
 obtain ⟨Eu, Ev, Ew⟩ := h.vY 1 (C := (.two (.two (.two (.two (.blk sb [fw, vs1, (.int .i64 (sx.status)), (.int .i64 (sx.aV))]) (.own aB.raw 49 fw (List.zip (sx.frames.set (((sx.frames.length : Int) - 1)).toNat ({ x3 with at_ := (min (x3.at_ + 1) ((aW.code.length : Int) - 1)) })) fF))) (.bL (aR aM 51 hn fF (List.map aB.sub (sx.frames.set (((sx.frames.length : Int) - 1)).toNat ({ x3 with at_ := (min (x3.at_ + 1) ((aW.code.length : Int) - 1)) })))))) (.own (aT Val).raw 47 vs1 (List.zip sx.cells fq))) (.bL (aR aM 51 hn fq (List.map (aT Val).sub sx.cells))) : Chunk)) rfl ⟨⟨⟨⟨trivial, trivial⟩, trivial⟩, trivial⟩, trivial⟩
 refine bA Rm rfl rfl (Gp _ _ Ew sb (⟨(sx.frames.set (((sx.frames.length : Int) - 1)).toNat ({ x3 with at_ := (min (x3.at_ + 1) ((aW.code.length : Int) - 1)) })), sx.cells, sx.status, sx.aV⟩ : LX.State) fw vs1 fF fq Eu Ev aP jZ (h.N9 1 154 rfl rfl) ((sx.frames.length : Int) - 1) ({ x3 with at_ := (min (x3.at_ + 1) ((aW.code.length : Int) - 1)) }) (aI e4).1 (j4 (aI e4).2) u8 e9 _ Ls) ?_
 rintro _ w ⟨Ah, qd, qf, nA, nC, rfl, GD, Ex⟩
 refine ⟨_, rfl, ?_⟩
 replace h := h.back 1 (C := (.two (.two (.two (.two (.blk sb [fw, vs1, (.int .i64 (sx.status)), (.int .i64 (sx.aV))]) (.own aB.raw 49 fw (List.zip (sx.frames.set (((sx.frames.length : Int) - 1)).toNat ({ x3 with at_ := (min (x3.at_ + 1) ((aW.code.length : Int) - 1)) })) fF))) (.bL (aR aM 51 hn fF (List.map aB.sub (sx.frames.set (((sx.frames.length : Int) - 1)).toNat ({ x3 with at_ := (min (x3.at_ + 1) ((aW.code.length : Int) - 1)) })))))) (.own (aT Val).raw 47 vs1 (List.zip sx.cells fq))) (.bL (aR aM 51 hn fq (List.map (aT Val).sub sx.cells))) : Chunk)) (C' := (.two (.two (.two (.two (.blk sb [qd, qf, (.int .i64 (eT.2.status)), (.int .i64 (eT.2.aV))]) (.own aB.raw 49 qd (List.zip eT.2.frames nA))) (.bL (aR aM 51 hn nA (List.map aB.sub eT.2.frames)))) (.own (aT Val).raw 47 qf (List.zip eT.2.cells nC))) (.bL (aR aM 51 hn nC (List.map (aT Val).sub eT.2.cells))) : Chunk)) rfl ⟨⟨⟨⟨trivial, trivial⟩, trivial⟩, trivial⟩, trivial⟩ GD Ah Ex
 replace h := h.bX 1 5 (by decide) rfl rfl
 replace h := h.bX 1 4 (by decide) rfl rfl
 replace h := h.bX 1 3 (by decide) rfl rfl
 replace h := h.bX 1 2 (by decide) rfl rfl
 replace Bh := aL.step Bh Ah (fun _ hx _ => .inl (hx))
 refine ah (aX Bh (bS 5 (by kernel_rfl) rfl ax (xe (vs := [(.bool (false)), (.int .i64 (0)), (.bool (false))]) h 7 [(.bool (false)), (.int .i64 (0)), (.bool (false))] rfl gF rfl rfl rfl rfl rfl (ay rfl (ay rfl (ay rfl bg))) fun w h GG => ?_)))
 replace Bh := aL.step Bh GG (fun _ hx _ => .inr (hx))
 refine ah (aX Bh (bu 6 Bh rfl ax (by kernel_rfl) (by kernel_rfl) (by kernel_rfl) (fun w hk => aj (v := (.bool (eT.1))) rfl) (gJ (by kernel_rfl) (aa (aK (aH (aC (j3 (vs := [(.bool (false)), (.int .i64 (0)), (.bool (false))]) (v2 := (.bool (eT.1))) Tryz.results65 rfl rfl h 7 rfl gF rfl ?_))))))))
 replace h := h.pair 1 2 (by decide)
 replace h := h.pair 1 3 (by decide)
 replace h := h.pair 1 4 (by decide)
 replace h := h.pair 1 5 (by decide)
 obtain rfl := Option.some.inj hs
 subst zt
 obtain ⟨o1, o2, o3⟩ := h.qD 1 (C := (.two (.two (.two (.two (.blk sb [qd, qf, (.int .i64 (eT.2.status)), (.int .i64 (eT.2.aV))]) (.own aB.raw 49 qd (List.zip eT.2.frames nA))) (.bL (aR aM 51 hn nA (List.map aB.sub eT.2.frames)))) (.own (aT Val).raw 47 qf (List.zip eT.2.cells nC))) (.bL (aR aM 51 hn nC (List.map (aT Val).sub eT.2.cells))) : Chunk)) rfl ⟨⟨⟨⟨trivial, trivial⟩, trivial⟩, trivial⟩, trivial⟩
 exact ⟨o2, qd, qf, nA, nC, rfl, o1, o3⟩
 replace h := h.pair 1 2 (by decide)
 replace h := h.pair 1 3 (by decide)
 replace h := h.pair 1 4 (by decide)
 replace h := h.pair 1 5 (by decide)
 obtain ⟨Eu, Ev, Ew⟩ := h.vY 1 (C := (.two (.two (.two (.two (.blk sb [fw, vs1, (.int .i64 (sx.status)), (.int .i64 (sx.aV))]) (.own aB.raw 49 fw (List.zip (sx.frames.set (((sx.frames.length : Int) - 1)).toNat ({ x3 with at_ := (min (x3.at_ + 1) ((aW.code.length : Int) - 1)) })) fF))) (.bL (aR aM 51 hn fF (List.map aB.sub (sx.frames.set (((sx.frames.length : Int) - 1)).toNat ({ x3 with at_ := (min (x3.at_ + 1) ((aW.code.length : Int) - 1)) })))))) (.own (aT Val).raw 47 vs1 (List.zip sx.cells fq))) (.bL (aR aM 51 hn fq (List.map (aT Val).sub sx.cells))) : Chunk)) rfl ⟨⟨⟨⟨trivial, trivial⟩, trivial⟩, trivial⟩, trivial⟩
 refine bA Rm rfl rfl (Gp _ _ Ew sb (⟨(sx.frames.set (((sx.frames.length : Int) - 1)).toNat ({ x3 with at_ := (min (x3.at_ + 1) ((aW.code.length : Int) - 1)) })), sx.cells, sx.status, sx.aV⟩ : LX.State) fw vs1 fF fq Eu Ev aP jZ (h.N9 1 154 rfl rfl) ((sx.frames.length : Int) - 1) ({ x3 with at_ := (min (x3.at_ + 1) ((aW.code.length : Int) - 1)) }) (aI e4).1 (j4 (aI e4).2) u8 e9 _ Ls) ?_
 rintro _ w ⟨Ah, qd, qf, nA, nC, rfl, GD, Ex⟩
 refine ⟨_, rfl, ?_⟩
 replace h := h.back 1 (C := (.two (.two (.two (.two (.blk sb [fw, vs1, (.int .i64 (sx.status)), (.int .i64 (sx.aV))]) (.own aB.raw 49 fw (List.zip (sx.frames.set (((sx.frames.length : Int) - 1)).toNat ({ x3 with at_ := (min (x3.at_ + 1) ((aW.code.length : Int) - 1)) })) fF))) (.bL (aR aM 51 hn fF (List.map aB.sub (sx.frames.set (((sx.frames.length : Int) - 1)).toNat ({ x3 with at_ := (min (x3.at_ + 1) ((aW.code.length : Int) - 1)) })))))) (.own (aT Val).raw 47 vs1 (List.zip sx.cells fq))) (.bL (aR aM 51 hn fq (List.map (aT Val).sub sx.cells))) : Chunk)) (C' := (.two (.two (.two (.two (.blk sb [qd, qf, (.int .i64 (eT.2.status)), (.int .i64 (eT.2.aV))]) (.own aB.raw 49 qd (List.zip eT.2.frames nA))) (.bL (aR aM 51 hn nA (List.map aB.sub eT.2.frames)))) (.own (aT Val).raw 47 qf (List.zip eT.2.cells nC))) (.bL (aR aM 51 hn nC (List.map (aT Val).sub eT.2.cells))) : Chunk)) rfl ⟨⟨⟨⟨trivial, trivial⟩, trivial⟩, trivial⟩, trivial⟩ GD Ah Ex
 replace h := h.bX 1 5 (by decide) rfl rfl
 replace h := h.bX 1 4 (by decide) rfl rfl
 replace h := h.bX 1 3 (by decide) rfl rfl
 replace h := h.bX 1 2 (by decide) rfl rfl
 replace Bh := aL.step Bh Ah (fun _ hx _ => .inl (hx))
 refine ah (aX Bh (bS 0 (by kernel_rfl) rfl ax (ae (dE (vs := [(.bool (false)), (.int .i64 (0)), (.bool (false))]) h 7 rfl gF rfl rfl rfl) (ah (aX Bh (bS 5 (by kernel_rfl) rfl ax (xe (vs := [(.bool (false)), (.int .i64 (0)), (.bool (false))]) h 7 [(.bool (false)), (.int .i64 (0)), (.bool (false))] rfl gF rfl rfl rfl rfl rfl (ay rfl (ay rfl (ay rfl bg))) fun w h GG => ?_)))))))
 replace Bh := aL.step Bh GG (fun _ hx _ => .inr (hx))
 refine ah (aX Bh (bu 6 Bh rfl ax (by kernel_rfl) (by kernel_rfl) (by kernel_rfl) (fun w hk => aj (v := (.bool (eT.1))) rfl) (gJ (by kernel_rfl) (aa (aK (aH (aC (j3 (vs := [(.bool (false)), (.int .i64 (0)), (.bool (false))]) (v2 := (.bool (eT.1))) Tryz.results65 rfl rfl h 7 rfl gF rfl ?_))))))))
 replace h := h.pair 1 2 (by decide)
 replace h := h.pair 1 3 (by decide)
 replace h := h.pair 1 4 (by decide)
 replace h := h.pair 1 5 (by decide)
 obtain rfl := Option.some.inj hs
 subst zt
 obtain ⟨o1, o2, o3⟩ := h.qD 1 (C := (.two (.two (.two (.two (.blk sb [qd, qf, (.int .i64 (eT.2.status)), (.int .i64 (eT.2.aV))]) (.own aB.raw 49 qd (List.zip eT.2.frames nA))) (.bL (aR aM 51 hn nA (List.map aB.sub eT.2.frames)))) (.own (aT Val).raw 47 qf (List.zip eT.2.cells nC))) (.bL (aR aM 51 hn nC (List.map (aT Val).sub eT.2.cells))) : Chunk)) rfl ⟨⟨⟨⟨trivial, trivial⟩, trivial⟩, trivial⟩, trivial⟩
 exact ⟨o2, qd, qf, nA, nC, rfl, o1, o3⟩
 refine ai (ag (ae (bJ rfl rfl) (ae (aj (v := (.bool (decide ((aP.op : Int) = 5)))) rfl) (ah (aa (aN hs rfl (fun c88 hs => ?_) (fun c88 hs => ?_)))))))
 refine ai ?_
 replace h := h.iO 3 8 rfl rfl (by decide) (j4 (aI e4).2) e9 rfl
 refine mf (L := (fun b => Chunk.own' (.two (.two (.two (.two (.blk sb [fw, vs1, (.int .i64 (sx.status)), (.int .i64 (sx.aV))]) (.own aB.raw 49 fw (List.zip (sx.frames.set (((sx.frames.length : Int) - 1)).toNat ({ x3 with at_ := (min (x3.at_ + 1) ((aW.code.length : Int) - 1)) })) fF))) (.bL (aR aM 51 hn fF (List.map aB.sub (sx.frames.set (((sx.frames.length : Int) - 1)).toNat ({ x3 with at_ := (min (x3.at_ + 1) ((aW.code.length : Int) - 1)) })))))) (.own (aT Val).raw 47 vs1 (List.zip sx.cells fq))) (.bL (aR aM 51 hn fq (List.map (aT Val).sub sx.cells))) : Chunk) b ∨ b = b1)) mixed h fun w h => bu 1 (aL.refl _ _) rfl ax (by kernel_rfl) (by kernel_rfl) (by kernel_rfl) (fun w hk => au (v := (.pointer (some ⟨sb, 0, none⟩))) rfl) (bu 2 (aL.refl _ _) rfl ax (by kernel_rfl) (by kernel_rfl) (by kernel_rfl) (fun w hk => have h := ((((h.pair 1 2 (by decide)).pair 1 3 (by decide)).pair 1 4 (by decide)).pair 1 5 (by decide)).Dv 1 7 (by decide) rfl rfl hk; dE (vs := [(.int .i64 (aP.op)), (.int .i64 (aP.a)), (.int .i64 (aP.b)), (.int .i64 (aP.c)), jZ]) h 177 rfl pK rfl rfl rfl) ?_)
 obtain ⟨eU, Lt, hs⟩ := aQ hs
 obtain ⟨ws100, SX⟩ : ∃ x, x = w := ⟨_, rfl⟩
 have vB : aL (fun b => Chunk.own' (.two (.two (.two (.two (.blk sb [fw, vs1, (.int .i64 (sx.status)), (.int .i64 (sx.aV))]) (.own aB.raw 49 fw (List.zip (sx.frames.set (((sx.frames.length : Int) - 1)).toNat ({ x3 with at_ := (min (x3.at_ + 1) ((aW.code.length : Int) - 1)) })) fF))) (.bL (aR aM 51 hn fF (List.map aB.sub (sx.frames.set (((sx.frames.length : Int) - 1)).toNat ({ x3 with at_ := (min (x3.at_ + 1) ((aW.code.length : Int) - 1)) })))))) (.own (aT Val).raw 47 vs1 (List.zip sx.cells fq))) (.bL (aR aM 51 hn fq (List.map (aT Val).sub sx.cells))) : Chunk) b ∨ b = b1) ws100 w := SX ▸ aL.refl (fun b => Chunk.own' (.two (.two (.two (.two (.blk sb [fw, vs1, (.int .i64 (sx.status)), (.int .i64 (sx.aV))]) (.own aB.raw 49 fw (List.zip (sx.frames.set (((sx.frames.length : Int) - 1)).toNat ({ x3 with at_ := (min (x3.at_ + 1) ((aW.code.length : Int) - 1)) })) fF))) (.bL (aR aM 51 hn fF (List.map aB.sub (sx.frames.set (((sx.frames.length : Int) - 1)).toNat ({ x3 with at_ := (min (x3.at_ + 1) ((aW.code.length : Int) - 1)) })))))) (.own (aT Val).raw 47 vs1 (List.zip sx.cells fq))) (.bL (aR aM 51 hn fq (List.map (aT Val).sub sx.cells))) : Chunk) b ∨ b = b1) w
 refine rW SX.symm (oF 0 3 (by kernel_rfl) rfl ax rfl ax ?_ ?_)
 refine ae (dE (vs := [(.bool (false)), (.int .i64 (0)), (.bool (false))]) h 7 rfl gF rfl rfl rfl) (ah (aX vB (bS 3 (by kernel_rfl) rfl ax ?_)))
 replace h := h.pair 1 2 (by decide)
 replace h := h.pair 1 3 (by decide)
 replace h := h.pair 1 4 (by decide)
 replace h := h.pair 1 5 (by decide)
 obtain ⟨Ey, Ez, EA⟩ := h.vY 1 (C := (.two (.two (.two (.two (.blk sb [fw, vs1, (.int .i64 (sx.status)), (.int .i64 (sx.aV))]) (.own aB.raw 49 fw (List.zip (sx.frames.set (((sx.frames.length : Int) - 1)).toNat ({ x3 with at_ := (min (x3.at_ + 1) ((aW.code.length : Int) - 1)) })) fF))) (.bL (aR aM 51 hn fF (List.map aB.sub (sx.frames.set (((sx.frames.length : Int) - 1)).toNat ({ x3 with at_ := (min (x3.at_ + 1) ((aW.code.length : Int) - 1)) })))))) (.own (aT Val).raw 47 vs1 (List.zip sx.cells fq))) (.bL (aR aM 51 hn fq (List.map (aT Val).sub sx.cells))) : Chunk)) rfl ⟨⟨⟨⟨trivial, trivial⟩, trivial⟩, trivial⟩, trivial⟩
 refine bA Rn rfl rfl (Gt N _ _ EA sb (⟨(sx.frames.set (((sx.frames.length : Int) - 1)).toNat ({ x3 with at_ := (min (x3.at_ + 1) ((aW.code.length : Int) - 1)) })), sx.cells, sx.status, sx.aV⟩ : LX.State) fw vs1 fF fq Ey Ez aP jZ (h.N9 1 154 rfl rfl) _ Lt) ?_
 rintro _ w ⟨Ai, qg, qh, nD, nE, rfl, GH, EB⟩
 refine ⟨_, rfl, ?_⟩
 replace h := h.back 1 (C := (.two (.two (.two (.two (.blk sb [fw, vs1, (.int .i64 (sx.status)), (.int .i64 (sx.aV))]) (.own aB.raw 49 fw (List.zip (sx.frames.set (((sx.frames.length : Int) - 1)).toNat ({ x3 with at_ := (min (x3.at_ + 1) ((aW.code.length : Int) - 1)) })) fF))) (.bL (aR aM 51 hn fF (List.map aB.sub (sx.frames.set (((sx.frames.length : Int) - 1)).toNat ({ x3 with at_ := (min (x3.at_ + 1) ((aW.code.length : Int) - 1)) })))))) (.own (aT Val).raw 47 vs1 (List.zip sx.cells fq))) (.bL (aR aM 51 hn fq (List.map (aT Val).sub sx.cells))) : Chunk)) (C' := (.two (.two (.two (.two (.blk sb [qg, qh, (.int .i64 (eU.2.status)), (.int .i64 (eU.2.aV))]) (.own aB.raw 49 qg (List.zip eU.2.frames nD))) (.bL (aR aM 51 hn nD (List.map aB.sub eU.2.frames)))) (.own (aT Val).raw 47 qh (List.zip eU.2.cells nE))) (.bL (aR aM 51 hn nE (List.map (aT Val).sub eU.2.cells))) : Chunk)) rfl ⟨⟨⟨⟨trivial, trivial⟩, trivial⟩, trivial⟩, trivial⟩ GH Ai EB
 replace h := h.bX 1 5 (by decide) rfl rfl
 replace h := h.bX 1 4 (by decide) rfl rfl
 replace h := h.bX 1 3 (by decide) rfl rfl
 replace h := h.bX 1 2 (by decide) rfl rfl
 replace vB := aL.step vB Ai (fun _ hx _ => .inl (hx))
 refine ah (aX vB (bS 4 (by kernel_rfl) rfl ax (xe (vs := [(.bool (false)), (.int .i64 (0)), (.bool (false))]) h 7 [(.bool (false)), (.int .i64 (0)), (.bool (false))] rfl gF rfl rfl rfl rfl rfl (ay rfl (ay rfl (ay rfl bg))) fun w h GI => ?_)))
 replace vB := aL.step vB GI (fun _ hx _ => .inr (hx))
 refine ah (aX vB (bu 5 vB rfl ax (by kernel_rfl) (by kernel_rfl) (by kernel_rfl) (fun w hk => aj (v := (.bool (eU.1))) rfl) (gJ (by kernel_rfl) (aa (aK (aH (aC (j3 (vs := [(.bool (false)), (.int .i64 (0)), (.bool (false))]) (v2 := (.bool (eU.1))) Tryz.results65 rfl rfl h 7 rfl gF rfl ?_))))))))
 replace h := h.pair 1 2 (by decide)
 replace h := h.pair 1 3 (by decide)
 replace h := h.pair 1 4 (by decide)
 replace h := h.pair 1 5 (by decide)
 obtain rfl := Option.some.inj hs
 subst zt
 obtain ⟨o1, o2, o3⟩ := h.qD 1 (C := (.two (.two (.two (.two (.blk sb [qg, qh, (.int .i64 (eU.2.status)), (.int .i64 (eU.2.aV))]) (.own aB.raw 49 qg (List.zip eU.2.frames nD))) (.bL (aR aM 51 hn nD (List.map aB.sub eU.2.frames)))) (.own (aT Val).raw 47 qh (List.zip eU.2.cells nE))) (.bL (aR aM 51 hn nE (List.map (aT Val).sub eU.2.cells))) : Chunk)) rfl ⟨⟨⟨⟨trivial, trivial⟩, trivial⟩, trivial⟩, trivial⟩
 exact ⟨o2, qg, qh, nD, nE, rfl, o1, o3⟩
 replace h := h.pair 1 2 (by decide)
 replace h := h.pair 1 3 (by decide)
 replace h := h.pair 1 4 (by decide)
 replace h := h.pair 1 5 (by decide)
 obtain ⟨Ey, Ez, EA⟩ := h.vY 1 (C := (.two (.two (.two (.two (.blk sb [fw, vs1, (.int .i64 (sx.status)), (.int .i64 (sx.aV))]) (.own aB.raw 49 fw (List.zip (sx.frames.set (((sx.frames.length : Int) - 1)).toNat ({ x3 with at_ := (min (x3.at_ + 1) ((aW.code.length : Int) - 1)) })) fF))) (.bL (aR aM 51 hn fF (List.map aB.sub (sx.frames.set (((sx.frames.length : Int) - 1)).toNat ({ x3 with at_ := (min (x3.at_ + 1) ((aW.code.length : Int) - 1)) })))))) (.own (aT Val).raw 47 vs1 (List.zip sx.cells fq))) (.bL (aR aM 51 hn fq (List.map (aT Val).sub sx.cells))) : Chunk)) rfl ⟨⟨⟨⟨trivial, trivial⟩, trivial⟩, trivial⟩, trivial⟩
 refine bA Rn rfl rfl (Gt N _ _ EA sb (⟨(sx.frames.set (((sx.frames.length : Int) - 1)).toNat ({ x3 with at_ := (min (x3.at_ + 1) ((aW.code.length : Int) - 1)) })), sx.cells, sx.status, sx.aV⟩ : LX.State) fw vs1 fF fq Ey Ez aP jZ (h.N9 1 154 rfl rfl) _ Lt) ?_
 rintro _ w ⟨Ai, qg, qh, nD, nE, rfl, GH, EB⟩
 refine ⟨_, rfl, ?_⟩
 replace h := h.back 1 (C := (.two (.two (.two (.two (.blk sb [fw, vs1, (.int .i64 (sx.status)), (.int .i64 (sx.aV))]) (.own aB.raw 49 fw (List.zip (sx.frames.set (((sx.frames.length : Int) - 1)).toNat ({ x3 with at_ := (min (x3.at_ + 1) ((aW.code.length : Int) - 1)) })) fF))) (.bL (aR aM 51 hn fF (List.map aB.sub (sx.frames.set (((sx.frames.length : Int) - 1)).toNat ({ x3 with at_ := (min (x3.at_ + 1) ((aW.code.length : Int) - 1)) })))))) (.own (aT Val).raw 47 vs1 (List.zip sx.cells fq))) (.bL (aR aM 51 hn fq (List.map (aT Val).sub sx.cells))) : Chunk)) (C' := (.two (.two (.two (.two (.blk sb [qg, qh, (.int .i64 (eU.2.status)), (.int .i64 (eU.2.aV))]) (.own aB.raw 49 qg (List.zip eU.2.frames nD))) (.bL (aR aM 51 hn nD (List.map aB.sub eU.2.frames)))) (.own (aT Val).raw 47 qh (List.zip eU.2.cells nE))) (.bL (aR aM 51 hn nE (List.map (aT Val).sub eU.2.cells))) : Chunk)) rfl ⟨⟨⟨⟨trivial, trivial⟩, trivial⟩, trivial⟩, trivial⟩ GH Ai EB
 replace h := h.bX 1 5 (by decide) rfl rfl
 replace h := h.bX 1 4 (by decide) rfl rfl
 replace h := h.bX 1 3 (by decide) rfl rfl
 replace h := h.bX 1 2 (by decide) rfl rfl
 replace vB := aL.step vB Ai (fun _ hx _ => .inl (hx))
 refine ah (aX vB (bS 0 (by kernel_rfl) rfl ax (ae (dE (vs := [(.bool (false)), (.int .i64 (0)), (.bool (false))]) h 7 rfl gF rfl rfl rfl) (ah (aX vB (bS 4 (by kernel_rfl) rfl ax (xe (vs := [(.bool (false)), (.int .i64 (0)), (.bool (false))]) h 7 [(.bool (false)), (.int .i64 (0)), (.bool (false))] rfl gF rfl rfl rfl rfl rfl (ay rfl (ay rfl (ay rfl bg))) fun w h GI => ?_)))))))
 replace vB := aL.step vB GI (fun _ hx _ => .inr (hx))
 refine ah (aX vB (bu 5 vB rfl ax (by kernel_rfl) (by kernel_rfl) (by kernel_rfl) (fun w hk => aj (v := (.bool (eU.1))) rfl) (gJ (by kernel_rfl) (aa (aK (aH (aC (j3 (vs := [(.bool (false)), (.int .i64 (0)), (.bool (false))]) (v2 := (.bool (eU.1))) Tryz.results65 rfl rfl h 7 rfl gF rfl ?_))))))))
 replace h := h.pair 1 2 (by decide)
 replace h := h.pair 1 3 (by decide)
 replace h := h.pair 1 4 (by decide)
 replace h := h.pair 1 5 (by decide)
 obtain rfl := Option.some.inj hs
 subst zt
 obtain ⟨o1, o2, o3⟩ := h.qD 1 (C := (.two (.two (.two (.two (.blk sb [qg, qh, (.int .i64 (eU.2.status)), (.int .i64 (eU.2.aV))]) (.own aB.raw 49 qg (List.zip eU.2.frames nD))) (.bL (aR aM 51 hn nD (List.map aB.sub eU.2.frames)))) (.own (aT Val).raw 47 qh (List.zip eU.2.cells nE))) (.bL (aR aM 51 hn nE (List.map (aT Val).sub eU.2.cells))) : Chunk)) rfl ⟨⟨⟨⟨trivial, trivial⟩, trivial⟩, trivial⟩, trivial⟩
 exact ⟨o2, qg, qh, nD, nE, rfl, o1, o3⟩
 refine ai (ag (ae (bJ rfl rfl) (ae (aj (v := (.bool (decide ((aP.op : Int) = 7)))) rfl) (ah (aa (aN hs rfl (fun R3 hs => ?_) (fun R3 hs => ?_)))))))
 refine ai ?_
 replace h := h.iO 3 8 rfl rfl (by decide) (j4 (aI e4).2) e9 rfl
 refine mf (L := (fun b => Chunk.own' (.two (.two (.two (.two (.blk sb [fw, vs1, (.int .i64 (sx.status)), (.int .i64 (sx.aV))]) (.own aB.raw 49 fw (List.zip (sx.frames.set (((sx.frames.length : Int) - 1)).toNat ({ x3 with at_ := (min (x3.at_ + 1) ((aW.code.length : Int) - 1)) })) fF))) (.bL (aR aM 51 hn fF (List.map aB.sub (sx.frames.set (((sx.frames.length : Int) - 1)).toNat ({ x3 with at_ := (min (x3.at_ + 1) ((aW.code.length : Int) - 1)) })))))) (.own (aT Val).raw 47 vs1 (List.zip sx.cells fq))) (.bL (aR aM 51 hn fq (List.map (aT Val).sub sx.cells))) : Chunk) b ∨ b = b1)) mixed h fun w h => bu 1 (aL.refl _ _) rfl ax (by kernel_rfl) (by kernel_rfl) (by kernel_rfl) (fun w hk => au (v := va) rfl) (bu 2 (aL.refl _ _) rfl ax (by kernel_rfl) (by kernel_rfl) (by kernel_rfl) (fun w hk => au (v := (.pointer (some ⟨sb, 0, none⟩))) rfl) (bu 3 (aL.refl _ _) rfl ax (by kernel_rfl) (by kernel_rfl) (by kernel_rfl) (fun w hk => have h := ((((h.pair 1 2 (by decide)).pair 1 3 (by decide)).pair 1 4 (by decide)).pair 1 5 (by decide)).Dv 1 7 (by decide) rfl rfl hk; dE (vs := [(.int .i64 (aP.op)), (.int .i64 (aP.a)), (.int .i64 (aP.b)), (.int .i64 (aP.c)), jZ]) h 177 rfl pK rfl rfl rfl) ?_))
 obtain ⟨dP, I1, hs⟩ := aQ hs
 obtain ⟨ws114, SY⟩ : ∃ x, x = w := ⟨_, rfl⟩
 have vC : aL (fun b => Chunk.own' (.two (.two (.two (.two (.blk sb [fw, vs1, (.int .i64 (sx.status)), (.int .i64 (sx.aV))]) (.own aB.raw 49 fw (List.zip (sx.frames.set (((sx.frames.length : Int) - 1)).toNat ({ x3 with at_ := (min (x3.at_ + 1) ((aW.code.length : Int) - 1)) })) fF))) (.bL (aR aM 51 hn fF (List.map aB.sub (sx.frames.set (((sx.frames.length : Int) - 1)).toNat ({ x3 with at_ := (min (x3.at_ + 1) ((aW.code.length : Int) - 1)) })))))) (.own (aT Val).raw 47 vs1 (List.zip sx.cells fq))) (.bL (aR aM 51 hn fq (List.map (aT Val).sub sx.cells))) : Chunk) b ∨ b = b1) ws114 w := SY ▸ aL.refl (fun b => Chunk.own' (.two (.two (.two (.two (.blk sb [fw, vs1, (.int .i64 (sx.status)), (.int .i64 (sx.aV))]) (.own aB.raw 49 fw (List.zip (sx.frames.set (((sx.frames.length : Int) - 1)).toNat ({ x3 with at_ := (min (x3.at_ + 1) ((aW.code.length : Int) - 1)) })) fF))) (.bL (aR aM 51 hn fF (List.map aB.sub (sx.frames.set (((sx.frames.length : Int) - 1)).toNat ({ x3 with at_ := (min (x3.at_ + 1) ((aW.code.length : Int) - 1)) })))))) (.own (aT Val).raw 47 vs1 (List.zip sx.cells fq))) (.bL (aR aM 51 hn fq (List.map (aT Val).sub sx.cells))) : Chunk) b ∨ b = b1) w
 refine rW SY.symm (oF 0 4 (by kernel_rfl) rfl ax rfl ax ?_ ?_)
 refine ae (dE (vs := [(.bool (false)), (.int .i64 (0)), (.bool (false))]) h 7 rfl gF rfl rfl rfl) (ah (aX vC (bS 4 (by kernel_rfl) rfl ax ?_)))
 replace h := h.pair 1 2 (by decide)
 replace h := h.pair 1 3 (by decide)
 replace h := h.pair 1 4 (by decide)
 replace h := h.pair 1 5 (by decide)
 obtain ⟨Cg, Ch, Ci⟩ := h.vY 1 (C := (.two (.two (.two (.two (.blk sb [fw, vs1, (.int .i64 (sx.status)), (.int .i64 (sx.aV))]) (.own aB.raw 49 fw (List.zip (sx.frames.set (((sx.frames.length : Int) - 1)).toNat ({ x3 with at_ := (min (x3.at_ + 1) ((aW.code.length : Int) - 1)) })) fF))) (.bL (aR aM 51 hn fF (List.map aB.sub (sx.frames.set (((sx.frames.length : Int) - 1)).toNat ({ x3 with at_ := (min (x3.at_ + 1) ((aW.code.length : Int) - 1)) })))))) (.own (aT Val).raw 47 vs1 (List.zip sx.cells fq))) (.bL (aR aM 51 hn fq (List.map (aT Val).sub sx.cells))) : Chunk)) rfl ⟨⟨⟨⟨trivial, trivial⟩, trivial⟩, trivial⟩, trivial⟩
 refine bA Ro rfl rfl (IU _ _ Ci sb (⟨(sx.frames.set (((sx.frames.length : Int) - 1)).toNat ({ x3 with at_ := (min (x3.at_ + 1) ((aW.code.length : Int) - 1)) })), sx.cells, sx.status, sx.aV⟩ : LX.State) fw vs1 fF fq Cg Ch va a (h.N9 1 6 rfl rfl) aP jZ (h.N9 1 154 rfl rfl) _ I1) ?_
 rintro _ w ⟨yx, nG, nH, lI, lJ, rfl, EC, Cj⟩
 refine ⟨_, rfl, ?_⟩
 replace h := h.back 1 (C := (.two (.two (.two (.two (.blk sb [fw, vs1, (.int .i64 (sx.status)), (.int .i64 (sx.aV))]) (.own aB.raw 49 fw (List.zip (sx.frames.set (((sx.frames.length : Int) - 1)).toNat ({ x3 with at_ := (min (x3.at_ + 1) ((aW.code.length : Int) - 1)) })) fF))) (.bL (aR aM 51 hn fF (List.map aB.sub (sx.frames.set (((sx.frames.length : Int) - 1)).toNat ({ x3 with at_ := (min (x3.at_ + 1) ((aW.code.length : Int) - 1)) })))))) (.own (aT Val).raw 47 vs1 (List.zip sx.cells fq))) (.bL (aR aM 51 hn fq (List.map (aT Val).sub sx.cells))) : Chunk)) (C' := (.two (.two (.two (.two (.blk sb [nG, nH, (.int .i64 (dP.2.status)), (.int .i64 (dP.2.aV))]) (.own aB.raw 49 nG (List.zip dP.2.frames lI))) (.bL (aR aM 51 hn lI (List.map aB.sub dP.2.frames)))) (.own (aT Val).raw 47 nH (List.zip dP.2.cells lJ))) (.bL (aR aM 51 hn lJ (List.map (aT Val).sub dP.2.cells))) : Chunk)) rfl ⟨⟨⟨⟨trivial, trivial⟩, trivial⟩, trivial⟩, trivial⟩ EC yx Cj
 replace h := h.bX 1 5 (by decide) rfl rfl
 replace h := h.bX 1 4 (by decide) rfl rfl
 replace h := h.bX 1 3 (by decide) rfl rfl
 replace h := h.bX 1 2 (by decide) rfl rfl
 replace vC := aL.step vC yx (fun _ hx _ => .inl (hx))
 refine ah (aX vC (bS 5 (by kernel_rfl) rfl ax (xe (vs := [(.bool (false)), (.int .i64 (0)), (.bool (false))]) h 7 [(.bool (false)), (.int .i64 (0)), (.bool (false))] rfl gF rfl rfl rfl rfl rfl (ay rfl (ay rfl (ay rfl bg))) fun w h ED => ?_)))
 replace vC := aL.step vC ED (fun _ hx _ => .inr (hx))
 refine ah (aX vC (bu 6 vC rfl ax (by kernel_rfl) (by kernel_rfl) (by kernel_rfl) (fun w hk => aj (v := (.bool (dP.1))) rfl) (gJ (by kernel_rfl) (aa (aK (aH (aC (j3 (vs := [(.bool (false)), (.int .i64 (0)), (.bool (false))]) (v2 := (.bool (dP.1))) Tryz.results65 rfl rfl h 7 rfl gF rfl ?_))))))))
 replace h := h.pair 1 2 (by decide)
 replace h := h.pair 1 3 (by decide)
 replace h := h.pair 1 4 (by decide)
 replace h := h.pair 1 5 (by decide)
 obtain rfl := Option.some.inj hs
 subst zt
 obtain ⟨o1, o2, o3⟩ := h.qD 1 (C := (.two (.two (.two (.two (.blk sb [nG, nH, (.int .i64 (dP.2.status)), (.int .i64 (dP.2.aV))]) (.own aB.raw 49 nG (List.zip dP.2.frames lI))) (.bL (aR aM 51 hn lI (List.map aB.sub dP.2.frames)))) (.own (aT Val).raw 47 nH (List.zip dP.2.cells lJ))) (.bL (aR aM 51 hn lJ (List.map (aT Val).sub dP.2.cells))) : Chunk)) rfl ⟨⟨⟨⟨trivial, trivial⟩, trivial⟩, trivial⟩, trivial⟩
 exact ⟨o2, nG, nH, lI, lJ, rfl, o1, o3⟩
 replace h := h.pair 1 2 (by decide)
 replace h := h.pair 1 3 (by decide)
 replace h := h.pair 1 4 (by decide)
 replace h := h.pair 1 5 (by decide)
 obtain ⟨Cg, Ch, Ci⟩ := h.vY 1 (C := (.two (.two (.two (.two (.blk sb [fw, vs1, (.int .i64 (sx.status)), (.int .i64 (sx.aV))]) (.own aB.raw 49 fw (List.zip (sx.frames.set (((sx.frames.length : Int) - 1)).toNat ({ x3 with at_ := (min (x3.at_ + 1) ((aW.code.length : Int) - 1)) })) fF))) (.bL (aR aM 51 hn fF (List.map aB.sub (sx.frames.set (((sx.frames.length : Int) - 1)).toNat ({ x3 with at_ := (min (x3.at_ + 1) ((aW.code.length : Int) - 1)) })))))) (.own (aT Val).raw 47 vs1 (List.zip sx.cells fq))) (.bL (aR aM 51 hn fq (List.map (aT Val).sub sx.cells))) : Chunk)) rfl ⟨⟨⟨⟨trivial, trivial⟩, trivial⟩, trivial⟩, trivial⟩
 refine bA Ro rfl rfl (IU _ _ Ci sb (⟨(sx.frames.set (((sx.frames.length : Int) - 1)).toNat ({ x3 with at_ := (min (x3.at_ + 1) ((aW.code.length : Int) - 1)) })), sx.cells, sx.status, sx.aV⟩ : LX.State) fw vs1 fF fq Cg Ch va a (h.N9 1 6 rfl rfl) aP jZ (h.N9 1 154 rfl rfl) _ I1) ?_
 rintro _ w ⟨yx, nG, nH, lI, lJ, rfl, EC, Cj⟩
 refine ⟨_, rfl, ?_⟩
 replace h := h.back 1 (C := (.two (.two (.two (.two (.blk sb [fw, vs1, (.int .i64 (sx.status)), (.int .i64 (sx.aV))]) (.own aB.raw 49 fw (List.zip (sx.frames.set (((sx.frames.length : Int) - 1)).toNat ({ x3 with at_ := (min (x3.at_ + 1) ((aW.code.length : Int) - 1)) })) fF))) (.bL (aR aM 51 hn fF (List.map aB.sub (sx.frames.set (((sx.frames.length : Int) - 1)).toNat ({ x3 with at_ := (min (x3.at_ + 1) ((aW.code.length : Int) - 1)) })))))) (.own (aT Val).raw 47 vs1 (List.zip sx.cells fq))) (.bL (aR aM 51 hn fq (List.map (aT Val).sub sx.cells))) : Chunk)) (C' := (.two (.two (.two (.two (.blk sb [nG, nH, (.int .i64 (dP.2.status)), (.int .i64 (dP.2.aV))]) (.own aB.raw 49 nG (List.zip dP.2.frames lI))) (.bL (aR aM 51 hn lI (List.map aB.sub dP.2.frames)))) (.own (aT Val).raw 47 nH (List.zip dP.2.cells lJ))) (.bL (aR aM 51 hn lJ (List.map (aT Val).sub dP.2.cells))) : Chunk)) rfl ⟨⟨⟨⟨trivial, trivial⟩, trivial⟩, trivial⟩, trivial⟩ EC yx Cj
 replace h := h.bX 1 5 (by decide) rfl rfl
 replace h := h.bX 1 4 (by decide) rfl rfl
 replace h := h.bX 1 3 (by decide) rfl rfl
 replace h := h.bX 1 2 (by decide) rfl rfl
 replace vC := aL.step vC yx (fun _ hx _ => .inl (hx))
 refine ah (aX vC (bS 0 (by kernel_rfl) rfl ax (ae (dE (vs := [(.bool (false)), (.int .i64 (0)), (.bool (false))]) h 7 rfl gF rfl rfl rfl) (ah (aX vC (bS 5 (by kernel_rfl) rfl ax (xe (vs := [(.bool (false)), (.int .i64 (0)), (.bool (false))]) h 7 [(.bool (false)), (.int .i64 (0)), (.bool (false))] rfl gF rfl rfl rfl rfl rfl (ay rfl (ay rfl (ay rfl bg))) fun w h ED => ?_)))))))
 replace vC := aL.step vC ED (fun _ hx _ => .inr (hx))
 refine ah (aX vC (bu 6 vC rfl ax (by kernel_rfl) (by kernel_rfl) (by kernel_rfl) (fun w hk => aj (v := (.bool (dP.1))) rfl) (gJ (by kernel_rfl) (aa (aK (aH (aC (j3 (vs := [(.bool (false)), (.int .i64 (0)), (.bool (false))]) (v2 := (.bool (dP.1))) Tryz.results65 rfl rfl h 7 rfl gF rfl ?_))))))))
 replace h := h.pair 1 2 (by decide)
 replace h := h.pair 1 3 (by decide)
 replace h := h.pair 1 4 (by decide)
 replace h := h.pair 1 5 (by decide)
 obtain rfl := Option.some.inj hs
 subst zt
 obtain ⟨o1, o2, o3⟩ := h.qD 1 (C := (.two (.two (.two (.two (.blk sb [nG, nH, (.int .i64 (dP.2.status)), (.int .i64 (dP.2.aV))]) (.own aB.raw 49 nG (List.zip dP.2.frames lI))) (.bL (aR aM 51 hn lI (List.map aB.sub dP.2.frames)))) (.own (aT Val).raw 47 nH (List.zip dP.2.cells lJ))) (.bL (aR aM 51 hn lJ (List.map (aT Val).sub dP.2.cells))) : Chunk)) rfl ⟨⟨⟨⟨trivial, trivial⟩, trivial⟩, trivial⟩, trivial⟩
 exact ⟨o2, nG, nH, lI, lJ, rfl, o1, o3⟩
 refine ai (ag (ae (bJ rfl rfl) (ae (aj (v := (.bool (decide ((aP.op : Int) = 8)))) rfl) (ah (aa (aN hs rfl (fun c116 hs => ?_) (fun c116 hs => ?_)))))))
 refine qP 10 mixed (by kernel_rfl) h fun w h => aJ (au (v := (.pointer (some ⟨sb, 0, none⟩))) rfl) (aJ (au (v := u8) rfl) (aJ (ak kv rfl) (aJ (aD h 177 rfl aZ rfl rfl) ?_)))
 obtain ⟨SF, e118, hs⟩ := aQ hs
 obtain ⟨b120, q121, i119⟩ := h.uR 8 rfl bK rfl (aI e118).1 (aI e118).2
 refine aJ (i119 _ _ _ _ _ _ _ _ _ rfl rfl) ?_
 obtain ⟨cs122, m123, r124⟩ := h.xc 8 rfl q121 (aI e118).2
 obtain rfl := r124
 refine aJ (mM (k := 0) (vs := [(.int .i64 (SF.kind)), (.int .i64 (SF.n))]) m123 bV rfl rfl rfl (Nat.le_of_ble_eq_true rfl)) (aJ (au (v := (.pointer (some ⟨b6, (((sx.frames.length : Int) - 1)).toNat * 4, none⟩))) rfl) (aJ (bT rfl) (aJ (ak wV rfl) ?_)))
 obtain ⟨cs125, m126, r127⟩ := h.xc 2 rfl q7 (fe (j4 (aI e4).2) e9)
 obtain ⟨rfl, -⟩ := r127
 refine aJ (oC (k := 3) m126 aZ rfl rfl) (zi ?_)
 replace h := h.iO 3 8 rfl rfl (by decide) (j4 (aI e4).2) e9 rfl
 replace h := h.pair 1 2 (by decide)
 replace h := h.pair 1 3 (by decide)
 replace h := h.pair 1 4 (by decide)
 replace h := h.pair 1 5 (by decide)
 obtain ⟨l128a, l128b, l128c⟩ := h.vY 1 (C := (.two (.two (.two (.two (.blk sb [fw, vs1, (.int .i64 (sx.status)), (.int .i64 (sx.aV))]) (.own aB.raw 49 fw (List.zip (sx.frames.set (((sx.frames.length : Int) - 1)).toNat ({ x3 with at_ := (min (x3.at_ + 1) ((aW.code.length : Int) - 1)) })) fF))) (.bL (aR aM 51 hn fF (List.map aB.sub (sx.frames.set (((sx.frames.length : Int) - 1)).toNat ({ x3 with at_ := (min (x3.at_ + 1) ((aW.code.length : Int) - 1)) })))))) (.own (aT Val).raw 47 vs1 (List.zip sx.cells fq))) (.bL (aR aM 51 hn fq (List.map (aT Val).sub sx.cells))) : Chunk)) rfl ⟨⟨⟨⟨trivial, trivial⟩, trivial⟩, trivial⟩, trivial⟩
 obtain ⟨Ce, e130, hs⟩ := aQ hs
 refine bA WJ rfl rfl (PS _ _ l128c sb (⟨(sx.frames.set (((sx.frames.length : Int) - 1)).toNat ({ x3 with at_ := (min (x3.at_ + 1) ((aW.code.length : Int) - 1)) })), sx.cells, sx.status, sx.aV⟩ : LX.State) fw vs1 fF fq l128a l128b SF x3.kG _ e130) ?_
 rintro _ w ⟨k135, u131, UQ, S9, Ta, rfl, h136, h137⟩
 refine ⟨_, rfl, ?_⟩
 replace h := h.back 1 (C := (.two (.two (.two (.two (.blk sb [fw, vs1, (.int .i64 (sx.status)), (.int .i64 (sx.aV))]) (.own aB.raw 49 fw (List.zip (sx.frames.set (((sx.frames.length : Int) - 1)).toNat ({ x3 with at_ := (min (x3.at_ + 1) ((aW.code.length : Int) - 1)) })) fF))) (.bL (aR aM 51 hn fF (List.map aB.sub (sx.frames.set (((sx.frames.length : Int) - 1)).toNat ({ x3 with at_ := (min (x3.at_ + 1) ((aW.code.length : Int) - 1)) })))))) (.own (aT Val).raw 47 vs1 (List.zip sx.cells fq))) (.bL (aR aM 51 hn fq (List.map (aT Val).sub sx.cells))) : Chunk)) (C' := (.two (.two (.two (.two (.blk sb [u131, UQ, (.int .i64 (Ce.status)), (.int .i64 (Ce.aV))]) (.own aB.raw 49 u131 (List.zip Ce.frames S9))) (.bL (aR aM 51 hn S9 (List.map aB.sub Ce.frames)))) (.own (aT Val).raw 47 UQ (List.zip Ce.cells Ta))) (.bL (aR aM 51 hn Ta (List.map (aT Val).sub Ce.cells))) : Chunk)) rfl ⟨⟨⟨⟨trivial, trivial⟩, trivial⟩, trivial⟩, trivial⟩ h136 k135 h137
 replace h := h.bX 1 5 (by decide) rfl rfl
 replace h := h.bX 1 4 (by decide) rfl rfl
 replace h := h.bX 1 3 (by decide) rfl rfl
 replace h := h.bX 1 2 (by decide) rfl rfl
 refine ah (aA (az ?_))
 exact bU (false, u131, S9, Ce.frames, UQ, Ta, Ce.cells, Ce.status, Ce.aV) ⟨h.cn _, hs⟩
 refine ai (ag (ae (bJ rfl rfl) (ae (aj (v := (.bool (decide ((aP.op : Int) = 9)))) rfl) (ah (aa (aN hs rfl (fun c138 hs => ?_) (fun c138 hs => ?_)))))))
 refine ai (mf (L := (fun x => x = b1)) mixed h fun w h => bu 0 (aL.refl _ _) rfl ax (by kernel_rfl) (by kernel_rfl) (by kernel_rfl) (fun w hk => au (v := u8) rfl) (bu 1 (aL.refl _ _) rfl ax (by kernel_rfl) (by kernel_rfl) (by kernel_rfl) (fun w hk => ak kv rfl) (bu 2 (aL.refl _ _) rfl ax (by kernel_rfl) (by kernel_rfl) (by kernel_rfl) (fun w hk => have h := h.qJ 7 rfl hk; aD h 177 rfl aZ rfl rfl) ?_)))
 obtain ⟨nz, vU, hs⟩ := aQ hs
 obtain ⟨Yw, I4, P9⟩ := h.uR 8 rfl bK rfl (aI vU).1 (aI vU).2
 refine bu 3 (aL.refl _ _) rfl ax (by kernel_rfl) (by kernel_rfl) (by kernel_rfl) (fun w hk => P9 _ _ _ _ _ _ _ _ _ rfl rfl) (bu 4 (aL.refl _ _) rfl ax (by kernel_rfl) (by kernel_rfl) (by kernel_rfl) (fun w hk => ak gM rfl) ?_)
 obtain ⟨XM, Qa, Qb⟩ := h.xc 8 rfl I4 (aI vU).2
 obtain rfl := Qb
 have Qc : ¬ (_ = b1) := (h.apart 8 7 (by decide) _ I4)
 refine bu 5 (aL.refl _ _) rfl ax (by kernel_rfl) (by kernel_rfl) (by kernel_rfl) (fun w hk => have h := h.qJ 7 rfl hk; oC (k := 1) (Qa.hold hk Qc) aZ rfl rfl) (bu 6 (aL.refl _ _) rfl ax (by kernel_rfl) (by kernel_rfl) (by kernel_rfl) (fun w hk => dV (pv := [(0, (.bool (true))), (1, (.int .i64 (nz.n)))]) (out := [(.bool (true)), (.int .i64 (nz.n)), (.bool (false))]) Pb rfl ⟨0, 1, [(.bool (true))], rfl, rfl, rfl, Nat.le_of_ble_eq_true rfl, ⟨1, 1, [(.int .i64 (nz.n))], rfl, rfl, rfl, Nat.le_of_ble_eq_true rfl, rfl⟩⟩) (bu 7 (aL.refl _ _) rfl ax (by kernel_rfl) (by kernel_rfl) (by kernel_rfl) (fun w hk => au (v := u8) rfl) (bu 8 (aL.refl _ _) rfl ax (by kernel_rfl) (by kernel_rfl) (by kernel_rfl) (fun w hk => ak kv rfl) (bu 9 (aL.refl _ _) rfl ax (by kernel_rfl) (by kernel_rfl) (by kernel_rfl) (fun w hk => have h := h.qJ 7 rfl hk; aD h 177 rfl aZ rfl rfl) ?_))))
 obtain ⟨XN, GJ, Nu⟩ := h.uR 8 rfl bK rfl (aI vU).1 (aI vU).2
 refine bu 10 (aL.refl _ _) rfl ax (by kernel_rfl) (by kernel_rfl) (by kernel_rfl) (fun w hk => Nu _ _ _ _ _ _ _ _ _ rfl rfl) (bu 11 (aL.refl _ _) rfl ax (by kernel_rfl) (by kernel_rfl) (by kernel_rfl) (fun w hk => ak nP rfl) ?_)
 obtain ⟨VL, Nv, Nw⟩ := h.xc 8 rfl GJ (aI vU).2
 obtain rfl := Nw
 have Ny : ¬ (_ = b1) := (h.apart 8 7 (by decide) _ GJ)
 refine bu 12 (aL.refl _ _) rfl ax (by kernel_rfl) (by kernel_rfl) (by kernel_rfl) (fun w hk => have h := h.qJ 7 rfl hk; oC (k := 0) (Nv.hold hk Ny) aZ rfl rfl) (bu 13 (aL.refl _ _) rfl ax (by kernel_rfl) (by kernel_rfl) (by kernel_rfl) (fun w hk => bJ rfl rfl) ?_)
 obtain ⟨ws143, Tc⟩ : ∃ x, x = w := ⟨_, rfl⟩
 have OA : aL (fun x => x = b1) ws143 w := Tc ▸ aL.refl (fun x => x = b1) w
 refine rW Tc.symm (bS 14 (by kernel_rfl) rfl ax (xe (vs := [(.bool (true)), (.int .i64 (nz.n)), (.bool (false))]) h 7 [(.bool (true)), (.int .i64 (nz.n)), (.bool (false))] rfl gF rfl rfl rfl rfl rfl (ay rfl (ay rfl (ay rfl bg))) fun w h Nz => ?_))
 replace OA := OA.same Nz
 refine ah (aX OA (bu 15 OA rfl ax (by kernel_rfl) (by kernel_rfl) (by kernel_rfl) (fun w hk => aj (v := (.bool (decide ((nz.kind : Int) = 1)))) rfl) (gJ (by kernel_rfl) (aa (aK (aH (aC (j3 (vs := [(.bool (true)), (.int .i64 (nz.n)), (.bool (false))]) (v2 := (.bool (decide ((nz.kind : Int) = 1)))) Tryz.results65 rfl rfl h 7 rfl gF rfl ?_))))))))
 replace h := h.iO 3 8 rfl rfl (by decide) (j4 (aI e4).2) e9 rfl
 replace h := h.pair 1 2 (by decide)
 replace h := h.pair 1 3 (by decide)
 replace h := h.pair 1 4 (by decide)
 replace h := h.pair 1 5 (by decide)
 obtain rfl := Option.some.inj hs
 subst zt
 obtain ⟨o1, o2, o3⟩ := h.qD 1 (C := (.two (.two (.two (.two (.blk sb [fw, vs1, (.int .i64 (sx.status)), (.int .i64 (sx.aV))]) (.own aB.raw 49 fw (List.zip (sx.frames.set (((sx.frames.length : Int) - 1)).toNat ({ x3 with at_ := (min (x3.at_ + 1) ((aW.code.length : Int) - 1)) })) fF))) (.bL (aR aM 51 hn fF (List.map aB.sub (sx.frames.set (((sx.frames.length : Int) - 1)).toNat ({ x3 with at_ := (min (x3.at_ + 1) ((aW.code.length : Int) - 1)) })))))) (.own (aT Val).raw 47 vs1 (List.zip sx.cells fq))) (.bL (aR aM 51 hn fq (List.map (aT Val).sub sx.cells))) : Chunk)) rfl ⟨⟨⟨⟨trivial, trivial⟩, trivial⟩, trivial⟩, trivial⟩
 exact ⟨o2, fw, vs1, fF, fq, rfl, o1, o3⟩
 refine ai (ag (ae (bJ rfl rfl) (ae (aj (v := (.bool (decide ((aP.op : Int) = 10)))) rfl) (ah (aa (aN hs rfl (fun c145 hs => ?_) (fun c145 hs => ?_)))))))
 refine ag (ae (ak FY rfl) (fJ h 7 [(.bool (false)), (.int .i64 (0)), (.bool (true))] rfl wL rfl rfl rfl rfl rfl fun w h => ah (aA ?_)))
 replace h := h.iO 3 8 rfl rfl (by decide) (j4 (aI e4).2) e9 rfl
 refine az ?_
 exact bU (true, fw, fF, (sx.frames.set (((sx.frames.length : Int) - 1)).toNat ({ x3 with at_ := (min (x3.at_ + 1) ((aW.code.length : Int) - 1)) })), vs1, fq, sx.cells, sx.status, sx.aV) ⟨h.cn _, hs⟩
 refine ai (ag (ae (bJ rfl rfl) (ae (aj (v := (.bool (decide ((aP.op : Int) = 11)))) rfl) (ah (aa (aN hs rfl (fun c146 hs => ?_) (fun c146 hs => ?_)))))))
 refine ai (ai (ag (ae (au (v := u8) rfl) (ae (ak kv rfl) (ae (aD h 177 rfl aZ rfl rfl) ?_)))))
 obtain ⟨SG, Qd, hs⟩ := aQ hs
 obtain ⟨b150, q151, i149⟩ := h.uR 8 rfl bK rfl (aI Qd).1 (aI Qd).2
 refine ae (i149 _ _ _ _ _ _ _ _ _ rfl rfl) (ae (ak nP rfl) ?_)
 obtain ⟨cs152, m153, r154⟩ := h.xc 8 rfl q151 (aI Qd).2
 obtain rfl := r154
 refine ae (oC (k := 0) m153 aZ rfl rfl) (ae (gu rfl rfl) (ah (aa (aN hs rfl (fun c155 hs => ?_) (fun c155 hs => ?_)))))
 refine ai (ag (ae (dE (vs := [(.bool (false)), (.int .i64 (0)), (.bool (false))]) h 7 rfl gF rfl rfl rfl) (dB (vs := [(.bool (false)), (.int .i64 (0)), (.bool (false))]) h 7 [(.bool (false)), (.int .i64 (0)), (.bool (false))] rfl gF rfl rfl rfl rfl rfl (ay rfl (ay rfl (ay rfl bg))) fun w h => ae (aj (v := (.bool (false))) rfl) (ah (aa (aK (aC (aH (aC (j3 (vs := [(.bool (false)), (.int .i64 (0)), (.bool (false))]) (v2 := (.bool (false))) Tryz.results65 rfl rfl h 7 rfl gF rfl ?_))))))))))
 replace h := h.iO 3 8 rfl rfl (by decide) (j4 (aI e4).2) e9 rfl
 replace h := h.pair 1 2 (by decide)
 replace h := h.pair 1 3 (by decide)
 replace h := h.pair 1 4 (by decide)
 replace h := h.pair 1 5 (by decide)
 obtain rfl := Option.some.inj hs
 subst zt
 obtain ⟨o1, o2, o3⟩ := h.qD 1 (C := (.two (.two (.two (.two (.blk sb [fw, vs1, (.int .i64 (sx.status)), (.int .i64 (sx.aV))]) (.own aB.raw 49 fw (List.zip (sx.frames.set (((sx.frames.length : Int) - 1)).toNat ({ x3 with at_ := (min (x3.at_ + 1) ((aW.code.length : Int) - 1)) })) fF))) (.bL (aR aM 51 hn fF (List.map aB.sub (sx.frames.set (((sx.frames.length : Int) - 1)).toNat ({ x3 with at_ := (min (x3.at_ + 1) ((aW.code.length : Int) - 1)) })))))) (.own (aT Val).raw 47 vs1 (List.zip sx.cells fq))) (.bL (aR aM 51 hn fq (List.map (aT Val).sub sx.cells))) : Chunk)) rfl ⟨⟨⟨⟨trivial, trivial⟩, trivial⟩, trivial⟩, trivial⟩
 exact ⟨o2, fw, vs1, fF, fq, rfl, o1, o3⟩
 refine aG (aa (ag (ae (au (v := (.pointer (some ⟨sb, 0, none⟩))) rfl) (ae (au (v := (.pointer (some ⟨sb, 0, none⟩))) rfl) (ae (au (v := u8) rfl) (ae (ak kv rfl) (ae (aD h 177 rfl aZ rfl rfl) ?_)))))))
 obtain ⟨b157, q158, i156⟩ := h.uR 8 rfl bK rfl (aI Qd).1 (aI Qd).2
 refine ae (i156 _ _ _ _ _ _ _ _ _ rfl rfl) (ae (ak gM rfl) ?_)
 obtain ⟨cs159, m160, r161⟩ := h.xc 8 rfl q158 (aI Qd).2
 obtain rfl := r161
 refine ae (oC (k := 1) m160 aZ rfl rfl) (ae (bT rfl) (ae (ak nO rfl) (fJ h 1 [fw, vs1, (.int .i64 (3)), (.int .i64 (sx.aV))] rfl aZ rfl rfl rfl rfl rfl fun w h => ae (bT rfl) (ae (ak vG rfl) (fJ h 1 [fw, vs1, (.int .i64 (3)), (.int .i64 (SG.n))] rfl aZ rfl rfl rfl rfl rfl fun w h => ae (ak FY rfl) (fJ h 7 [(.bool (false)), (.int .i64 (0)), (.bool (true))] rfl wL rfl rfl rfl rfl rfl fun w h => ah (aA ?_)))))))
 replace h := h.iO 3 8 rfl rfl (by decide) (j4 (aI e4).2) e9 rfl
 refine az ?_
 exact bU (true, fw, fF, (sx.frames.set (((sx.frames.length : Int) - 1)).toNat ({ x3 with at_ := (min (x3.at_ + 1) ((aW.code.length : Int) - 1)) })), vs1, fq, sx.cells, 3, SG.n) ⟨h.cn _, hs⟩
 refine ai (ag (ae (bJ rfl rfl) (ae (aj (v := (.bool (decide ((aP.op : Int) = 12)))) rfl) (ah (aa (aN hs rfl (fun c162 hs => ?_) (fun c162 hs => ?_)))))))
 refine ag (ae (au (v := (.pointer (some ⟨b6, (((sx.frames.length : Int) - 1)).toNat * 4, none⟩))) rfl) (ae (ak iX rfl) (ae (aD h 177 rfl aZ rfl rfl) (ae (bT rfl) (ae (ak qU rfl) (Ij (a' := (({ x3 with at_ := aP.b }), u8)) h 2 rfl q7 rfl (fe (j4 (aI e4).2) e9) aZ rfl rfl rfl rfl (by rintro _ ⟨rfl, hq⟩; exact ⟨rfl, hq⟩) fun w h => ?_))))))
 rw [FT e9] at h
 replace h := h.V7 3 ({ x3 with at_ := aP.b }) rfl
 refine ah (aA ?_)
 replace h := h.iO 3 8 rfl rfl (by decide) (j4 (j4 (aI e4).2)) e9 rfl
 refine az ?_
 exact bU (false, fw, fF, ((sx.frames.set (((sx.frames.length : Int) - 1)).toNat ({ x3 with at_ := (min (x3.at_ + 1) ((aW.code.length : Int) - 1)) })).set (((sx.frames.length : Int) - 1)).toNat ({ x3 with at_ := aP.b })), vs1, fq, sx.cells, sx.status, sx.aV) ⟨h.cn _, hs⟩
 refine ai (ag (ae (bJ rfl rfl) (ae (aj (v := (.bool (decide ((aP.op : Int) = 13)))) rfl) (ah (aa (aN hs rfl (fun c163 hs => ?_) (fun c163 hs => ?_)))))))
 refine ai (ag (ae (au (v := u8) rfl) (ae (ak kv rfl) (ae (aD h 177 rfl aZ rfl rfl) ?_))))
 obtain ⟨Cf, e165, hs⟩ := aQ hs
 obtain ⟨b167, q168, i166⟩ := h.uR 8 rfl bK rfl (aI e165).1 (aI e165).2
 refine ae (i166 _ _ _ _ _ _ _ _ _ rfl rfl) ?_
 obtain ⟨cs169, m170, r171⟩ := h.xc 8 rfl q168 (aI e165).2
 obtain rfl := r171
 refine ae (mM (k := 0) (vs := [(.int .i64 (Cf.kind)), (.int .i64 (Cf.n))]) m170 bV rfl rfl rfl (Nat.le_of_ble_eq_true rfl)) (bY h 995 bV fun w b172 h => dB (vs := [(.int .i64 (Cf.kind)), (.int .i64 (Cf.n))]) h 995 [(.int .i64 (Cf.kind)), (.int .i64 (Cf.n))] rfl bV rfl rfl rfl rfl rfl (ay rfl (ay rfl bg)) fun w h => ah (aa (ai (ag (ae (ak nP rfl) (ae (aD h 995 rfl aZ rfl rfl) (ae (bJ rfl rfl) (ae (au (v := (.bool (decide ((Cf.kind : Int) = 0)))) rfl) (aF rfl rfl (fun q => ak nP rfl) (aF rfl rfl (fun q => aD h 995 rfl aZ (dA q) rfl) (aF rfl rfl (fun q => bJ (dA q) rfl) (aF rfl rfl (fun q => au (v := (.bool (decide ((Cf.kind : Int) = 1)))) (dA q)) (l9 (decide ((Cf.kind : Int) = 0) == false) rfl rfl (fun q => ak gM rfl) (l9 (decide ((Cf.kind : Int) = 0) == false) rfl rfl (fun q => aD h 995 rfl aZ (dA q) rfl) (l9 (decide ((Cf.kind : Int) = 0) == false) rfl rfl (fun q => bJ (dA q) rfl) (aF rfl rfl (fun q => fV (dA q) (OU q) ma) (ae (ic rfl rfl ma) (ah (aa (aN hs rfl (fun c173 hs => ?_) (fun c173 hs => ?_)))))))))))))))))))))
 refine ag (ae (au (v := (.pointer (some ⟨b6, (((sx.frames.length : Int) - 1)).toNat * 4, none⟩))) rfl) (ae (ak iX rfl) (ae (aD h 177 rfl aZ rfl rfl) (ae (bT rfl) (ae (ak qU rfl) (Ij (a' := (({ x3 with at_ := aP.b }), u8)) h 2 rfl q7 rfl (fe (j4 (aI e4).2) e9) aZ rfl rfl rfl rfl (by rintro _ ⟨rfl, hq⟩; exact ⟨rfl, hq⟩) fun w h => ?_))))))
 rw [FT e9] at h
 replace h := h.V7 3 ({ x3 with at_ := aP.b }) rfl
 refine ah (aA ?_)
 replace h := h.iO 3 8 rfl rfl (by decide) (j4 (j4 (aI e4).2)) e9 rfl
 refine az ?_
 exact bU (false, fw, fF, ((sx.frames.set (((sx.frames.length : Int) - 1)).toNat ({ x3 with at_ := (min (x3.at_ + 1) ((aW.code.length : Int) - 1)) })).set (((sx.frames.length : Int) - 1)).toNat ({ x3 with at_ := aP.b })), vs1, fq, sx.cells, sx.status, sx.aV) ⟨h.cn _, hs⟩
 refine aG (aA ?_)
 replace h := h.iO 3 8 rfl rfl (by decide) (j4 (aI e4).2) e9 rfl
 refine az ?_
 exact bU (false, fw, fF, (sx.frames.set (((sx.frames.length : Int) - 1)).toNat ({ x3 with at_ := (min (x3.at_ + 1) ((aW.code.length : Int) - 1)) })), vs1, fq, sx.cells, sx.status, sx.aV) ⟨h.cn _, hs⟩
 refine aG (aA ?_)
 replace h := h.iO 3 8 rfl rfl (by decide) (j4 (aI e4).2) e9 rfl
 refine az ?_
 exact bU (false, fw, fF, (sx.frames.set (((sx.frames.length : Int) - 1)).toNat ({ x3 with at_ := (min (x3.at_ + 1) ((aW.code.length : Int) - 1)) })), vs1, fq, sx.cells, sx.status, sx.aV) ⟨h.cn _, hs⟩
 refine ai (ag (ae (bJ rfl rfl) (ae (aj (v := (.bool (decide ((aP.op : Int) = 4)))) rfl) (ah (aa (aN hs rfl (fun c174 hs => ?_) (fun c174 hs => ?_)))))))
 refine aG (az ?_)
 exact bU (decide ((aP.op : Int) = 4)) ⟨h.cn _, hs⟩
 refine ag (ae (bJ rfl rfl) (ae (aj (v := (.bool (decide ((aP.op : Int) = 6)))) rfl) (ah (az ?_))))
 exact bU (decide ((aP.op : Int) = 6)) ⟨h.cn _, hs⟩
def yz (yY : List Int) (x20 : Int) (y23 : List LX.Frame) (Kj : List (List Val)) (y27 : Int) (y28 : Int) : Option (LX.State × List Int × Int × Int) :=
  some ((⟨y23, Kj, y27, y28⟩ : LX.State), yY, x20, 0)
def Ck (gN : DC × Bool × LX.State) (Cq : Int) (H5 : (List Int × Int × List LX.Frame × List (List Val) × Int × Int) → Option (LX.State × List Int × Int × Int)) (J7 : List Int) : Option (LX.State × List Int × Int × Int) :=
  bif gN.1.DD then yz J7 (Cq + 1) gN.2.2.frames gN.2.2.cells gN.2.2.status gN.2.2.aV else H5 (J7, (Cq + 1), gN.2.2.frames, gN.2.2.cells, gN.2.2.status, gN.2.2.aV)
def Cm (N : Nat) (pV : List Int) (Cq : Int) (tY : List LX.Frame) (wK : List (List Val)) (J8 : Int) (FB : Int) (a : List dx) (H5 : (List Int × Int × List LX.Frame × List (List Val) × Int × Int) → Option (LX.State × List Int × Int × Int)) (x93 : Bool) : Option (LX.State × List Int × Int × Int) :=
  bif x93 then yz pV Cq tY wK J8 FB else (za (⟨tY, wK, J8, FB⟩ : LX.State)).bind fun y95 => (Oz N y95 a).bind fun gN => ib (jO (Cq + 1)) (bif (!gN.2.1) then yz pV (Cq + 1) tY wK 2 FB else bif gN.1.said then ib (Room 8 pV [gN.1.n]) (Ck gN Cq H5 (pV ++ [gN.1.n])) else Ck gN Cq H5 pV)
def Cn (N : Nat) (c : Int) (a : List dx) (s : List Int × Int × List LX.Frame × List (List Val) × Int × Int) (H5 : List Int × Int × List LX.Frame × List (List Val) × Int × Int → Option (LX.State × List Int × Int × Int)) : Option (LX.State × List Int × Int × Int) :=
  match s with | (pV, Cq, tY, wK, J8, FB) => bif (decide ((Cq : Int) < c) && decide ((J8 : Int) = 0)) then ib (jO ((tY.length : Int) - 1)) ((idx tY ((tY.length : Int) - 1)).bind fun x82 => bif decide (((pV.length : Int) : Int) = 40) then (idx a x82.proc).bind fun Gd => (idx Gd.code x82.at_).bind fun UR => Cm N pV Cq tY wK J8 FB a H5 (decide ((UR.op : Int) = 9)) else Cm N pV Cq tY wK J8 FB a H5 false) else yz pV Cq tY wK J8 FB
def J9 (N : Nat) (a : List dx) (b : LX.State) (c : Int) : Option (LX.State × List Int × Int × Int) :=
  (uI a b).bind fun y3 => bif decide ((y3 : Int) ≠ 0) then some ((⟨[], [], 0, 0⟩ : LX.State), [], 0, y3) else bif (decide ((c : Int) < 0) || decide ((2000 : Int) < c)) then some ((⟨[], [], 0, 0⟩ : LX.State), [], 0, 3) else bif decide ((b.status : Int) ≠ 0) then some ((⟨[], [], 0, 0⟩ : LX.State), [], 0, 7) else (za b).bind fun y9 => again (Cn N c a) N ([], 0, y9.frames, y9.cells, y9.status, y9.aV)
theorem GK (N : Nat) (w0 : World) (M : BS) (hM : ∀ b, M b → b < w0.heap.size) (va : Value) (a : List dx) (ha : fH kF w0 M va a) (b : LX.State) (vb0 vb1 : Value) (hb0 : gL fo w0 BE M vb0 b.frames) (hb1 : gL (qj aM) w0 BE M vb1 b.cells) (c : Int) (r : LX.State × List Int × Int × Int) (hs : J9 N a b c = some r) :
    Calls Tryz.prog 28 #[va, (.agg #[vb0, vb1, (.int .i64 (b.status)), (.int .i64 (b.aV))]), (.int .i64 (c))] w0 (fun e w' => Grow w0 w' ∧ ∃ wz, ∃ zx, ∃ u1, e = .returned (.tuple #[.agg #[wz, zx, .int .i64 r.1.status, .int .i64 r.1.aV], u1, .int .i64 r.2.2.1, .int .i64 r.2.2.2]) ∧ fH fo w' (fun b => M b ∨ ob u1 b) wz r.1.frames ∧ fH (qj aM) w' (fun b => M b ∨ ob u1 b) zx r.1.cells ∧ ek fT 3 w' M u1 r.2.1 ∧ (∀ b, ob u1 b → w0.heap.size ≤ b)) := by
 refine aS (args := [va, (.agg #[vb0, vb1, (.int .i64 (b.status)), (.int .i64 (b.aV))]), (.int .i64 (c))]) Tryz.func28 rfl Tryz.ntmps28 (Nat.le_of_ble_eq_true rfl) ?_
 have h := SH.init hM
 replace h := h.YB 1 ha bN
 replace h := h.fI 2 hb0 (EI bN)
 replace h := h.fI 3 hb1 (dn (EI bN))
 have uw := ha.cB
 refine ai (ag (oD (cs := [vb0, vb1, (.int .i64 (b.status)), (.int .i64 (b.aV))]) h 4 rfl rfl fun w b1 h => bY h 5 dw fun w b2 h => ae (aj (v := (.slice none 0 0)) rfl) (ae (aj (v := (.int .i64 (0))) rfl) (ae (aj (v := (.int .i64 (0))) rfl) (ah (aa (ai (ai (ag (ae (au (v := va) rfl) (ae (dE (vs := [vb0, vb1, (.int .i64 (b.status)), (.int .i64 (b.aV))]) h 4 rfl dw rfl rfl rfl) ?_)))))))))))
 obtain ⟨y3, e4, hs⟩ := aQ hs
 refine bA FZ rfl rfl (wC _ _ h.lt va a (h.mH 1 rfl) b vb0 vb1 (h.iI 2 rfl) (h.iI 3 rfl) _ e4) ?_
 rintro _ w ⟨k5, rfl⟩
 refine ⟨_, rfl, ?_⟩
 replace h := h.grow k5
 refine ae (aj (v := (.int .i64 (y3))) rfl) (ah (aa (ai (ag (ae (au (v := (.int .i64 (y3))) rfl) (ae (gu rfl rfl) (ah (aa (aN hs rfl (fun c6 hs => ?_) (fun c6 hs => ?_))))))))))
 refine ai (ag (ae (dV (pv := []) (out := [(.slice none 0 0), (.slice none 0 0), (.int .i64 (0)), (.int .i64 (0))]) wm rfl rfl) (ae (au (v := (.int .i64 (y3))) rfl) (dB (vs := [(.slice none 0 0), (.slice none 0 0), (.int .i64 (0)), (.int .i64 (0))]) h 5 [(.slice none 0 0), (.slice none 0 0), (.int .i64 (0)), (.int .i64 (0))] rfl dw rfl rfl rfl rfl rfl (ay rfl (ay rfl (ay rfl (ay rfl bg)))) fun w h => ae (aj (v := (.slice none 0 0)) rfl) (ae (aj (v := (.int .i64 (0))) rfl) (ae (aj (v := (.int .i64 (y3))) rfl) (ah (aa (aK (aC (CF (vs := [(.slice none 0 0), (.slice none 0 0), (.int .i64 (0)), (.int .i64 (0))]) (v2 := (.slice none 0 0)) (v3 := (.int .i64 (0))) (v4 := (.int .i64 (y3))) Tryz.results28 rfl rfl rfl rfl h 5 rfl dw rfl ?_)))))))))))
 obtain rfl := Option.some.inj hs
 exact ⟨h.grown, _, _, _, rfl, gL.nil, gL.nil, ek.nil, l8⟩
 refine aG (aa (ai (ai (ag (ae (au (v := (.int .i64 (c))) rfl) (ae (dS rfl rfl) (ae (au (v := (.bool (decide ((c : Int) < 0)))) rfl) (aF rfl rfl (fun q => au (v := (.int .i64 (c))) rfl) (aF rfl rfl (fun q => j6 (dA q) rfl) (ae (ic rfl rfl ma) (ah (aa (aN hs rfl (fun c7 hs => ?_) (fun c7 hs => ?_))))))))))))))
 refine ai (ag (ae (dV (pv := []) (out := [(.slice none 0 0), (.slice none 0 0), (.int .i64 (0)), (.int .i64 (0))]) wm rfl rfl) (dB (vs := [(.slice none 0 0), (.slice none 0 0), (.int .i64 (0)), (.int .i64 (0))]) h 5 [(.slice none 0 0), (.slice none 0 0), (.int .i64 (0)), (.int .i64 (0))] rfl dw rfl rfl rfl rfl rfl (ay rfl (ay rfl (ay rfl (ay rfl bg)))) fun w h => ae (aj (v := (.slice none 0 0)) rfl) (ae (aj (v := (.int .i64 (0))) rfl) (ae (aj (v := (.int .i64 (3))) rfl) (ah (aa (aK (aC (CF (vs := [(.slice none 0 0), (.slice none 0 0), (.int .i64 (0)), (.int .i64 (0))]) (v2 := (.slice none 0 0)) (v3 := (.int .i64 (0))) (v4 := (.int .i64 (3))) Tryz.results28 rfl rfl rfl rfl h 5 rfl dw rfl ?_))))))))))
 obtain rfl := Option.some.inj hs
 exact ⟨h.grown, _, _, _, rfl, gL.nil, gL.nil, ek.nil, l8⟩
 refine aG (aa (ai (ai (ag (ae (ak nO rfl) (ae (aD h 4 rfl aZ rfl rfl) (ae (gu rfl rfl) (ah (aa (aN hs rfl (fun c8 hs => ?_) (fun c8 hs => ?_)))))))))))
 refine ai (ag (ae (dV (pv := []) (out := [(.slice none 0 0), (.slice none 0 0), (.int .i64 (0)), (.int .i64 (0))]) wm rfl rfl) (dB (vs := [(.slice none 0 0), (.slice none 0 0), (.int .i64 (0)), (.int .i64 (0))]) h 5 [(.slice none 0 0), (.slice none 0 0), (.int .i64 (0)), (.int .i64 (0))] rfl dw rfl rfl rfl rfl rfl (ay rfl (ay rfl (ay rfl (ay rfl bg)))) fun w h => ae (aj (v := (.slice none 0 0)) rfl) (ae (aj (v := (.int .i64 (0))) rfl) (ae (aj (v := (.int .i64 (7))) rfl) (ah (aa (aK (aC (CF (vs := [(.slice none 0 0), (.slice none 0 0), (.int .i64 (0)), (.int .i64 (0))]) (v2 := (.slice none 0 0)) (v3 := (.int .i64 (0))) (v4 := (.int .i64 (7))) Tryz.results28 rfl rfl rfl rfl h 5 rfl dw rfl ?_))))))))))
 obtain rfl := Option.some.inj hs
 exact ⟨h.grown, _, _, _, rfl, gL.nil, gL.nil, ek.nil, l8⟩
 refine aG (aa (ai (ag (ae (dE (vs := [vb0, vb1, (.int .i64 (b.status)), (.int .i64 (b.aV))]) h 4 rfl dw rfl rfl rfl) ?_))))
 obtain ⟨y9, e10, hs⟩ := aQ hs
 refine bA JI rfl rfl (AR _ _ h.lt b vb0 vb1 (h.iI 2 rfl) (h.iI 3 rfl) _ e10) ?_
 rintro _ w ⟨k17, Hr, Ma, uX, XO, rfl, h15, h16⟩
 refine ⟨_, rfl, ?_⟩
 replace h := h.KF 6 (C := (.two (.two (.two (.own aB.raw 49 Hr (List.zip y9.frames uX)) (.bL (aR aM 51 hn uX (List.map aB.sub y9.frames)))) (.own (aT Val).raw 47 Ma (List.zip y9.cells XO))) (.bL (aR aM 51 hn XO (List.map (aT Val).sub y9.cells))) : Chunk)) k17 ⟨⟨⟨trivial, trivial⟩, trivial⟩, trivial⟩ h15 h16
 replace h := h.bX 6 9 (by decide) rfl rfl
 replace h := h.bX 6 8 (by decide) rfl rfl
 replace h := h.bX 6 7 (by decide) rfl rfl
 refine dB (vs := [Hr, Ma, (.int .i64 (y9.status)), (.int .i64 (y9.aV))]) h 4 [Hr, Ma, (.int .i64 (y9.status)), (.int .i64 (y9.aV))] rfl dw rfl rfl rfl rfl rfl (ay (h.dJ 6 rfl).one (ay (h.dJ 8 rfl).one (ay rfl (ay rfl bg)))) fun w h => ah (aa (ai (ag (ae (aj (v := (.slice none 0 0)) rfl) (ah (aa (ai (ag (ae (aj (v := (.int .i64 (0))) rfl) (ah (aa (cz (σ := Value × List Int × Int × Value × List Value × List LX.Frame × Value × List Value × List (List Val) × Int × Int) (inl [11, 12, 13, 14, 15, 16, 37, 38, 39, 40, 41, 42, 43, 44, 45, 46, 47, 48, 49, 50, 51, 52, 53, 54, 55, 56, 57, 58, 59, 60, 61, 62, 63, 64, 65, 66, 67, 68, 69, 70, 71, 72, 73, 74, 75, 76, 77, 78, 79, 80, 81, 82, 83, 84, 85, 86, 87, 88, 89, 90, 91]) (fun ⟨v18, yY, x20, v21, UT, y23, v24, UU, Kj, y27, y28⟩ => [(11, v18), (12, (.int .i64 (x20)))]) (fun ⟨v18, yY, x20, v21, UT, y23, v24, UU, Kj, y27, y28⟩ w => SH w0 M BE w (hset [(4, .blk b1 [v21, v24, (.int .i64 (y27)), (.int .i64 (y28))]), (5, .blk b2 [(.slice none 0 0), (.slice none 0 0), (.int .i64 (0)), (.int .i64 (0))]), (10, .own aB.raw 49 v21 (List.zip y23 UT)), (11, .bL (aR aM 51 hn UT (List.map aB.sub y23))), (12, .own (aT Val).raw 47 v24 (List.zip Kj UU)), (13, .bL (aR aM 51 hn UU (List.map (aT Val).sub Kj))), (25, .own fT 3 v18 yY)]) ∧ yz yY x20 y23 Kj y27 y28 = some r) ?_ ?_))))))))))))
 rintro ⟨v18, yY, x20, v21, UT, y23, v24, UU, Kj, y27, y28⟩ w dD ⟨h, hs⟩
 refine ai (ag (ae (dE (vs := [v21, v24, (.int .i64 (y27)), (.int .i64 (y28))]) h 4 rfl dw rfl rfl rfl) (ae (au (v := v18) rfl) (ae (au (v := (.int .i64 (x20))) rfl) (dB (vs := [v21, v24, (.int .i64 (y27)), (.int .i64 (y28))]) h 5 [v21, v24, (.int .i64 (y27)), (.int .i64 (y28))] rfl dw rfl rfl rfl rfl rfl (ay (h.dJ 10 rfl).one (ay (h.dJ 12 rfl).one (ay rfl (ay rfl bg)))) fun w h => ae (aj (v := v18) rfl) (ae (aj (v := (.int .i64 (x20))) rfl) (ae (aj (v := (.int .i64 (0))) rfl) (ah (aa (aK (CF (vs := [v21, v24, (.int .i64 (y27)), (.int .i64 (y28))]) (v2 := v18) (v3 := (.int .i64 (x20))) (v4 := (.int .i64 (0))) Tryz.results28 rfl rfl rfl rfl h 5 rfl dw rfl ?_)))))))))))
 replace h := h.zL (N := aB) (R' := fo) 10 11 rfl rfl (by decide) rfl rz
 replace h := h.zL (N := (aT Val)) (R' := (qj aM)) 12 13 rfl rfl (by decide) rfl wP
 obtain rfl := Option.some.inj hs
 exact ⟨h.grown, _, _, _, rfl, h.QH 10 25 rfl rfl, h.QH 12 25 rfl rfl, (h.mP 25 rfl).1, (h.mP 25 rfl).2⟩
 refine aU ?_
 replace h := h.yF (R := fT) (E := 3) 41
 replace h := (h.fK 42).moveC 6 42 rfl rfl (by decide)
 replace h := (h.fK 43).moveC 7 43 rfl rfl (by decide)
 replace h := (h.fK 44).moveC 8 44 rfl rfl (by decide)
 replace h := (h.fK 45).moveC 9 45 rfl rfl (by decide)
 refine gP (σ := Nat × Value × List Int × Int × Value × List Value × List LX.Frame × Value × List Value × List (List Val) × Int × Int) (inl [11, 12, 13, 14, 15, 16, 37, 38, 39, 40, 41, 42, 43, 44, 45, 46, 47, 48, 49, 50, 51, 52, 53, 54, 55, 56, 57, 58, 59, 60, 61, 62, 63, 64, 65, 66, 67, 68, 69, 70, 71, 72, 73, 74, 75, 76, 77, 78, 79, 80, 81, 82, 83, 84, 85, 86, 87, 88, 89, 90, 91]) (fun ⟨Xl, v62, pV, Cq, v65, H6, tY, v68, H7, wK, J8, FB⟩ => [(11, v62), (12, (.int .i64 (Cq)))]) (fun ⟨Xl, v62, pV, Cq, v65, H6, tY, v68, H7, wK, J8, FB⟩ w => SH w0 M BE w (hset [(1, .rd kF va a), (4, .blk b1 [v65, v68, (.int .i64 (J8)), (.int .i64 (FB))]), (5, .blk b2 [(.slice none 0 0), (.slice none 0 0), (.int .i64 (0)), (.int .i64 (0))]), (41, .own fT 3 v62 pV), (42, .own aB.raw 49 v65 (List.zip tY H6)), (43, .bL (aR aM 51 hn H6 (List.map aB.sub tY))), (44, .own (aT Val).raw 47 v68 (List.zip wK H7)), (45, .bL (aR aM 51 hn H7 (List.map (aT Val).sub wK)))]) ∧ again (Cn N c a) Xl (pV, Cq, tY, wK, J8, FB) = some r) (fun ⟨Xl, v62, pV, Cq, v65, H6, tY, v68, H7, wK, J8, FB⟩ => Xl) ⟨N, (.slice none 0 0), [], 0, Hr, uX, y9.frames, Ma, XO, y9.cells, y9.status, y9.aV⟩ ⟨rfl, rfl, trivial⟩ ?_ ?_
 exact ⟨h.cn _, hs⟩
 rintro ⟨Xl, v62, pV, Cq, v65, H6, tY, v68, H7, wK, J8, FB⟩ w dD ⟨h, hs⟩
 obtain ⟨m761, m76e, m76h⟩ := rf hs
 subst m76e
 replace hs := m76h
 generalize hnx77 : again (Cn N c a) m761 = H5 at hs
 refine ai (ai (ag (ae (au (v := (.int .i64 (Cq))) rfl) (ae (au (v := (.int .i64 (c))) rfl) (ae (dS rfl rfl) (ae (au (v := (.bool (decide ((Cq : Int) < c)))) rfl) (aF rfl rfl (fun q => ak nO rfl) (aF rfl rfl (fun q => aD h 4 rfl aZ (dA q) rfl) (aF rfl rfl (fun q => bJ (dA q) rfl) (ae (fV rfl rfl ma) (ah (aa (aN hs rfl (fun c80 hs => ?_) (fun c80 hs => ?_))))))))))))))
 refine aG (aa (aU (ai (ag (ae (ak dY rfl) (ae (aD h 4 rfl iR rfl rfl) (ae (ak dY rfl) (ae (aD h 4 rfl iR rfl rfl) (ae (oM (N := aB) dm rfl (h.eF 42 rfl) (h.iK 43 rfl)) ?_)))))))))
 obtain ⟨a81, hs⟩ := bM hs
 refine ae (oz rfl rfl a81) ?_
 obtain ⟨x82, UW, hs⟩ := aQ hs
 obtain ⟨u87, XB, h⟩ := h.pq 43 46 x82.regs rfl rfl (by decide) (aI UW).2 rfl
 obtain ⟨F7, q86, i84⟩ := h.uR 42 rfl dm rfl (aI UW).1 (fe (aI UW).2 XB)
 refine ae (i84 _ _ _ _ _ _ _ _ _ rfl rfl) ?_
 obtain ⟨cs89, m90, r91⟩ := h.xc 42 rfl q86 (fe (aI UW).2 XB)
 obtain ⟨rfl, -⟩ := r91
 refine ae (mM (k := 0) (vs := [(.int .i64 (x82.proc)), (.int .i64 (x82.at_)), u87, (.int .i64 (x82.kG))]) m90 iy rfl rfl rfl (Nat.le_of_ble_eq_true rfl)) (bY h 47 iy fun w b92 h => dB (vs := [(.int .i64 (x82.proc)), (.int .i64 (x82.at_)), u87, (.int .i64 (x82.kG))]) h 47 [(.int .i64 (x82.proc)), (.int .i64 (x82.at_)), u87, (.int .i64 (x82.kG))] rfl iy rfl rfl rfl rfl rfl (ay rfl (ay rfl (ay (h.dJ 46 rfl).one (ay rfl bg)))) fun w h => ah (aa (ai (cz (σ := Bool) (inl [53, 54, 55, 56, 57, 58, 59, 60, 61, 62, 63, 64, 65, 66, 67, 68, 69]) (fun x93 => [(69, (.bool (x93)))]) (fun x93 w => SH w0 M BE w (hset [(1, .rd kF va a), (4, .blk b1 [v65, v68, (.int .i64 (J8)), (.int .i64 (FB))]), (5, .blk b2 [(.slice none 0 0), (.slice none 0 0), (.int .i64 (0)), (.int .i64 (0))]), (41, .own fT 3 v62 pV), (42, .own aB.raw 49 v65 (List.zip tY H6)), (43, .bL (aR aM 51 hn H6 (List.map aB.sub tY))), (44, .own (aT Val).raw 47 v68 (List.zip wK H7)), (45, .bL (aR aM 51 hn H7 (List.map (aT Val).sub wK)))]) ∧ Cm N pV Cq tY wK J8 FB a H5 x93 = some r) ?_ ?_))))
 rintro x93 w dD ⟨h, hs⟩
 refine aN hs rfl (fun NA hs => ?_) (fun NA hs => ?_)
 refine dh (aO (vV (by decide) (aO (bE (az ?_)))))
 replace h := h.Cx 41 25 rfl rfl (by decide)
 replace h := (h.fK 10).moveC 42 10 rfl rfl (by decide)
 replace h := (h.fK 11).moveC 43 11 rfl rfl (by decide)
 replace h := (h.fK 12).moveC 44 12 rfl rfl (by decide)
 replace h := (h.fK 13).moveC 45 13 rfl rfl (by decide)
 exact bU (v62, pV, Cq, v65, H6, tY, v68, H7, wK, J8, FB) ⟨h.cn _, hs⟩
 refine aG (aa (ai (ag (ae (dE (vs := [v65, v68, (.int .i64 (J8)), (.int .i64 (FB))]) h 4 rfl dw rfl rfl rfl) ?_))))
 obtain ⟨y95, e96, hs⟩ := aQ hs
 refine bA JI rfl rfl (AR _ BE (fun _ h => h.elim) (⟨tY, wK, J8, FB⟩ : LX.State) v65 v68 (h.uU (N := aB) (R' := fo) 42 43 rfl rfl (by decide) rfl rz) (h.uU (N := (aT Val)) (R' := (qj aM)) 44 45 rfl rfl (by decide) rfl wP) _ e96) ?_
 rintro _ w ⟨XP, RZ, VM, NB, GL, rfl, Xg, h102⟩
 refine ⟨_, rfl, ?_⟩
 replace h := h.Q7 48 (C := (.two (.two (.two (.own aB.raw 49 RZ (List.zip y95.frames NB)) (.bL (aR aM 51 hn NB (List.map aB.sub y95.frames)))) (.own (aT Val).raw 47 VM (List.zip y95.cells GL))) (.bL (aR aM 51 hn GL (List.map (aT Val).sub y95.cells))) : Chunk)) XP ⟨⟨⟨trivial, trivial⟩, trivial⟩, trivial⟩ ⟨⟨⟨(fun _ _ _ _ _ h => h), (vQ (fun _ _ _ _ _ h => h))⟩, (fun _ _ _ _ _ h => h)⟩, (vQ (fun _ _ _ _ _ h => h))⟩ Xg h102
 replace h := h.bX 48 51 (by decide) rfl rfl
 replace h := h.bX 48 50 (by decide) rfl rfl
 replace h := h.bX 48 49 (by decide) rfl rfl
 refine bY h 52 dw fun w UX h => dB (vs := [RZ, VM, (.int .i64 (y95.status)), (.int .i64 (y95.aV))]) h 52 [RZ, VM, (.int .i64 (y95.status)), (.int .i64 (y95.aV))] rfl dw rfl rfl rfl rfl rfl (ay (h.dJ 48 rfl).one (ay (h.dJ 50 rfl).one (ay rfl (ay rfl bg)))) fun w h => ah (aa (ai (ag (ae (au (v := va) rfl) ?_))))
 replace h := h.pair 52 48 (by decide)
 replace h := h.pair 52 49 (by decide)
 replace h := h.pair 52 50 (by decide)
 replace h := h.pair 52 51 (by decide)
 obtain ⟨l105a, l105b, l105c⟩ := h.vY 52 (C := (.two (.two (.two (.two (.blk UX [RZ, VM, (.int .i64 (y95.status)), (.int .i64 (y95.aV))]) (.own aB.raw 49 RZ (List.zip y95.frames NB))) (.bL (aR aM 51 hn NB (List.map aB.sub y95.frames)))) (.own (aT Val).raw 47 VM (List.zip y95.cells GL))) (.bL (aR aM 51 hn GL (List.map (aT Val).sub y95.cells))) : Chunk)) rfl ⟨⟨⟨⟨trivial, trivial⟩, trivial⟩, trivial⟩, trivial⟩
 obtain ⟨gN, e107, hs⟩ := aQ hs
 refine bA WA rfl rfl (PU N _ _ l105c UX y95 RZ VM NB GL l105a l105b va a (h.N9 52 1 rfl rfl) _ e107) ?_
 rintro _ w ⟨k112, Ka, Ac, I5, I6, rfl, h113, h114⟩
 refine ⟨_, rfl, ?_⟩
 replace h := h.back 52 (C := (.two (.two (.two (.two (.blk UX [RZ, VM, (.int .i64 (y95.status)), (.int .i64 (y95.aV))]) (.own aB.raw 49 RZ (List.zip y95.frames NB))) (.bL (aR aM 51 hn NB (List.map aB.sub y95.frames)))) (.own (aT Val).raw 47 VM (List.zip y95.cells GL))) (.bL (aR aM 51 hn GL (List.map (aT Val).sub y95.cells))) : Chunk)) (C' := (.two (.two (.two (.two (.blk UX [Ka, Ac, (.int .i64 (gN.2.2.status)), (.int .i64 (gN.2.2.aV))]) (.own aB.raw 49 Ka (List.zip gN.2.2.frames I5))) (.bL (aR aM 51 hn I5 (List.map aB.sub gN.2.2.frames)))) (.own (aT Val).raw 47 Ac (List.zip gN.2.2.cells I6))) (.bL (aR aM 51 hn I6 (List.map (aT Val).sub gN.2.2.cells))) : Chunk)) rfl ⟨⟨⟨⟨trivial, trivial⟩, trivial⟩, trivial⟩, trivial⟩ h113 k112 h114
 replace h := h.bX 52 51 (by decide) rfl rfl
 replace h := h.bX 52 50 (by decide) rfl rfl
 replace h := h.bX 52 49 (by decide) rfl rfl
 replace h := h.bX 52 48 (by decide) rfl rfl
 refine ae (au (v := (.tuple #[(.agg #[(.bool (gN.1.said)), (.int .i64 (gN.1.n)), (.bool (gN.1.DD))]), (.bool (gN.2.1))])) rfl) (ae (bF rfl rfl) (ae (bF rfl rfl) (bY h 53 gF fun w aaf h => dB (vs := [(.bool (gN.1.said)), (.int .i64 (gN.1.n)), (.bool (gN.1.DD))]) h 53 [(.bool (gN.1.said)), (.int .i64 (gN.1.n)), (.bool (gN.1.DD))] rfl gF rfl rfl rfl rfl rfl (ay rfl (ay rfl (ay rfl bg))) fun w h => ae (aj (v := (.bool (gN.2.1))) rfl) (ah (aa (ai (ag (ae (au (v := (.int .i64 (Cq))) rfl) ?_))))))))
 obtain ⟨a116, hs⟩ := bM hs
 refine ae (dH rfl rfl a116) (ae (aj (v := (.int .i64 ((Cq + 1)))) rfl) (ah (aa (ai (ai (ag (ae (au (v := (.bool (gN.2.1))) rfl) (ae (gZ rfl) (ah (aa (aN hs rfl (fun c117 hs => ?_) (fun c117 hs => ?_))))))))))))
 refine ai (ag (ae (ak nO rfl) (fJ h 4 [v65, v68, (.int .i64 (2)), (.int .i64 (FB))] rfl aZ rfl rfl rfl rfl rfl fun w h => ah (aa (dh (aO (vV (by decide) (aO (bE (az ?_))))))))))
 replace h := h.Cx 41 25 rfl rfl (by decide)
 replace h := (h.fK 10).moveC 42 10 rfl rfl (by decide)
 replace h := (h.fK 11).moveC 43 11 rfl rfl (by decide)
 replace h := (h.fK 12).moveC 44 12 rfl rfl (by decide)
 replace h := (h.fK 13).moveC 45 13 rfl rfl (by decide)
 exact bU (v62, pV, (Cq + 1), v65, H6, tY, v68, H7, wK, 2, FB) ⟨h.cn _, hs⟩
 refine aG (aa (cz (σ := Value × List Int) (inl [11, 82, 83, 84, 85, 86, 87, 88, 89]) (fun ⟨Qe, J7⟩ => [(11, Qe)]) (fun ⟨Qe, J7⟩ w => SH w0 M BE w (hset [(1, .rd kF va a), (4, .blk b1 [Ka, Ac, (.int .i64 (gN.2.2.status)), (.int .i64 (gN.2.2.aV))]), (5, .blk b2 [(.slice none 0 0), (.slice none 0 0), (.int .i64 (0)), (.int .i64 (0))]), (41, .own fT 3 Qe J7), (48, .own aB.raw 49 Ka (List.zip gN.2.2.frames I5)), (49, .bL (aR aM 51 hn I5 (List.map aB.sub gN.2.2.frames))), (50, .own (aT Val).raw 47 Ac (List.zip gN.2.2.cells I6)), (51, .bL (aR aM 51 hn I6 (List.map (aT Val).sub gN.2.2.cells))), (53, .blk aaf [(.bool (gN.1.said)), (.int .i64 (gN.1.n)), (.bool (gN.1.DD))])]) ∧ Ck gN Cq H5 J7 = some r) ?_ ?_))
 rintro ⟨Qe, J7⟩ w dD ⟨h, hs⟩
 refine ai (ag (ae (ak FY rfl) (ae (aD h 53 rfl wL rfl rfl) (ah (aa (aN hs rfl (fun c120 hs => ?_) (fun c120 hs => ?_)))))))
 refine dh (vV (by decide) (aO (bE (az ?_))))
 replace h := h.Cx 41 25 rfl rfl (by decide)
 replace h := (h.fK 10).moveC 48 10 rfl rfl (by decide)
 replace h := (h.fK 11).moveC 49 11 rfl rfl (by decide)
 replace h := (h.fK 12).moveC 50 12 rfl rfl (by decide)
 replace h := (h.fK 13).moveC 51 13 rfl rfl (by decide)
 exact bU (Qe, J7, (Cq + 1), Ka, I5, gN.2.2.frames, Ac, I6, gN.2.2.cells, gN.2.2.status, gN.2.2.aV) ⟨h.cn _, hs⟩
 refine aG (aA (az ?_))
 replace h := (h.fK 42).moveC 48 42 rfl rfl (by decide)
 replace h := (h.fK 43).moveC 49 43 rfl rfl (by decide)
 replace h := (h.fK 44).moveC 50 44 rfl rfl (by decide)
 replace h := (h.fK 45).moveC 51 45 rfl rfl (by decide)
 subst hnx77
 exact jN ⟨m761, Qe, J7, (Cq + 1), Ka, I5, gN.2.2.frames, Ac, I6, gN.2.2.cells, gN.2.2.status, gN.2.2.aV⟩ ⟨h.cn _, hs⟩
 refine ai (ag (ae (dE (vs := [Ka, Ac, (.int .i64 (gN.2.2.status)), (.int .i64 (gN.2.2.aV))]) h 52 rfl dw rfl rfl rfl) (dB (vs := [Ka, Ac, (.int .i64 (gN.2.2.status)), (.int .i64 (gN.2.2.aV))]) h 4 [Ka, Ac, (.int .i64 (gN.2.2.status)), (.int .i64 (gN.2.2.aV))] rfl dw rfl rfl rfl rfl rfl (ay (h.dJ 48 rfl).one (ay (h.dJ 50 rfl).one (ay rfl (ay rfl bg)))) fun w h => ah (aa (ai (ag (ae (ak Q9 rfl) (ae (aD h 53 rfl wL rfl rfl) (ah (aa (aN hs rfl (fun c121 hs => ?_) (fun c121 hs => ?_))))))))))))
 refine ag (ae (au (v := v62) rfl) (ae (ak Ra rfl) (ae (aD h 53 rfl aZ rfl rfl) (tJ (R := fT) (vs := [(.int .i64 (gN.1.n))]) (xs := [gN.1.n]) h 54 kK rfl rfl rfl ⟨rfl, trivial⟩ rfl fun w u122 h => ?_))))
 obtain ⟨a123, hs⟩ := bM hs
 refine mO (R := fT) (m := [gN.1.n]) h 41 rfl (h.eF 54 rfl) kK rfl rfl rfl a123.1 a123.2 fun w u124 h => ae (aj (v := u124) rfl) (ah (az ?_))
 exact bU (u124, (pV ++ [gN.1.n])) ⟨h.cn _, hs⟩
 refine aG (az ?_)
 exact bU (v62, pV) ⟨h.cn _, hs⟩
 refine xG mixed (by kernel_rfl) h fun w h => aJ (au (v := v62) rfl) (aJ (bW dC rfl (h.eF 41 rfl)) (aJ (bJ rfl rfl) (aJ (au (v := (.bool (decide (((pV.length : Int) : Int) = 40)))) rfl) (iQ (b := decide (((pV.length : Int) : Int) = 40)) hs (fun qZ hs => ?_) (fun qZ hs => ?_)))))
 refine eY rfl (congrArg Value.bool qZ) (aJ (au (v := va) rfl) (eY rfl (congrArg Value.bool qZ) (aJ (ak tX rfl) (eY rfl (congrArg Value.bool qZ) (aJ (aD h 47 rfl aZ rfl rfl) (eY rfl (congrArg Value.bool qZ) ?_))))))
 obtain ⟨Gd, e127, hs⟩ := aQ hs
 obtain ⟨b129, o130, Zq, h, Xi, i128⟩ := h.Dm 1 55 rfl jI rfl (aI e127).1 (aI e127).2
 obtain ⟨UQ, rfl, g134⟩ := nN Xi
 replace h := h.di 56 g134.up
 refine aJ (i128 _ _ _ _ _ _ _ _ _ rfl rfl) (eY rfl (congrArg Value.bool qZ) (aJ (ak qV rfl) (eY rfl (congrArg Value.bool qZ) (aJ (eO (k := 2) h 55 rfl zl rfl rfl) (eY rfl (congrArg Value.bool qZ) (aJ (ak qU rfl) (eY rfl (congrArg Value.bool qZ) (aJ (aD h 47 rfl aZ rfl rfl) (eY rfl (congrArg Value.bool qZ) ?_)))))))))
 obtain ⟨UR, e136, hs⟩ := aQ hs
 obtain ⟨b138, o139, aai, h, r141, i137⟩ := h.Dm 56 57 rfl jA rfl (aI e136).1 (aI e136).2
 obtain ⟨u142, rfl, g143⟩ := Ay r141
 replace h := h.di 58 g143.up
 refine aJ (i137 _ _ _ _ _ _ _ _ _ rfl rfl) (eY rfl (congrArg Value.bool qZ) (aJ (ak pz rfl) (eY rfl (congrArg Value.bool qZ) (aJ (eO (k := 0) h 57 rfl aZ rfl rfl) (eY rfl (congrArg Value.bool qZ) (aJ (bJ rfl rfl) (aJ (cK (b := true) (v := (.bool (decide ((UR.op : Int) = 9)))) (congrArg Value.bool qZ) rfl) (uS ?_))))))))
 replace h := h.iO 43 46 rfl rfl (by decide) (aI UW).2 XB rfl
 refine az ?_
 exact bU (decide ((UR.op : Int) = 9)) ⟨h.cn _, hs⟩
 refine dG (b' := false) rfl (congrArg Value.bool qZ) rfl (dG (b' := false) rfl (congrArg Value.bool qZ) rfl (dG (b' := false) rfl (congrArg Value.bool qZ) rfl (dG (b' := false) rfl (congrArg Value.bool qZ) rfl (dG (b' := false) rfl (congrArg Value.bool qZ) rfl (dG (b' := false) rfl (congrArg Value.bool qZ) rfl (dG (b' := false) rfl (congrArg Value.bool qZ) rfl (dG (b' := false) rfl (congrArg Value.bool qZ) rfl (dG (b' := false) rfl (congrArg Value.bool qZ) rfl (dG (b' := false) rfl (congrArg Value.bool qZ) rfl (dG (b' := false) rfl (congrArg Value.bool qZ) rfl (dG (b' := false) rfl (congrArg Value.bool qZ) rfl (aJ (cK (b := false) (v := (.bool (false))) (congrArg Value.bool qZ) rfl) (uS ?_)))))))))))))
 replace h := h.iO 43 46 rfl rfl (by decide) (aI UW).2 XB rfl
 refine az ?_
 exact bU false ⟨h.cn _, hs⟩
 refine dh (aO (aO (bE (az ?_))))
 replace h := h.Cx 41 25 rfl rfl (by decide)
 replace h := (h.fK 10).moveC 42 10 rfl rfl (by decide)
 replace h := (h.fK 11).moveC 43 11 rfl rfl (by decide)
 replace h := (h.fK 12).moveC 44 12 rfl rfl (by decide)
 replace h := (h.fK 13).moveC 45 13 rfl rfl (by decide)
 exact bU (v62, pV, Cq, v65, H6, tY, v68, H7, wK, J8, FB) ⟨h.cn _, hs⟩
def OB (a : List dx) (b : LX.State) : Option (LX.State × Int) :=
  (uI a b).bind fun y3 => bif decide ((y3 : Int) ≠ 0) then some ((⟨[], [], 0, 0⟩ : LX.State), y3) else bif decide ((b.status : Int) ≠ 3) then some ((⟨[], [], 0, 0⟩ : LX.State), 7) else (za b).bind fun y8 => some ((⟨y8.frames, y8.cells, 0, 0⟩ : LX.State), 0)
theorem Qf (w0 : World) (M : BS) (hM : ∀ b, M b → b < w0.heap.size) (va : Value) (a : List dx) (ha : gL kF w0 BE M va a) (b : LX.State) (vb0 vb1 : Value) (hb0 : gL fo w0 BE M vb0 b.frames) (hb1 : gL (qj aM) w0 BE M vb1 b.cells) (r : LX.State × Int) (hs : OB a b = some r) :
    Calls Tryz.prog 30 #[va, (.agg #[vb0, vb1, (.int .i64 (b.status)), (.int .i64 (b.aV))])] w0 (fun e w' => Grow w0 w' ∧ ∃ wz, ∃ zx, e = .returned (.tuple #[.agg #[wz, zx, .int .i64 r.1.status, .int .i64 r.1.aV], .int .i64 r.2]) ∧ fH fo w' M wz r.1.frames ∧ fH (qj aM) w' M zx r.1.cells) := by
 refine aS (args := [va, (.agg #[vb0, vb1, (.int .i64 (b.status)), (.int .i64 (b.aV))])]) Tryz.func30 rfl Tryz.ntmps30 (Nat.le_of_ble_eq_true rfl) ?_
 have h := SH.init hM
 replace h := h.fI 1 ha bN
 replace h := h.fI 2 hb0 (dn bN)
 replace h := h.fI 3 hb1 (dn (dn bN))
 have uw := ha.cB
 refine ai (ag (oD (cs := [vb0, vb1, (.int .i64 (b.status)), (.int .i64 (b.aV))]) h 4 rfl rfl fun w b1 h => bY h 5 dw fun w b2 h => ae (aj (v := (.int .i64 (0))) rfl) (ah (aa (ai (ai (ag (ae (au (v := va) rfl) (ae (dE (vs := [vb0, vb1, (.int .i64 (b.status)), (.int .i64 (b.aV))]) h 4 rfl dw rfl rfl rfl) ?_)))))))))
 obtain ⟨y3, e4, hs⟩ := aQ hs
 refine bA FZ rfl rfl (wC _ _ h.lt va a (h.iI 1 rfl) b vb0 vb1 (h.iI 2 rfl) (h.iI 3 rfl) _ e4) ?_
 rintro _ w ⟨k5, rfl⟩
 refine ⟨_, rfl, ?_⟩
 replace h := h.grow k5
 refine ae (aj (v := (.int .i64 (y3))) rfl) (ah (aa (ai (ag (ae (au (v := (.int .i64 (y3))) rfl) (ae (gu rfl rfl) (ah (aa (aN hs rfl (fun c6 hs => ?_) (fun c6 hs => ?_))))))))))
 refine ai (ag (ae (dV (pv := []) (out := [(.slice none 0 0), (.slice none 0 0), (.int .i64 (0)), (.int .i64 (0))]) wm rfl rfl) (ae (au (v := (.int .i64 (y3))) rfl) (dB (vs := [(.slice none 0 0), (.slice none 0 0), (.int .i64 (0)), (.int .i64 (0))]) h 5 [(.slice none 0 0), (.slice none 0 0), (.int .i64 (0)), (.int .i64 (0))] rfl dw rfl rfl rfl rfl rfl (ay rfl (ay rfl (ay rfl (ay rfl bg)))) fun w h => ae (aj (v := (.int .i64 (y3))) rfl) (ah (aa (aK (aC (j3 (vs := [(.slice none 0 0), (.slice none 0 0), (.int .i64 (0)), (.int .i64 (0))]) (v2 := (.int .i64 (y3))) Tryz.results30 rfl rfl h 5 rfl dw rfl ?_)))))))))
 obtain rfl := Option.some.inj hs
 exact ⟨h.grown, _, _, rfl, gL.nil, gL.nil⟩
 refine aG (aa (ai (ai (ag (ae (ak nO rfl) (ae (aD h 4 rfl aZ rfl rfl) (ae (gu rfl rfl) (ah (aa (aN hs rfl (fun c7 hs => ?_) (fun c7 hs => ?_)))))))))))
 refine ai (ag (ae (dV (pv := []) (out := [(.slice none 0 0), (.slice none 0 0), (.int .i64 (0)), (.int .i64 (0))]) wm rfl rfl) (dB (vs := [(.slice none 0 0), (.slice none 0 0), (.int .i64 (0)), (.int .i64 (0))]) h 5 [(.slice none 0 0), (.slice none 0 0), (.int .i64 (0)), (.int .i64 (0))] rfl dw rfl rfl rfl rfl rfl (ay rfl (ay rfl (ay rfl (ay rfl bg)))) fun w h => ae (aj (v := (.int .i64 (7))) rfl) (ah (aa (aK (aC (j3 (vs := [(.slice none 0 0), (.slice none 0 0), (.int .i64 (0)), (.int .i64 (0))]) (v2 := (.int .i64 (7))) Tryz.results30 rfl rfl h 5 rfl dw rfl ?_))))))))
 obtain rfl := Option.some.inj hs
 exact ⟨h.grown, _, _, rfl, gL.nil, gL.nil⟩
 refine aG (aa (ai (ag (ae (dE (vs := [vb0, vb1, (.int .i64 (b.status)), (.int .i64 (b.aV))]) h 4 rfl dw rfl rfl rfl) ?_))))
 obtain ⟨y8, e9, hs⟩ := aQ hs
 refine bA JI rfl rfl (AR _ _ h.lt b vb0 vb1 (h.iI 2 rfl) (h.iI 3 rfl) _ e9) ?_
 rintro _ w ⟨k16, UY, TK, DZ, us13, rfl, h14, h15⟩
 refine ⟨_, rfl, ?_⟩
 replace h := h.KF 6 (C := (.two (.two (.two (.own aB.raw 49 UY (List.zip y8.frames DZ)) (.bL (aR aM 51 hn DZ (List.map aB.sub y8.frames)))) (.own (aT Val).raw 47 TK (List.zip y8.cells us13))) (.bL (aR aM 51 hn us13 (List.map (aT Val).sub y8.cells))) : Chunk)) k16 ⟨⟨⟨trivial, trivial⟩, trivial⟩, trivial⟩ h14 h15
 replace h := h.bX 6 9 (by decide) rfl rfl
 replace h := h.bX 6 8 (by decide) rfl rfl
 replace h := h.bX 6 7 (by decide) rfl rfl
 refine dB (vs := [UY, TK, (.int .i64 (y8.status)), (.int .i64 (y8.aV))]) h 4 [UY, TK, (.int .i64 (y8.status)), (.int .i64 (y8.aV))] rfl dw rfl rfl rfl rfl rfl (ay (h.dJ 6 rfl).one (ay (h.dJ 8 rfl).one (ay rfl (ay rfl bg)))) fun w h => ah (aa (ai (ag (ae (ak nO rfl) (fJ h 4 [UY, TK, (.int .i64 (0)), (.int .i64 (y8.aV))] rfl aZ rfl rfl rfl rfl rfl fun w h => ae (ak vG rfl) (fJ h 4 [UY, TK, (.int .i64 (0)), (.int .i64 (0))] rfl aZ rfl rfl rfl rfl rfl fun w h => ah (aa (ai (ag (ae (dE (vs := [UY, TK, (.int .i64 (0)), (.int .i64 (0))]) h 4 rfl dw rfl rfl rfl) (dB (vs := [UY, TK, (.int .i64 (0)), (.int .i64 (0))]) h 5 [UY, TK, (.int .i64 (0)), (.int .i64 (0))] rfl dw rfl rfl rfl rfl rfl (ay (h.dJ 6 rfl).one (ay (h.dJ 8 rfl).one (ay rfl (ay rfl bg)))) fun w h => ae (aj (v := (.int .i64 (0))) rfl) (ah (aa (aK (j3 (vs := [UY, TK, (.int .i64 (0)), (.int .i64 (0))]) (v2 := (.int .i64 (0))) Tryz.results30 rfl rfl h 5 rfl dw rfl ?_)))))))))))))))
 replace h := h.zL (N := aB) (R' := fo) 6 7 rfl rfl (by decide) rfl rz
 replace h := h.zL (N := (aT Val)) (R' := (qj aM)) 8 9 rfl rfl (by decide) rfl wP
 obtain rfl := Option.some.inj hs
 exact ⟨h.grown, _, _, rfl, h.QG 6 rfl, h.QG 8 rfl⟩
def qF (a : List Int) (b : List Int) (i3 : Int) (s : Unit) (Fa : Unit → Option Bool) : Option Bool :=
  (idx a i3).bind fun x9 => (idx b i3).bind fun mK => bif decide ((x9 : Int) ≠ mK) then some false else Fa ()
def qG (s : Unit) : Option Bool :=
  some true
def slices_Equal_int (a : List Int) (b : List Int) : Option Bool :=
  bif decide (((a.length : Int) : Int) ≠ (b.length : Int)) then some false else upto (qF a b) qG 0 ((a.length : Int)).toNat ()
theorem wG (w0 : World) (M : BS) (hM : ∀ b, M b → b < w0.heap.size) (va : Value) (a : List Int) (ha : gL fT w0 BE M va a) (vb : Value) (b : List Int) (hb : gL fT w0 BE M vb b) (r : Bool) (hs : slices_Equal_int a b = some r) :
    Calls Tryz.prog 18 #[va, vb] w0 (fun e w' => Grow w0 w' ∧ e = .returned (.bool r)) := by
 refine aS (args := [va, vb]) Tryz.func18 rfl Tryz.ntmps18 (Nat.le_of_ble_eq_true rfl) ?_
 have h := SH.init hM
 replace h := h.fI 1 ha bN
 replace h := h.fI 2 hb (dn bN)
 have uw := ha.cB
 have JM := hb.cB
 refine ai (ag (ae (aj (v := (.bool (false))) rfl) (ah (aa (ai (ai (ag (ae (au (v := va) rfl) (ae (bW dC rfl (h.iI 1 rfl)) (ae (au (v := vb) rfl) (ae (bW dC rfl (h.iI 2 rfl)) (ae (gu rfl rfl) (ah (aa (aN hs rfl (fun c1 hs => ?_) (fun c1 hs => ?_))))))))))))))))
 refine ai (ag (ae (aj (v := (.bool (false))) rfl) (ah (aa (aK (aC (cu (v := (.bool (false))) Tryz.results18 rfl ?_)))))))
 obtain rfl := Option.some.inj hs
 exact ⟨h.grown, rfl⟩
 refine aG (aa (ai (ai (ag (ae (au (v := va) rfl) (ae (bW dC rfl (h.iI 1 rfl)) (ae (au (v := (.int .i64 (0))) rfl) (ah (aa (aU ?_))))))))))
 have XQ := (h.iI 1 rfl).cB
 refine gP (σ := Nat × Int) (inl [4, 5, 13, 14, 15, 16, 17, 18, 19, 20, 21, 22, 23, 24, 25]) (fun ⟨k2, i3⟩ => [(13, (.int .i64 (i3)))]) (fun ⟨k2, i3⟩ w => SH w0 M BE w (hset [(1, .sr fT va a), (2, .sr fT vb b)]) ∧ i3 = (k2 : Int) ∧ upto (qF a b) qG i3 (((a.length : Int)).toNat - k2) () = some r) (fun ⟨k2, i3⟩ => ((a.length : Int)).toNat - k2) ⟨0, 0⟩ ⟨rfl, trivial⟩ ?_ ?_
 exact ⟨h.cn _, rfl, hs⟩
 rintro ⟨k2, i3⟩ w dD ⟨h, hik, hs⟩
 refine ai (ag ?_)
 refine ae (dS rfl rfl) (ah (aa ?_))
 refine ai (iJ rfl (fun e7 => ?_) (fun e7 => ?_))
 refine aG (aa ?_)
 rw [tT (by have := of_decide_eq_true e7; omega)] at hs
 generalize F6 : upto (qF a b) qG (i3 + 1) (((a.length : Int)).toNat - (k2 + 1)) = Fa at hs
 have Rt : jO (i3 + 1) := (by have := of_decide_eq_true e7; have := XQ; exact jO.mk (by omega) (by omega))
 refine ai (aU (ai (ag (ae (au (v := (.int .i64 (i3))) rfl) (ae (aj (v := (.int .i64 (i3))) rfl) (ah (aa (ai (xG mixed (by kernel_rfl) h fun w h => aJ (au (v := va) rfl) (aJ (au (v := (.int .i64 (i3))) rfl) ?_))))))))))
 obtain ⟨x9, e10, hs⟩ := aQ hs
 obtain ⟨b12, o13, ZT, h, Xz, i11⟩ := h.xD 1 3 rfl dC rfl (aI e10).1 (aI e10).2
 obtain rfl := Xz
 refine aJ (i11 _ _ _ _ _ _ _ _ _ rfl rfl) (aJ (eO (k := 0) h 3 rfl aZ rfl rfl) (aJ (au (v := vb) rfl) (aJ (au (v := (.int .i64 (i3))) rfl) ?_)))
 obtain ⟨mK, e17, hs⟩ := aQ hs
 obtain ⟨b19, o20, XD, h, XE, i18⟩ := h.xD 2 4 rfl dC rfl (aI e17).1 (aI e17).2
 obtain rfl := XE
 refine aJ (i18 _ _ _ _ _ _ _ _ _ rfl rfl) (aJ (eO (k := 0) h 4 rfl aZ rfl rfl) (aJ (gu rfl rfl) (uS (aa (aN hs rfl (fun c23 hs => ?_) (fun c23 hs => ?_))))))
 refine ai (ag (ae (aj (v := (.bool (false))) rfl) (ah (aa (aK (aH (aC (aC (aH (aC (cu (v := (.bool (false))) Tryz.results18 rfl ?_)))))))))))
 obtain rfl := Option.some.inj hs
 exact ⟨h.grown, rfl⟩
 refine aG (aA (aa (ag (ae (dH rfl rfl Rt) (ae (au (v := (.int .i64 ((i3 + 1)))) rfl) (ah (az ?_)))))))
 subst F6
 exact jN ⟨k2 + 1, i3 + 1⟩ ⟨h.cn _, by omega, hs⟩ (by have := of_decide_eq_true e7; dsimp only; omega)
 rw [tV (by have := of_decide_eq_false e7; omega)] at hs
 refine dh (aO (aO (bE (aa (ai (ag (ae (aj (v := (.bool (true))) rfl) (ah (aa (aK (cu (v := (.bool (true))) Tryz.results18 rfl ?_)))))))))))
 obtain rfl := Option.some.inj hs
 exact ⟨h.grown, rfl⟩
def oJ (N : Nat) : Option Bool :=
  (ko N).bind fun y1 => (wX N y1).bind fun y7 => (Sd y7).bind fun y13 => (J9 N y7 y13.1 100).bind fun y21 => (OB y7 y21.1).bind fun y31 => (J9 N y7 y31.1 1).bind fun y38 => (J9 N y7 y38.1 100).bind fun sW => bif ((((decide ((y13.2 : Int) = 0) && decide ((y21.2.2.2 : Int) = 0)) && decide ((y31.2 : Int) = 0)) && decide ((y38.2.2.2 : Int) = 0)) && decide ((sW.2.2.2 : Int) = 0)) then (slices_Equal_int y21.2.1 [9]).bind fun XR => bif ((XR && decide (((y38.2.1.length : Int) : Int) = 0)) && decide ((y38.2.2.1 : Int) = 1)) then (slices_Equal_int sW.2.1 [4]).bind fun K6 => bif K6 then (uI y7 y38.1).bind fun wK => some (decide ((wK : Int) = 0)) else some false else some false else some false
theorem wY (N : Nat) (w0 : World) (M : BS) (hM : ∀ b, M b → b < w0.heap.size) (hT : uj Tryz.prog 4 w0)  (r : Bool) (hs : oJ N = some r) :
    Calls Tryz.prog 26 #[] w0 (fun e w' => Grow w0 w' ∧ e = .returned (.bool r)) := by
 refine aS (args := []) Tryz.func26 rfl Tryz.ntmps26 (Nat.le_of_ble_eq_true rfl) ?_
 have h := SH.init hM
 refine ai (ag (ae (aj (v := (.bool (false))) rfl) (ah (aa (ai (ag ?_))))))
 obtain ⟨y1, e2, hs⟩ := aQ hs
 refine bA Wt rfl rfl (zu N _ _ h.lt (hT.go h.keep)  _ e2) ?_
 rintro _ w ⟨k6, u3, rfl, g4, g5⟩
 refine ⟨_, rfl, ?_⟩
 replace h := h.kJ 1 k6 g4 g5
 obtain ⟨y7, e8, hs⟩ := aQ hs
 refine bA Ws rfl rfl (Bg N _ _ h.lt u3 y1 (h.eF 1 rfl) _ e8) ?_
 rintro _ w ⟨k12, u9, rfl, g10, g11⟩
 refine ⟨_, rfl, ?_⟩
 replace h := h.kJ 2 k12 g10 g11
 refine ae (aj (v := u9) rfl) (ah (aa (ai (ag (ae (au (v := u9) rfl) ?_)))))
 obtain ⟨y13, e14, hs⟩ := aQ hs
 refine bA Wp rfl rfl (Sg _ _ h.lt u9 y7 (h.eF 2 rfl) _ e14) ?_
 rintro _ w ⟨k19, Fb, Fw, rfl, g16, g18⟩
 refine ⟨_, rfl, ?_⟩
 replace h := h.Ie 3 k19 g16
 replace h := h.di 4 g18.up
 refine ae (au (v := (.tuple #[(.agg #[Fb, Fw, (.int .i64 (y13.1.status)), (.int .i64 (y13.1.aV))]), (.int .i64 (y13.2))])) rfl) (ae (bF rfl rfl) (ae (bF rfl rfl) (bY h 5 dw fun w b20 h => dB (vs := [Fb, Fw, (.int .i64 (y13.1.status)), (.int .i64 (y13.1.aV))]) h 5 [Fb, Fw, (.int .i64 (y13.1.status)), (.int .i64 (y13.1.aV))] rfl dw rfl rfl rfl rfl rfl (ay (h.iq 3 rfl).one (ay (h.iq 4 rfl).one (ay rfl (ay rfl bg)))) fun w h => ae (aj (v := (.int .i64 (y13.2))) rfl) (ah (aa (ai (ag (ae (au (v := u9) rfl) (ae (dE (vs := [Fb, Fw, (.int .i64 (y13.1.status)), (.int .i64 (y13.1.aV))]) h 5 rfl dw rfl rfl rfl) ?_)))))))))
 replace h := h.freeze 2 rfl
 obtain ⟨y21, e22, hs⟩ := aQ hs
 refine bA Mw rfl rfl (GK N _ _ h.lt u9 y7 (h.iq 2 rfl) y13.1 Fb Fw (h.mH 3 rfl) (h.mH 4 rfl) 100 _ e22) ?_
 rintro _ w ⟨Y8, u23, u25, u27, rfl, g24, ZB, g28, g29⟩
 refine ⟨_, rfl, ?_⟩
 replace h := h.kJ 8 Y8 g28 g29
 replace h := h.di 6 g24.X4
 replace h := h.di 7 ZB.X4.up
 refine ae (au (v := (.tuple #[(.agg #[u23, u25, (.int .i64 (y21.1.status)), (.int .i64 (y21.1.aV))]), u27, (.int .i64 (y21.2.2.1)), (.int .i64 (y21.2.2.2))])) rfl) (ae (bF rfl rfl) (ae (bF rfl rfl) (ae (bF rfl rfl) (ae (bF rfl rfl) (dB (vs := [u23, u25, (.int .i64 (y21.1.status)), (.int .i64 (y21.1.aV))]) h 5 [u23, u25, (.int .i64 (y21.1.status)), (.int .i64 (y21.1.aV))] rfl dw rfl rfl rfl rfl rfl (ay (h.iq 6 rfl).one (ay (h.iq 7 rfl).one (ay rfl (ay rfl bg)))) fun w h => ae (aj (v := u27) rfl) (ae (aj (v := (.int .i64 (y21.2.2.1))) rfl) (ae (aj (v := (.int .i64 (y21.2.2.2))) rfl) (ah (aa (ai (ag (ae (au (v := u9) rfl) (ae (dE (vs := [u23, u25, (.int .i64 (y21.1.status)), (.int .i64 (y21.1.aV))]) h 5 rfl dw rfl rfl rfl) ?_)))))))))))))
 obtain ⟨y31, e32, hs⟩ := aQ hs
 refine bA Wq rfl rfl (Qf _ _ h.lt u9 y7 (h.mH 2 rfl) y21.1 u23 u25 (h.mH 6 rfl) (h.mH 7 rfl) _ e32) ?_
 rintro _ w ⟨k37, u33, u35, rfl, Zb, g36⟩
 refine ⟨_, rfl, ?_⟩
 replace h := h.Ie 9 k37 Zb
 replace h := h.di 10 g36.up
 refine ae (au (v := (.tuple #[(.agg #[u33, u35, (.int .i64 (y31.1.status)), (.int .i64 (y31.1.aV))]), (.int .i64 (y31.2))])) rfl) (ae (bF rfl rfl) (ae (bF rfl rfl) (dB (vs := [u33, u35, (.int .i64 (y31.1.status)), (.int .i64 (y31.1.aV))]) h 5 [u33, u35, (.int .i64 (y31.1.status)), (.int .i64 (y31.1.aV))] rfl dw rfl rfl rfl rfl rfl (ay (h.iq 9 rfl).one (ay (h.iq 10 rfl).one (ay rfl (ay rfl bg)))) fun w h => ae (aj (v := (.int .i64 (y31.2))) rfl) (ah (aa (ai (ag (ae (au (v := u9) rfl) (ae (dE (vs := [u33, u35, (.int .i64 (y31.1.status)), (.int .i64 (y31.1.aV))]) h 5 rfl dw rfl rfl rfl) ?_)))))))))
 obtain ⟨y38, e39, hs⟩ := aQ hs
 refine bA Mw rfl rfl (GK N _ _ h.lt u9 y7 (h.iq 2 rfl) y31.1 u33 u35 (h.mH 9 rfl) (h.mH 10 rfl) 1 _ e39) ?_
 rintro _ w ⟨k47, u40, u42, u44, rfl, g41, g43, g45, g46⟩
 refine ⟨_, rfl, ?_⟩
 replace h := h.kJ 13 k47 g45 g46
 replace h := h.di 11 g41.X4
 replace h := h.di 12 g43.X4.up
 refine ae (au (v := (.tuple #[(.agg #[u40, u42, (.int .i64 (y38.1.status)), (.int .i64 (y38.1.aV))]), u44, (.int .i64 (y38.2.2.1)), (.int .i64 (y38.2.2.2))])) rfl) (ae (bF rfl rfl) (ae (bF rfl rfl) (ae (bF rfl rfl) (ae (bF rfl rfl) (dB (vs := [u40, u42, (.int .i64 (y38.1.status)), (.int .i64 (y38.1.aV))]) h 5 [u40, u42, (.int .i64 (y38.1.status)), (.int .i64 (y38.1.aV))] rfl dw rfl rfl rfl rfl rfl (ay (h.iq 11 rfl).one (ay (h.iq 12 rfl).one (ay rfl (ay rfl bg)))) fun w h => ae (aj (v := u44) rfl) (ae (aj (v := (.int .i64 (y38.2.2.1))) rfl) (ae (aj (v := (.int .i64 (y38.2.2.2))) rfl) (ah (aa (ai (ag (ae (au (v := u9) rfl) (ae (dE (vs := [u40, u42, (.int .i64 (y38.1.status)), (.int .i64 (y38.1.aV))]) h 5 rfl dw rfl rfl rfl) ?_)))))))))))))
 obtain ⟨sW, e49, hs⟩ := aQ hs
 refine bA Mw rfl rfl (GK N _ _ h.lt u9 y7 (h.iq 2 rfl) y38.1 u40 u42 (h.mH 11 rfl) (h.mH 12 rfl) 100 _ e49) ?_
 rintro _ w ⟨k57, u50, Vu, R6, rfl, g51, g53, g55, g56⟩
 refine ⟨_, rfl, ?_⟩
 replace h := h.kJ 16 k57 g55 g56
 replace h := h.di 14 g51.X4
 replace h := h.di 15 g53.X4.up
 refine ae (au (v := (.tuple #[(.agg #[u50, Vu, (.int .i64 (sW.1.status)), (.int .i64 (sW.1.aV))]), R6, (.int .i64 (sW.2.2.1)), (.int .i64 (sW.2.2.2))])) rfl) (ae (bF rfl rfl) (ae (bF rfl rfl) (ae (bF rfl rfl) (ae (bF rfl rfl) (bY h 17 dw fun w b58 h => dB (vs := [u50, Vu, (.int .i64 (sW.1.status)), (.int .i64 (sW.1.aV))]) h 17 [u50, Vu, (.int .i64 (sW.1.status)), (.int .i64 (sW.1.aV))] rfl dw rfl rfl rfl rfl rfl (ay (h.iq 14 rfl).one (ay (h.iq 15 rfl).one (ay rfl (ay rfl bg)))) fun w h => ae (aj (v := R6) rfl) (ae (aj (v := (.int .i64 (sW.2.2.1))) rfl) (ae (aj (v := (.int .i64 (sW.2.2.2))) rfl) (ah (aa (ai (ag (ae (au (v := (.int .i64 (y13.2))) rfl) (ae (bJ rfl rfl) (ae (au (v := (.bool (decide ((y13.2 : Int) = 0)))) rfl) (aF rfl rfl (fun q => au (v := (.int .i64 (y21.2.2.2))) rfl) (aF rfl rfl (fun q => bJ (dA q) rfl) (ae (fV rfl rfl ma) (ae (au (v := (.bool ((decide ((y13.2 : Int) = 0) && decide ((y21.2.2.2 : Int) = 0))))) rfl) (aF rfl rfl (fun q => au (v := (.int .i64 (y31.2))) rfl) (aF rfl rfl (fun q => bJ (dA q) rfl) (ae (fV rfl rfl ma) ?_)))))))))))))))))))))
 refine ae (au (v := (.bool (((decide ((y13.2 : Int) = 0) && decide ((y21.2.2.2 : Int) = 0)) && decide ((y31.2 : Int) = 0))))) rfl) (aF rfl rfl (fun q => au (v := (.int .i64 (y38.2.2.2))) rfl) (aF rfl rfl (fun q => bJ (dA q) rfl) (ae (fV rfl rfl ma) (ae (au (v := (.bool ((((decide ((y13.2 : Int) = 0) && decide ((y21.2.2.2 : Int) = 0)) && decide ((y31.2 : Int) = 0)) && decide ((y38.2.2.2 : Int) = 0))))) rfl) (aF rfl rfl (fun q => au (v := (.int .i64 (sW.2.2.2))) rfl) (aF rfl rfl (fun q => bJ (dA q) rfl) (ae (fV rfl rfl ma) (ae (au (v := (.bool (((((decide ((y13.2 : Int) = 0) && decide ((y21.2.2.2 : Int) = 0)) && decide ((y31.2 : Int) = 0)) && decide ((y38.2.2.2 : Int) = 0)) && decide ((sW.2.2.2 : Int) = 0))))) rfl) (iQ (b := ((((decide ((y13.2 : Int) = 0) && decide ((y21.2.2.2 : Int) = 0)) && decide ((y31.2 : Int) = 0)) && decide ((y38.2.2.2 : Int) = 0)) && decide ((sW.2.2.2 : Int) = 0))) hs (fun c59 hs => ?_) (fun c59 hs => ?_))))))))))
 refine dK rfl (congrArg Value.bool c59) (ae (au (v := u27) rfl) (dK rfl (congrArg Value.bool c59) (tJ (R := fT) (vs := [(.int .i64 (9))]) (xs := [9]) h 18 kK rfl rfl rfl ⟨rfl, trivial⟩ rfl fun w u60 h => dK rfl (congrArg Value.bool c59) ?_)))
 obtain ⟨XR, e62, hs⟩ := aQ hs
 refine bA Rb rfl rfl (wG _ _ h.lt u27 y21.2.1 (h.eF 8 rfl) u60 [9] (h.eF 18 rfl) _ e62) ?_
 rintro _ w ⟨TL, rfl⟩
 refine ⟨_, rfl, ?_⟩
 replace h := h.grow TL
 refine ae (cK (b := true) (v := (.bool (XR))) (congrArg Value.bool c59) rfl) (ae (au (v := (.bool (XR))) rfl) (aF rfl rfl (fun q => au (v := u44) rfl) (aF rfl rfl (fun q => bW dC (dA q) (h.eF 13 rfl)) (aF rfl rfl (fun q => bJ (dA q) rfl) (ae (fV rfl rfl ma) (ae (au (v := (.bool ((XR && decide (((y38.2.1.length : Int) : Int) = 0))))) rfl) (aF rfl rfl (fun q => au (v := (.int .i64 (y38.2.2.1))) rfl) (aF rfl rfl (fun q => bJ (dA q) rfl) (ae (fV rfl rfl ma) (ae (au (v := (.bool (((XR && decide (((y38.2.1.length : Int) : Int) = 0)) && decide ((y38.2.2.1 : Int) = 1))))) rfl) (iQ (b := ((XR && decide (((y38.2.1.length : Int) : Int) = 0)) && decide ((y38.2.2.1 : Int) = 1))) hs (fun c64 hs => ?_) (fun c64 hs => ?_))))))))))))
 refine dK rfl (congrArg Value.bool c64) (ae (au (v := R6) rfl) (dK rfl (congrArg Value.bool c64) (tJ (R := fT) (vs := [(.int .i64 (4))]) (xs := [4]) h 19 kK rfl rfl rfl ⟨rfl, trivial⟩ rfl fun w u65 h => dK rfl (congrArg Value.bool c64) ?_)))
 obtain ⟨K6, Xx, hs⟩ := aQ hs
 refine bA Rb rfl rfl (wG _ _ h.lt R6 sW.2.1 (h.eF 16 rfl) u65 [4] (h.eF 19 rfl) _ Xx) ?_
 rintro _ w ⟨k68, rfl⟩
 refine ⟨_, rfl, ?_⟩
 replace h := h.grow k68
 refine ae (cK (b := true) (v := (.bool (K6))) (congrArg Value.bool c64) rfl) (ae (au (v := (.bool (K6))) rfl) (iQ (b := K6) hs (fun Nb hs => ?_) (fun Nb hs => ?_)))
 refine dK rfl (congrArg Value.bool Nb) (ae (au (v := u9) rfl) (dK rfl (congrArg Value.bool Nb) (ae (dE (vs := [u40, u42, (.int .i64 (y38.1.status)), (.int .i64 (y38.1.aV))]) h 5 rfl dw rfl rfl rfl) (dK rfl (congrArg Value.bool Nb) ?_))))
 obtain ⟨wK, R7, hs⟩ := aQ hs
 refine bA FZ rfl rfl (wC _ _ h.lt u9 y7 (h.mH 2 rfl) y38.1 u40 u42 (h.mH 11 rfl) (h.mH 12 rfl) _ R7) ?_
 rintro _ w ⟨k72, rfl⟩
 refine ⟨_, rfl, ?_⟩
 replace h := h.grow k72
 refine dK rfl (congrArg Value.bool Nb) (ae (bJ rfl rfl) (ae (cK (b := true) (v := (.bool (decide ((wK : Int) = 0)))) (congrArg Value.bool Nb) rfl) (ae (aj (v := (.bool (decide ((wK : Int) = 0)))) rfl) (ah (aa (aK (cu (v := (.bool (decide ((wK : Int) = 0)))) Tryz.results26 rfl ?_)))))))
 obtain rfl := Option.some.inj hs
 exact ⟨h.grown, rfl⟩
 refine bH (b' := false) rfl (congrArg Value.bool Nb) rfl (bH (b' := false) rfl (congrArg Value.bool Nb) rfl (bH (b' := false) rfl (congrArg Value.bool Nb) rfl (bH (b' := false) rfl (congrArg Value.bool Nb) rfl (ae (cK (b := false) (v := (.bool (false))) (congrArg Value.bool Nb) rfl) (ae (aj (v := (.bool (false))) rfl) (ah (aa (aK (cu (v := (.bool (false))) Tryz.results26 rfl ?_)))))))))
 obtain rfl := Option.some.inj hs
 exact ⟨h.grown, rfl⟩
 refine bH (b' := false) rfl (congrArg Value.bool c64) rfl (bH (b' := false) rfl (congrArg Value.bool c64) rfl (bH (b' := false) rfl (congrArg Value.bool c64) rfl (ae (cK (b := false) (v := (.bool (false))) (congrArg Value.bool c64) rfl) (ae (au (v := (.bool (false))) rfl) (bH (b' := false) rfl rfl rfl (bH (b' := false) rfl rfl rfl (bH (b' := false) rfl rfl rfl (bH (b' := false) rfl rfl rfl (ae (cK (b := false) (v := (.bool (false))) rfl rfl) (ae (aj (v := (.bool (false))) rfl) (ah (aa (aK (cu (v := (.bool (false))) Tryz.results26 rfl ?_))))))))))))))
 obtain rfl := Option.some.inj hs
 exact ⟨h.grown, rfl⟩
 refine bH (b' := false) rfl (congrArg Value.bool c59) rfl (bH (b' := false) rfl (congrArg Value.bool c59) rfl (bH (b' := false) rfl (congrArg Value.bool c59) rfl (ae (cK (b := false) (v := (.bool (false))) (congrArg Value.bool c59) rfl) (ae (au (v := (.bool (false))) rfl) (bH (b' := false) rfl rfl rfl (bH (b' := false) rfl rfl rfl (bH (b' := false) rfl rfl rfl (ae (cK (b := false) (v := (.bool (false))) rfl rfl) (ae (au (v := (.bool (false))) rfl) (bH (b' := false) rfl rfl rfl (bH (b' := false) rfl rfl rfl (ae (cK (b := false) (v := (.bool (false))) rfl rfl) (ae (au (v := (.bool (false))) rfl) (bH (b' := false) rfl rfl rfl (bH (b' := false) rfl rfl rfl (bH (b' := false) rfl rfl rfl (ae (cK (b := false) (v := (.bool (false))) rfl rfl) (ae (au (v := (.bool (false))) rfl) (bH (b' := false) rfl rfl rfl (bH (b' := false) rfl rfl rfl (bH (b' := false) rfl rfl rfl (bH (b' := false) rfl rfl rfl (ae (cK (b := false) (v := (.bool (false))) rfl rfl) ?_)))))))))))))))))))))))
 refine ae (aj (v := (.bool (false))) rfl) (ah (aa (aK (cu (v := (.bool (false))) Tryz.results26 rfl ?_))))
 obtain rfl := Option.some.inj hs
 exact ⟨h.grown, rfl⟩
def lS (a : List Val) (b : List Val) (i3 : Int) (s : Unit) (Fa : Unit → Option Bool) : Option Bool :=
  (idx a i3).bind fun x9 => (idx b i3).bind fun mK => bif !(decide (x9.kind = mK.kind) && decide (x9.n = mK.n)) then some false else Fa ()
def oW (s : Unit) : Option Bool :=
  some true
def jL (a : List Val) (b : List Val) : Option Bool :=
  bif decide (((a.length : Int) : Int) ≠ (b.length : Int)) then some false else upto (lS a b) oW 0 ((a.length : Int)).toNat ()
theorem uP (w0 : World) (M : BS) (hM : ∀ b, M b → b < w0.heap.size) (va : Value) (a : List Val) (ha : gL aM w0 BE M va a) (vb : Value) (b : List Val) (hb : gL aM w0 BE M vb b) (r : Bool) (hs : jL a b = some r) :
    Calls Tryz.prog 47 #[va, vb] w0 (fun e w' => Grow w0 w' ∧ e = .returned (.bool r)) := by
 refine aS (args := [va, vb]) Tryz.func47 rfl Tryz.ntmps47 (Nat.le_of_ble_eq_true rfl) ?_
 have h := SH.init hM
 replace h := h.fI 1 ha bN
 replace h := h.fI 2 hb (dn bN)
 have uw := ha.cB
 have JM := hb.cB
 refine ai (ag (ae (aj (v := (.bool (false))) rfl) (ah (aa (ai (ai (ag (ae (au (v := va) rfl) (ae (bW bK rfl (h.iI 1 rfl)) (ae (au (v := vb) rfl) (ae (bW bK rfl (h.iI 2 rfl)) (ae (gu rfl rfl) (ah (aa (aN hs rfl (fun c1 hs => ?_) (fun c1 hs => ?_))))))))))))))))
 refine ai (ag (ae (aj (v := (.bool (false))) rfl) (ah (aa (aK (aC (cu (v := (.bool (false))) Tryz.results47 rfl ?_)))))))
 obtain rfl := Option.some.inj hs
 exact ⟨h.grown, rfl⟩
 refine aG (aa (ai (ai (ag (ae (au (v := va) rfl) (ae (bW bK rfl (h.iI 1 rfl)) (ae (au (v := (.int .i64 (0))) rfl) (ah (aa (aU ?_))))))))))
 have XQ := (h.iI 1 rfl).cB
 refine gP (σ := Nat × Int) (inl [4, 5, 13, 14, 15, 16, 17, 18, 19, 20, 21, 22, 23, 24, 25]) (fun ⟨k2, i3⟩ => [(13, (.int .i64 (i3)))]) (fun ⟨k2, i3⟩ w => SH w0 M BE w (hset [(1, .sr aM va a), (2, .sr aM vb b)]) ∧ i3 = (k2 : Int) ∧ upto (lS a b) oW i3 (((a.length : Int)).toNat - k2) () = some r) (fun ⟨k2, i3⟩ => ((a.length : Int)).toNat - k2) ⟨0, 0⟩ ⟨rfl, trivial⟩ ?_ ?_
 exact ⟨h.cn _, rfl, hs⟩
 rintro ⟨k2, i3⟩ w dD ⟨h, hik, hs⟩
 refine ai (ag ?_)
 refine ae (dS rfl rfl) (ah (aa ?_))
 refine ai (iJ rfl (fun e7 => ?_) (fun e7 => ?_))
 refine aG (aa ?_)
 rw [tT (by have := of_decide_eq_true e7; omega)] at hs
 generalize F6 : upto (lS a b) oW (i3 + 1) (((a.length : Int)).toNat - (k2 + 1)) = Fa at hs
 have Rt : jO (i3 + 1) := (by have := of_decide_eq_true e7; have := XQ; exact jO.mk (by omega) (by omega))
 refine ai (aU (ai (ag (ae (au (v := (.int .i64 (i3))) rfl) (ae (aj (v := (.int .i64 (i3))) rfl) (ah (aa (ai (xG mixed (by kernel_rfl) h fun w h => aJ (au (v := va) rfl) (aJ (au (v := (.int .i64 (i3))) rfl) ?_))))))))))
 obtain ⟨x9, e10, hs⟩ := aQ hs
 obtain ⟨b12, o13, ZT, h, Xz, i11⟩ := h.xD 1 3 rfl bK rfl (aI e10).1 (aI e10).2
 obtain rfl := Xz
 refine aJ (i11 _ _ _ _ _ _ _ _ _ rfl rfl) (aJ (jg (k := 0) (vs := [(.int .i64 (x9.kind)), (.int .i64 (x9.n))]) h 3 rfl bV rfl rfl rfl (Nat.le_of_ble_eq_true rfl)) (aJ (au (v := vb) rfl) (aJ (au (v := (.int .i64 (i3))) rfl) ?_)))
 obtain ⟨mK, e17, hs⟩ := aQ hs
 obtain ⟨b19, o20, XD, h, XE, i18⟩ := h.xD 2 4 rfl bK rfl (aI e17).1 (aI e17).2
 obtain rfl := XE
 refine aJ (i18 _ _ _ _ _ _ _ _ _ rfl rfl) (aJ (jg (k := 0) (vs := [(.int .i64 (mK.kind)), (.int .i64 (mK.n))]) h 4 rfl bV rfl rfl rfl (Nat.le_of_ble_eq_true rfl)) (aJ (VV Oo rfl rfl) (uS (aa (aN hs rfl (fun c23 hs => ?_) (fun c23 hs => ?_))))))
 refine ai (ag (ae (aj (v := (.bool (false))) rfl) (ah (aa (aK (aH (aC (aC (aH (aC (cu (v := (.bool (false))) Tryz.results47 rfl ?_)))))))))))
 obtain rfl := Option.some.inj hs
 exact ⟨h.grown, rfl⟩
 refine aG (aA (aa (ag (ae (dH rfl rfl Rt) (ae (au (v := (.int .i64 ((i3 + 1)))) rfl) (ah (az ?_)))))))
 subst F6
 exact jN ⟨k2 + 1, i3 + 1⟩ ⟨h.cn _, by omega, hs⟩ (by have := of_decide_eq_true e7; dsimp only; omega)
 rw [tV (by have := of_decide_eq_false e7; omega)] at hs
 refine dh (aO (aO (bE (aa (ai (ag (ae (aj (v := (.bool (true))) rfl) (ah (aa (aK (cu (v := (.bool (true))) Tryz.results47 rfl ?_)))))))))))
 obtain rfl := Option.some.inj hs
 exact ⟨h.grown, rfl⟩
def vO (b : List (List Val)) (i3 : Int) (x4 : List Val) (s : Unit) (Fa : Unit → Option Bool) : Option Bool :=
  (idx b i3).bind fun mK => (jL x4 mK).bind fun y25 => bif (!y25) then some false else Fa ()
def zf (s : Unit) : Option Bool :=
  some true
def Bc (a : List (List Val)) (b : List (List Val)) : Option Bool :=
  bif decide (((a.length : Int) : Int) ≠ (b.length : Int)) then some false else dU (vO b) zf 0 a ()
theorem Lu (w0 : World) (M : BS) (hM : ∀ b, M b → b < w0.heap.size) (va : Value) (a : List (List Val)) (ha : gL (qj aM) w0 BE M va a) (vb : Value) (b : List (List Val)) (hb : gL (qj aM) w0 BE M vb b) (r : Bool) (hs : Bc a b = some r) :
    Calls Tryz.prog 44 #[va, vb] w0 (fun e w' => Grow w0 w' ∧ e = .returned (.bool r)) := by
 refine aS (args := [va, vb]) Tryz.func44 rfl Tryz.ntmps44 (Nat.le_of_ble_eq_true rfl) ?_
 have h := SH.init hM
 replace h := h.fI 1 ha bN
 replace h := h.fI 2 hb (dn bN)
 have uw := ha.cB
 have JM := hb.cB
 refine ai (ag (ae (aj (v := (.bool (false))) rfl) (ah (aa (ai (ag (ae (au (v := va) rfl) (ae (au (v := vb) rfl) (jE (args := [va, vb, (.func (.func 79) #[] #[])]) WE rfl rfl (aS (args := [va, vb, (.func (.func 79) #[] #[])]) Tryz.func78 rfl Tryz.ntmps78 (Nat.le_of_ble_eq_true rfl) (ai (ag (ae (aj (v := (.bool (false))) rfl) (ah (aa (ai (ai (ag (ae (au (v := va) rfl) (ae (bW dZ rfl (h.iI 1 rfl)) (ae (au (v := vb) rfl) (ae (bW dZ rfl (h.iI 2 rfl)) (ae (gu rfl rfl) ?_)))))))))))))))))))))))
 refine ah (aa (aN hs rfl (fun c1 hs => ?_) (fun c1 hs => ?_)))
 refine ai (ag (ae (aj (v := (.bool (false))) rfl) (ah (aa (aK (aC (cu (v := (.bool (false))) Tryz.results78 rfl (⟨_, rfl, ?_⟩))))))))
 refine ae (aj (v := (.bool (false))) rfl) (ah (aa (aK (cu (v := (.bool (false))) Tryz.results44 rfl ?_))))
 obtain rfl := Option.some.inj hs
 exact ⟨h.grown, rfl⟩
 refine aG (aa (ai (ai (ag (ae (au (v := va) rfl) (ae (bW dZ rfl (h.iI 1 rfl)) (ae (au (v := (.int .i64 (0))) rfl) (ah (aa (aU (gP (σ := Nat × Int) (inl [6, 7, 8, 9, 17, 18, 19, 20, 21, 22, 23, 24, 25, 26, 27, 28, 29, 30, 31]) (fun ⟨k2, i3⟩ => [(17, (.int .i64 (i3)))]) (fun ⟨k2, i3⟩ w => SH w0 M BE w (hset [(1, .sr (qj aM) va a), (2, .sr (qj aM) vb b)]) ∧ i3 = (k2 : Int) ∧ dU (vO b) zf i3 (a.drop k2) () = some r) (fun ⟨k2, i3⟩ => a.length - k2) ⟨0, 0⟩ ⟨rfl, trivial⟩ ?_ ?_)))))))))))
 exact ⟨h.cn _, rfl, hs⟩
 rintro ⟨k2, i3⟩ w dD ⟨h, hik, hs⟩
 refine ai (ag ?_)
 refine ae (dS rfl rfl) (ah (aa ?_))
 refine ai (iJ rfl (fun e7 => ?_) (fun e7 => ?_))
 refine aG (aa ?_)
 obtain ⟨x4, WN, WO⟩ := gy (hik ▸ e7)
 rw [WO, gU] at hs
 generalize F6 : dU (vO b) zf (i3 + 1) (a.drop (k2 + 1)) = Fa at hs
 have Rt := gD ((h.iI 1 rfl)).cB hik e7
 refine ai (aU (ai (ag (ae (au (v := (.int .i64 (i3))) rfl) ?_))))
 obtain ⟨b10, o11, WQ, h, WR, i9⟩ := h.xD 1 3 rfl dZ rfl (iU hik) (gB hik WN)
 obtain ⟨IB, rfl, g15⟩ := WR
 replace h := h.di 4 g15.up
 refine ae (i9 _ _ _ _ _ _ _ _ _ rfl rfl) (ae (eO (k := 0) h 3 rfl kg rfl rfl) (ae (aj (v := (.int .i64 (i3))) rfl) (ae (aj (v := IB) rfl) (ah (aa (ai (ag (ae (au (v := vb) rfl) (ae (au (v := (.int .i64 (i3))) rfl) ?_)))))))))
 obtain ⟨mK, e17, hs⟩ := aQ hs
 obtain ⟨b19, o20, XD, h, XE, i18⟩ := h.xD 2 5 rfl dZ rfl (aI e17).1 (aI e17).2
 obtain ⟨u23, rfl, g24⟩ := XE
 replace h := h.di 6 g24.up
 refine ae (i18 _ _ _ _ _ _ _ _ _ rfl rfl) (ae (eO (k := 0) h 5 rfl kg rfl rfl) (ae (aj (v := u23) rfl) (ah (aa (ai (ag (ae (au (v := (.func (.func 79) #[] #[])) rfl) (ae (au (v := IB) rfl) (ae (au (v := u23) rfl) (jE (args := [IB, u23]) WG rfl rfl (aS (args := [IB, u23]) Tryz.func79 rfl Tryz.ntmps79 (Nat.le_of_ble_eq_true rfl) (ai (ag (ae (aj (v := (.bool (false))) rfl) (ah (aa (ai (ag (ae (au (v := IB) rfl) (ae (au (v := u23) rfl) ?_))))))))))))))))))))
 obtain ⟨y25, e26, hs⟩ := aQ hs
 refine bA Re rfl rfl (uP _ _ h.lt IB x4 (h.mH 4 rfl) u23 mK (h.mH 6 rfl) _ e26) ?_
 rintro _ w ⟨k27, rfl⟩
 refine ⟨_, rfl, ?_⟩
 replace h := h.grow k27
 refine ae (aj (v := (.bool (y25))) rfl) (ah (aa (aK (cu (v := (.bool (y25))) Tryz.results79 rfl (⟨_, rfl, ?_⟩)))))
 refine ae (gZ rfl) (ah (aa (aN hs rfl (fun c28 hs => ?_) (fun c28 hs => ?_))))
 refine ai (ag (ae (aj (v := (.bool (false))) rfl) (ah (aa (aK (aH (aC (aC (aH (aC (cu (v := (.bool (false))) Tryz.results78 rfl (⟨_, rfl, ?_⟩))))))))))))
 refine ae (aj (v := (.bool (false))) rfl) (ah (aa (aK (cu (v := (.bool (false))) Tryz.results44 rfl ?_))))
 obtain rfl := Option.some.inj hs
 exact ⟨h.grown, rfl⟩
 refine aG (aA (aa (ag (ae (dH rfl rfl Rt) (ae (au (v := (.int .i64 ((i3 + 1)))) rfl) (ah (az ?_)))))))
 subst F6
 exact jN ⟨k2 + 1, i3 + 1⟩ ⟨h.cn _, by omega, hs⟩ (by have := of_decide_eq_true e7; dsimp only; omega)
 rw [gz (hik ▸ e7), kI] at hs
 refine dh (aO (aO (bE (aa (ai (ag (ae (aj (v := (.bool (true))) rfl) (ah (aa (aK (cu (v := (.bool (true))) Tryz.results78 rfl (⟨_, rfl, ?_⟩))))))))))))
 refine ae (aj (v := (.bool (true))) rfl) (ah (aa (aK (cu (v := (.bool (true))) Tryz.results44 rfl ?_))))
 obtain rfl := Option.some.inj hs
 exact ⟨h.grown, rfl⟩
def rM (nK : Unit → Option Bool) (x34 : Bool) : Option Bool :=
  bif x34 then some false else nK ()
def wZ (b : LX.State) (i10 : Int) (eu : LX.Frame) (s : Unit) (nK : Unit → Option Bool) : Option Bool :=
  (idx b.frames i10).bind fun x24 => bif ((decide ((eu.proc : Int) = x24.proc) && decide ((eu.at_ : Int) = x24.at_)) && decide ((eu.kG : Int) = x24.kG)) then (jL eu.regs x24.regs).bind fun y39 => rM nK (!y39) else rM nK true
def Aj (s : Unit) : Option Bool :=
  some true
def FD (a : LX.State) (b : LX.State) : Option Bool :=
  bif (decide ((a.status : Int) = b.status) && decide ((a.aV : Int) = b.aV)) then (Bc a.cells b.cells).bind fun y4 => bif y4 then bif decide (((a.frames.length : Int) : Int) ≠ (b.frames.length : Int)) then some false else dU (wZ b) Aj 0 a.frames () else some false else some false
theorem Qg (w0 : World) (M : BS) (hM : ∀ b, M b → b < w0.heap.size) (a : LX.State) (Co CV : Value) (ha0 : gL fo w0 BE M Co a.frames) (ha1 : gL (qj aM) w0 BE M CV a.cells) (b : LX.State) (vb0 vb1 : Value) (hb0 : gL fo w0 BE M vb0 b.frames) (hb1 : gL (qj aM) w0 BE M vb1 b.cells) (r : Bool) (hs : FD a b = some r) :
    Calls Tryz.prog 19 #[(.agg #[Co, CV, (.int .i64 (a.status)), (.int .i64 (a.aV))]), (.agg #[vb0, vb1, (.int .i64 (b.status)), (.int .i64 (b.aV))])] w0 (fun e w' => Grow w0 w' ∧ e = .returned (.bool r)) := by
 refine aS (args := [(.agg #[Co, CV, (.int .i64 (a.status)), (.int .i64 (a.aV))]), (.agg #[vb0, vb1, (.int .i64 (b.status)), (.int .i64 (b.aV))])]) Tryz.func19 rfl Tryz.ntmps19 (Nat.le_of_ble_eq_true rfl) ?_
 have h := SH.init hM
 replace h := h.fI 1 ha0 bN
 replace h := h.fI 2 ha1 (dn bN)
 replace h := h.fI 3 hb0 (dn (dn bN))
 replace h := h.fI 4 hb1 (dn (dn (dn bN)))
 refine ai (ag (oD (cs := [Co, CV, (.int .i64 (a.status)), (.int .i64 (a.aV))]) h 5 rfl rfl fun w b1 h => oD (cs := [vb0, vb1, (.int .i64 (b.status)), (.int .i64 (b.aV))]) h 6 rfl rfl fun w b2 h => ae (aj (v := (.bool (false))) rfl) (ah (aa (ai (ag (ae (ak nO rfl) (ae (aD h 5 rfl aZ rfl rfl) (ae (ak nO rfl) (ae (aD h 6 rfl aZ rfl rfl) (ae (bJ rfl rfl) (ae (au (v := (.bool (decide ((a.status : Int) = b.status)))) rfl) (aF rfl rfl (fun q => ak vG rfl) (aF rfl rfl (fun q => aD h 5 rfl aZ (dA q) rfl) (aF rfl rfl (fun q => ak vG rfl) (aF rfl rfl (fun q => aD h 6 rfl aZ (dA q) rfl) (aF rfl rfl (fun q => bJ (dA q) (dA q)) (ae (fV rfl rfl ma) (ae (au (v := (.bool ((decide ((a.status : Int) = b.status) && decide ((a.aV : Int) = b.aV))))) rfl) (iQ (b := (decide ((a.status : Int) = b.status) && decide ((a.aV : Int) = b.aV))) hs (fun c3 hs => ?_) (fun c3 hs => ?_)))))))))))))))))))))
 refine dK rfl (congrArg Value.bool c3) (ae (ak iW rfl) (dK rfl (congrArg Value.bool c3) (ae (aD h 5 rfl mg rfl rfl) (dK rfl (congrArg Value.bool c3) (ae (ak iW rfl) (dK rfl (congrArg Value.bool c3) (ae (aD h 6 rfl mg rfl rfl) (dK rfl (congrArg Value.bool c3) ?_))))))))
 obtain ⟨y4, e5, hs⟩ := aQ hs
 refine bA Wu rfl rfl (Lu _ _ h.lt CV a.cells (h.iI 2 rfl) vb1 b.cells (h.iI 4 rfl) _ e5) ?_
 rintro _ w ⟨k6, rfl⟩
 refine ⟨_, rfl, ?_⟩
 replace h := h.grow k6
 refine ae (cK (b := true) (v := (.bool (y4))) (congrArg Value.bool c3) rfl) (ae (au (v := (.bool (y4))) rfl) (iQ (b := y4) hs (fun c7 hs => ?_) (fun c7 hs => ?_)))
 refine dK rfl (congrArg Value.bool c7) (ae (ak dY rfl) (dK rfl (congrArg Value.bool c7) (ae (aD h 5 rfl iR rfl rfl) (dK rfl (congrArg Value.bool c7) (ae (ak dY rfl) (dK rfl (congrArg Value.bool c7) (ae (aD h 6 rfl iR rfl rfl) (dK rfl (congrArg Value.bool c7) (jE (args := [Co, vb0, (.func (.func 46) #[] #[])]) Wv rfl rfl (aS (args := [Co, vb0, (.func (.func 46) #[] #[])]) Tryz.func45 rfl Tryz.ntmps45 (Nat.le_of_ble_eq_true rfl) (ai (ag (ae (aj (v := (.bool (false))) rfl) (ah (aa (ai (ai (ag (ae (au (v := Co) rfl) (ae (bW dm rfl (h.iI 1 rfl)) (ae (au (v := vb0) rfl) (ae (bW dm rfl (h.iI 3 rfl)) (ae (gu rfl rfl) ?_)))))))))))))))))))))))
 refine ah (aa (aN hs rfl (fun c8 hs => ?_) (fun c8 hs => ?_)))
 refine ai (ag (ae (aj (v := (.bool (false))) rfl) (ah (aa (aK (aC (cu (v := (.bool (false))) Tryz.results45 rfl (⟨_, rfl, ?_⟩))))))))
 refine ae (cK (b := true) (v := (.bool (false))) (congrArg Value.bool c7) rfl) (ae (aj (v := (.bool (false))) rfl) (ah (aa (aK (cu (v := (.bool (false))) Tryz.results19 rfl ?_)))))
 obtain rfl := Option.some.inj hs
 exact ⟨h.grown, rfl⟩
 refine aG (aa (ai (ai (ag (ae (au (v := Co) rfl) (ae (bW dm rfl (h.iI 1 rfl)) (ae (au (v := (.int .i64 (0))) rfl) (ah (aa (aU (gP (σ := Nat × Int) (inl [6, 7, 8, 9, 17, 18, 19, 20, 21, 22, 23, 24, 25, 26, 27, 28, 29, 30, 31]) (fun ⟨k9, i10⟩ => [(17, (.int .i64 (i10)))]) (fun ⟨k9, i10⟩ w => SH w0 M BE w (hset [(1, .sr fo Co a.frames), (3, .sr fo vb0 b.frames)]) ∧ i10 = (k9 : Int) ∧ dU (wZ b) Aj i10 (a.frames.drop k9) () = some r) (fun ⟨k9, i10⟩ => a.frames.length - k9) ⟨0, 0⟩ ⟨rfl, trivial⟩ ?_ ?_)))))))))))
 exact ⟨h.cn _, rfl, hs⟩
 rintro ⟨k9, i10⟩ w dD ⟨h, hik, hs⟩
 refine ai (ag ?_)
 refine ae (dS rfl rfl) (ah (aa ?_))
 refine ai (iJ rfl (fun e14 => ?_) (fun e14 => ?_))
 refine aG (aa ?_)
 obtain ⟨eu, MH, MI⟩ := gy (hik ▸ e14)
 rw [MI, gU] at hs
 generalize Ga : dU (wZ b) Aj (i10 + 1) (a.frames.drop (k9 + 1)) = nK at hs
 have MJ := gD ((h.iI 1 rfl)).cB hik e14
 refine ai (aU (ai (ag (ae (au (v := (.int .i64 (i10))) rfl) ?_))))
 obtain ⟨b17, o18, UA, h, RO, i16⟩ := h.xD 1 7 rfl dm rfl (iU hik) (gB hik MH)
 obtain ⟨u21, rfl, g22⟩ := ry RO
 replace h := h.di 8 g22.up
 refine ae (i16 _ _ _ _ _ _ _ _ _ rfl rfl) (ae (jg (k := 0) (vs := [(.int .i64 (eu.proc)), (.int .i64 (eu.at_)), u21, (.int .i64 (eu.kG))]) h 7 rfl iy rfl rfl rfl (Nat.le_of_ble_eq_true rfl)) (bY h 9 iy fun w Br h => ae (aj (v := (.int .i64 (i10))) rfl) (dB (vs := [(.int .i64 (eu.proc)), (.int .i64 (eu.at_)), u21, (.int .i64 (eu.kG))]) h 9 [(.int .i64 (eu.proc)), (.int .i64 (eu.at_)), u21, (.int .i64 (eu.kG))] rfl iy rfl rfl rfl rfl rfl (ay rfl (ay rfl (ay (h.iq 8 rfl).one (ay rfl bg)))) fun w h => ah (aa (ai (ag (ae (au (v := vb0) rfl) (ae (au (v := (.int .i64 (i10))) rfl) ?_))))))))
 obtain ⟨x24, e25, hs⟩ := aQ hs
 obtain ⟨b27, o28, ZI, h, UI, i26⟩ := h.xD 3 10 rfl dm rfl (aI e25).1 (aI e25).2
 obtain ⟨u31, rfl, Xt⟩ := ry UI
 replace h := h.di 11 Xt.up
 refine ae (i26 _ _ _ _ _ _ _ _ _ rfl rfl) (ae (jg (k := 0) (vs := [(.int .i64 (x24.proc)), (.int .i64 (x24.at_)), u31, (.int .i64 (x24.kG))]) h 10 rfl iy rfl rfl rfl (Nat.le_of_ble_eq_true rfl)) (bY h 12 iy fun w WZ h => dB (vs := [(.int .i64 (x24.proc)), (.int .i64 (x24.at_)), u31, (.int .i64 (x24.kG))]) h 12 [(.int .i64 (x24.proc)), (.int .i64 (x24.at_)), u31, (.int .i64 (x24.kG))] rfl iy rfl rfl rfl rfl rfl (ay rfl (ay rfl (ay (h.iq 11 rfl).one (ay rfl bg)))) fun w h => ah (aa (cz (σ := Bool) (inl [26, 27, 28, 29, 30]) (fun x34 => [(30, (.bool (x34)))]) (fun x34 w => SH w0 M BE w (hset [(1, .sr fo Co a.frames), (3, .sr fo vb0 b.frames)]) ∧ rM nK x34 = some r) ?_ ?_))))
 rintro x34 w dD ⟨h, hs⟩
 refine aN hs rfl (fun WV hs => ?_) (fun WV hs => ?_)
 refine ai (ag (ae (aj (v := (.bool (false))) rfl) (ah (aa (aK (aH (aC (aC (aH (aC (cu (v := (.bool (false))) Tryz.results45 rfl (⟨_, rfl, ?_⟩))))))))))))
 refine ae (cK (b := true) (v := (.bool (false))) (congrArg Value.bool c7) rfl) (ae (aj (v := (.bool (false))) rfl) (ah (aa (aK (cu (v := (.bool (false))) Tryz.results19 rfl ?_)))))
 obtain rfl := Option.some.inj hs
 exact ⟨h.grown, rfl⟩
 refine aG (aA (aa (ag (ae (dH rfl rfl MJ) (ae (au (v := (.int .i64 ((i10 + 1)))) rfl) (ah (az ?_)))))))
 subst Ga
 exact jN ⟨k9 + 1, i10 + 1⟩ ⟨h.cn _, by omega, hs⟩ (by have := of_decide_eq_true e14; dsimp only; omega)
 refine ag (ae (au (v := (.func (.func 46) #[] #[])) rfl) (ae (dE (vs := [(.int .i64 (eu.proc)), (.int .i64 (eu.at_)), u21, (.int .i64 (eu.kG))]) h 9 rfl iy rfl rfl rfl) (ae (dE (vs := [(.int .i64 (x24.proc)), (.int .i64 (x24.at_)), u31, (.int .i64 (x24.kG))]) h 12 rfl iy rfl rfl rfl) (jE (args := [(.agg #[(.int .i64 (eu.proc)), (.int .i64 (eu.at_)), u21, (.int .i64 (eu.kG))]), (.agg #[(.int .i64 (x24.proc)), (.int .i64 (x24.at_)), u31, (.int .i64 (x24.kG))])]) Ww rfl rfl (aS (args := [(.agg #[(.int .i64 (eu.proc)), (.int .i64 (eu.at_)), u21, (.int .i64 (eu.kG))]), (.agg #[(.int .i64 (x24.proc)), (.int .i64 (x24.at_)), u31, (.int .i64 (x24.kG))])]) Tryz.func46 rfl Tryz.ntmps46 (Nat.le_of_ble_eq_true rfl) (ai (ag (oD (cs := [(.int .i64 (eu.proc)), (.int .i64 (eu.at_)), u21, (.int .i64 (eu.kG))]) h 13 rfl rfl fun w b36 h => oD (cs := [(.int .i64 (x24.proc)), (.int .i64 (x24.at_)), u31, (.int .i64 (x24.kG))]) h 14 rfl rfl fun w b37 h => ae (aj (v := (.bool (false))) rfl) (ah (aa (ai (ag (ae (ak tX rfl) (ae (aD h 13 rfl aZ rfl rfl) (ae (ak tX rfl) (ae (aD h 14 rfl aZ rfl rfl) (ae (bJ rfl rfl) (ae (au (v := (.bool (decide ((eu.proc : Int) = x24.proc)))) rfl) (aF rfl rfl (fun q => ak qU rfl) (aF rfl rfl (fun q => aD h 13 rfl aZ (dA q) rfl) (aF rfl rfl (fun q => ak qU rfl) ?_)))))))))))))))))))))
 refine aF rfl rfl (fun q => aD h 14 rfl aZ (dA q) rfl) (aF rfl rfl (fun q => bJ (dA q) (dA q)) (ae (fV rfl rfl ma) (ae (au (v := (.bool ((decide ((eu.proc : Int) = x24.proc) && decide ((eu.at_ : Int) = x24.at_))))) rfl) (aF rfl rfl (fun q => ak wV rfl) (aF rfl rfl (fun q => aD h 13 rfl aZ (dA q) rfl) (aF rfl rfl (fun q => ak wV rfl) (aF rfl rfl (fun q => aD h 14 rfl aZ (dA q) rfl) (aF rfl rfl (fun q => bJ (dA q) (dA q)) (ae (fV rfl rfl ma) (ae (au (v := (.bool (((decide ((eu.proc : Int) = x24.proc) && decide ((eu.at_ : Int) = x24.at_)) && decide ((eu.kG : Int) = x24.kG))))) rfl) (iQ (b := ((decide ((eu.proc : Int) = x24.proc) && decide ((eu.at_ : Int) = x24.at_)) && decide ((eu.kG : Int) = x24.kG))) hs (fun KO hs => ?_) (fun KO hs => ?_))))))))))))
 refine dK rfl (congrArg Value.bool KO) (ae (ak jW rfl) (dK rfl (congrArg Value.bool KO) (ae (aD h 13 rfl kg rfl rfl) (dK rfl (congrArg Value.bool KO) (ae (ak jW rfl) (dK rfl (congrArg Value.bool KO) (ae (aD h 14 rfl kg rfl rfl) (dK rfl (congrArg Value.bool KO) ?_))))))))
 obtain ⟨y39, e40, hs⟩ := aQ hs
 refine bA Re rfl rfl (uP _ _ h.lt u21 eu.regs (h.mH 8 rfl) u31 x24.regs (h.mH 11 rfl) _ e40) ?_
 rintro _ w ⟨k41, rfl⟩
 refine ⟨_, rfl, ?_⟩
 replace h := h.grow k41
 refine ae (cK (b := true) (v := (.bool (y39))) (congrArg Value.bool KO) rfl) (ae (aj (v := (.bool (y39))) rfl) (ah (aa (aK (cu (v := (.bool (y39))) Tryz.results46 rfl (⟨_, rfl, ?_⟩))))))
 refine ae (gZ rfl) (ah (az ?_))
 exact bU (!y39) ⟨h.cn _, hs⟩
 refine bH (b' := false) rfl (congrArg Value.bool KO) rfl (bH (b' := false) rfl (congrArg Value.bool KO) rfl (bH (b' := false) rfl (congrArg Value.bool KO) rfl (bH (b' := false) rfl (congrArg Value.bool KO) rfl (bH (b' := false) rfl (congrArg Value.bool KO) rfl (ae (cK (b := false) (v := (.bool (false))) (congrArg Value.bool KO) rfl) (ae (aj (v := (.bool (false))) rfl) (ah (aa (aK (cu (v := (.bool (false))) Tryz.results46 rfl (⟨_, rfl, ?_⟩)))))))))))
 refine ae (gZ rfl) (ah (az ?_))
 exact bU true ⟨h.cn _, hs⟩
 rw [gz (hik ▸ e14), kI] at hs
 refine dh (aO (aO (bE (aa (ai (ag (ae (aj (v := (.bool (true))) rfl) (ah (aa (aK (cu (v := (.bool (true))) Tryz.results45 rfl (⟨_, rfl, ?_⟩))))))))))))
 refine ae (cK (b := true) (v := (.bool (true))) (congrArg Value.bool c7) rfl) (ae (aj (v := (.bool (true))) rfl) (ah (aa (aK (cu (v := (.bool (true))) Tryz.results19 rfl ?_)))))
 obtain rfl := Option.some.inj hs
 exact ⟨h.grown, rfl⟩
 refine bH (b' := false) rfl (congrArg Value.bool c7) rfl (bH (b' := false) rfl (congrArg Value.bool c7) rfl (bH (b' := false) rfl (congrArg Value.bool c7) rfl (bH (b' := false) rfl (congrArg Value.bool c7) rfl (bH (b' := false) rfl (congrArg Value.bool c7) rfl (ae (cK (b := false) (v := (.bool (false))) (congrArg Value.bool c7) rfl) (ae (aj (v := (.bool (false))) rfl) (ah (aa (aK (cu (v := (.bool (false))) Tryz.results19 rfl ?_))))))))))
 obtain rfl := Option.some.inj hs
 exact ⟨h.grown, rfl⟩
 refine bH (b' := false) rfl (congrArg Value.bool c3) rfl (bH (b' := false) rfl (congrArg Value.bool c3) rfl (bH (b' := false) rfl (congrArg Value.bool c3) rfl (bH (b' := false) rfl (congrArg Value.bool c3) rfl (bH (b' := false) rfl (congrArg Value.bool c3) rfl (ae (cK (b := false) (v := (.bool (false))) (congrArg Value.bool c3) rfl) (ae (au (v := (.bool (false))) rfl) (bH (b' := false) rfl rfl rfl (bH (b' := false) rfl rfl rfl (bH (b' := false) rfl rfl rfl (bH (b' := false) rfl rfl rfl (bH (b' := false) rfl rfl rfl (ae (cK (b := false) (v := (.bool (false))) rfl rfl) (ae (aj (v := (.bool (false))) rfl) (ah (aa (aK (cu (v := (.bool (false))) Tryz.results19 rfl ?_)))))))))))))))))
 obtain rfl := Option.some.inj hs
 exact ⟨h.grown, rfl⟩
def ig (NC : Unit → Option Bool) (Kk : Bool) : Option Bool :=
  bif Kk then some false else NC ()
def ik (x34 : LX.Frame) (y7 : LX.State) (b : LX.State) (i47 : Int) (ze : Val) (s : Unit) (NC : Unit → Option Bool) : Option Bool :=
  (idx x34.regs i47).bind fun Gn => bif (decide ((Gn.kind : Int) ≠ ze.kind) || (decide ((ze.kind : Int) ≠ 2) && decide ((Gn.n : Int) ≠ ze.n))) then ig NC true else bif decide ((ze.kind : Int) = 2) then (idx y7.cells Gn.n).bind fun Yx => (idx b.cells ze.n).bind fun x82 => ig NC (decide (((Yx.length : Int) : Int) ≠ (x82.length : Int))) else ig NC false
def ja (jM : Unit → Option Bool) (s : Unit) : Option Bool :=
  jM ()
def il (y7 : LX.State) (b : LX.State) (i20 : Int) (tq : LX.Frame) (s : Unit) (jM : Unit → Option Bool) : Option Bool :=
  (idx y7.frames i20).bind fun x34 => bif (((decide ((x34.proc : Int) ≠ tq.proc) || decide ((x34.at_ : Int) ≠ tq.at_)) || decide ((x34.kG : Int) ≠ tq.kG)) || decide (((x34.regs.length : Int) : Int) ≠ (tq.regs.length : Int))) then some false else dU (ik x34 y7 b) (ja jM) 0 tq.regs ()
def jb (s : Unit) : Option Bool :=
  some true
def fE (y7 : LX.State) (b : LX.State) (vR : Bool) : Option Bool :=
  bif vR then some false else dU (il y7 b) jb 0 b.frames ()
def iN (N : Nat) (b : LX.State) (a : List dx) (x2 : Bool) : Option Bool :=
  bif x2 then (oJ N).bind fun y4 => some y4 else (yh N b).bind fun y7 => (uI a y7).bind fun Da => bif decide ((Da : Int) ≠ 0) then fE y7 b true else (yh N y7).bind fun wH => (FD wH y7).bind fun Ak => bif (!Ak) then fE y7 b true else bif decide (((b.cells.length : Int) : Int) < (y7.cells.length : Int)) then fE y7 b true else bif decide (((y7.frames.length : Int) : Int) ≠ (b.frames.length : Int)) then fE y7 b true else bif decide ((y7.status : Int) ≠ b.status) then fE y7 b true else fE y7 b (decide ((y7.aV : Int) ≠ b.aV))
def qH (N : Nat) (a : List dx) (b : LX.State) : Option Bool :=
  (oJ N).bind fun y101 => bif (!y101) then iN N b a true else (uI a b).bind fun UZ => iN N b a (decide ((UZ : Int) ≠ 0))
theorem zA (N : Nat) (w0 : World) (M : BS) (hM : ∀ b, M b → b < w0.heap.size) (hT : uj Tryz.prog 4 w0) (va : Value) (a : List dx) (ha : gL kF w0 BE M va a) (b : LX.State) (vb0 vb1 : Value) (hb0 : gL fo w0 BE M vb0 b.frames) (hb1 : gL (qj aM) w0 BE M vb1 b.cells) (r : Bool) (hs : qH N a b = some r) :
    Calls Tryz.prog 7 #[va, (.agg #[vb0, vb1, (.int .i64 (b.status)), (.int .i64 (b.aV))])] w0 (fun e w' => Grow w0 w' ∧ e = .returned (.bool r)) := by
 refine aS (args := [va, (.agg #[vb0, vb1, (.int .i64 (b.status)), (.int .i64 (b.aV))])]) Tryz.func7 rfl Tryz.ntmps7 (Nat.le_of_ble_eq_true rfl) ?_
 have h := SH.init hM
 replace h := h.fI 1 ha bN
 replace h := h.fI 2 hb0 (dn bN)
 replace h := h.fI 3 hb1 (dn (dn bN))
 have uw := ha.cB
 refine ai (ag (oD (cs := [vb0, vb1, (.int .i64 (b.status)), (.int .i64 (b.aV))]) h 4 rfl rfl fun w b1 h => ae (aj (v := (.bool (false))) rfl) (ah (aa (ai (cz (σ := Bool) (inl [12, 13, 14, 15, 16, 17, 18, 19]) (fun x2 => [(19, (.bool (x2)))]) (fun x2 w => SH w0 M BE w (hset [(1, .sr kF va a), (2, .sr fo vb0 b.frames), (3, .sr (qj aM) vb1 b.cells), (4, .blk b1 [vb0, vb1, (.int .i64 (b.status)), (.int .i64 (b.aV))])]) ∧ iN N b a x2 = some r) ?_ ?_))))))
 rintro x2 w dD ⟨h, hs⟩
 refine aN hs rfl (fun c3 hs => ?_) (fun c3 hs => ?_)
 refine ai (ag ?_)
 obtain ⟨y4, e5, hs⟩ := aQ hs
 refine bA Rc rfl rfl (wY N _ _ h.lt (hT.go h.keep)  _ e5) ?_
 rintro _ w ⟨k6, rfl⟩
 refine ⟨_, rfl, ?_⟩
 replace h := h.grow k6
 refine ae (aj (v := (.bool (y4))) rfl) (ah (aa (aK (aC (cu (v := (.bool (y4))) Tryz.results7 rfl ?_)))))
 obtain rfl := Option.some.inj hs
 exact ⟨h.grown, rfl⟩
 refine aG (aa (ai (ag (ae (dE (vs := [vb0, vb1, (.int .i64 (b.status)), (.int .i64 (b.aV))]) h 4 rfl dw rfl rfl rfl) ?_))))
 obtain ⟨y7, e8, hs⟩ := aQ hs
 refine bA Mv rfl rfl (BO N _ _ h.lt b vb0 vb1 (h.iI 2 rfl) (h.iI 3 rfl) _ e8) ?_
 rintro _ w ⟨k15, u9, Hr, H8, uX, rfl, h13, h14⟩
 refine ⟨_, rfl, ?_⟩
 replace h := h.KF 5 (C := (.two (.two (.two (.own aB.raw 49 u9 (List.zip y7.frames H8)) (.bL (aR aM 51 hn H8 (List.map aB.sub y7.frames)))) (.own (aT Val).raw 47 Hr (List.zip y7.cells uX))) (.bL (aR aM 51 hn uX (List.map (aT Val).sub y7.cells))) : Chunk)) k15 ⟨⟨⟨trivial, trivial⟩, trivial⟩, trivial⟩ h13 h14
 replace h := h.bX 5 8 (by decide) rfl rfl
 replace h := h.bX 5 7 (by decide) rfl rfl
 replace h := h.bX 5 6 (by decide) rfl rfl
 refine bY h 9 dw fun w b16 h => dB (vs := [u9, Hr, (.int .i64 (y7.status)), (.int .i64 (y7.aV))]) h 9 [u9, Hr, (.int .i64 (y7.status)), (.int .i64 (y7.aV))] rfl dw rfl rfl rfl rfl rfl (ay (h.dJ 5 rfl).one (ay (h.dJ 7 rfl).one (ay rfl (ay rfl bg)))) fun w h => ah (aa (ai (cz (σ := Bool) (inl [23, 24, 25, 26, 27, 28, 29, 30, 31, 32, 33, 34, 35, 36, 37, 38, 39, 40, 41, 42, 43, 44, 45, 46, 47, 48, 49, 50, 51, 52, 53, 54, 55, 56, 57, 58, 59, 60, 61, 62, 63, 64, 65]) (fun vR => [(65, (.bool (vR)))]) (fun vR w => SH w0 M BE w (hset [(2, .sr fo vb0 b.frames), (3, .sr (qj aM) vb1 b.cells), (4, .blk b1 [vb0, vb1, (.int .i64 (b.status)), (.int .i64 (b.aV))]), (5, .own aB.raw 49 u9 (List.zip y7.frames H8)), (6, .bL (aR aM 51 hn H8 (List.map aB.sub y7.frames))), (7, .own (aT Val).raw 47 Hr (List.zip y7.cells uX)), (8, .bL (aR aM 51 hn uX (List.map (aT Val).sub y7.cells))), (9, .blk b16 [u9, Hr, (.int .i64 (y7.status)), (.int .i64 (y7.aV))])]) ∧ fE y7 b vR = some r) ?_ ?_)))
 rintro vR w dD ⟨h, hs⟩
 refine aN hs rfl (fun c18 hs => ?_) (fun c18 hs => ?_)
 refine ai (ag (ae (aj (v := (.bool (false))) rfl) (ah (aa (aK (aC (cu (v := (.bool (false))) Tryz.results7 rfl ?_)))))))
 obtain rfl := Option.some.inj hs
 exact ⟨h.grown, rfl⟩
 refine aG (aa (ai (ai (ag (ae (ak dY rfl) (ae (aD h 4 rfl iR rfl rfl) (ae (bW dm rfl (h.iI 2 rfl)) (ae (au (v := (.int .i64 (0))) rfl) (ah (aa (aU (gP (σ := Nat × Int) (inl [4, 6, 7, 8, 9, 10, 11, 69, 70, 71, 72, 73, 74, 75, 76, 77, 78, 79, 80, 81, 82, 83, 84, 85, 86, 87, 88, 89, 90, 91, 92, 93, 94, 95, 96, 97, 98, 99, 100, 101, 102, 103, 104, 105, 106, 107, 108, 109, 110, 111, 112, 113, 114, 115, 116, 117, 118, 119, 120, 121, 122, 123, 124, 125, 126, 127, 128, 129, 130, 131, 132, 133, 134, 135, 136, 137, 138, 139, 140, 141, 142, 143, 144, 145, 146, 147, 148, 149, 150, 151, 152, 153, 154, 155, 156, 157, 158, 159, 160]) (fun ⟨k19, i20⟩ => [(69, (.int .i64 (i20)))]) (fun ⟨k19, i20⟩ w => SH w0 M BE w (hset [(2, .sr fo vb0 b.frames), (3, .sr (qj aM) vb1 b.cells), (4, .blk b1 [vb0, vb1, (.int .i64 (b.status)), (.int .i64 (b.aV))]), (5, .own aB.raw 49 u9 (List.zip y7.frames H8)), (6, .bL (aR aM 51 hn H8 (List.map aB.sub y7.frames))), (7, .own (aT Val).raw 47 Hr (List.zip y7.cells uX)), (8, .bL (aR aM 51 hn uX (List.map (aT Val).sub y7.cells))), (9, .blk b16 [u9, Hr, (.int .i64 (y7.status)), (.int .i64 (y7.aV))])]) ∧ i20 = (k19 : Int) ∧ dU (il y7 b) jb i20 (b.frames.drop k19) () = some r) (fun ⟨k19, i20⟩ => b.frames.length - k19) ⟨0, 0⟩ ⟨rfl, trivial⟩ ?_ ?_))))))))))))
 exact ⟨h.cn _, rfl, hs⟩
 rintro ⟨k19, i20⟩ w dD ⟨h, hik, hs⟩
 refine ai (ag ?_)
 refine ae (dS rfl rfl) (ah (aa ?_))
 refine ai (iJ rfl (fun e24 => ?_) (fun e24 => ?_))
 refine aG (aa ?_)
 obtain ⟨tq, Xp, Xq⟩ := gy (hik ▸ e24)
 rw [Xq, gU] at hs
 generalize K3 : dU (il y7 b) jb (i20 + 1) (b.frames.drop (k19 + 1)) = jM at hs
 have Xr := gD ((h.iI 2 rfl)).cB hik e24
 refine ai (aU (ai (ag (ae (au (v := (.int .i64 (i20))) rfl) ?_))))
 obtain ⟨b27, o28, ZI, h, UI, i26⟩ := h.xD 2 10 rfl dm rfl (iU hik) (gB hik Xp)
 obtain ⟨u31, rfl, Xt⟩ := ry UI
 replace h := h.di 11 Xt.up
 refine ae (i26 _ _ _ _ _ _ _ _ _ rfl rfl) (ae (jg (k := 0) (vs := [(.int .i64 (tq.proc)), (.int .i64 (tq.at_)), u31, (.int .i64 (tq.kG))]) h 10 rfl iy rfl rfl rfl (Nat.le_of_ble_eq_true rfl)) (bY h 12 iy fun w WZ h => ae (aj (v := (.int .i64 (i20))) rfl) (dB (vs := [(.int .i64 (tq.proc)), (.int .i64 (tq.at_)), u31, (.int .i64 (tq.kG))]) h 12 [(.int .i64 (tq.proc)), (.int .i64 (tq.at_)), u31, (.int .i64 (tq.kG))] rfl iy rfl rfl rfl rfl rfl (ay rfl (ay rfl (ay (h.iq 11 rfl).one (ay rfl bg)))) fun w h => ah (aa (ai (ag (ae (ak dY rfl) (ae (aD h 9 rfl iR rfl rfl) (ae (au (v := (.int .i64 (i20))) rfl) ?_)))))))))
 obtain ⟨x34, e35, hs⟩ := aQ hs
 obtain ⟨Lh, e40, h⟩ := h.pq 6 13 x34.regs rfl rfl (by decide) (aI e35).2 rfl
 obtain ⟨b37, q38, i36⟩ := h.uR 5 rfl dm rfl (aI e35).1 (fe (aI e35).2 e40)
 refine ae (i36 _ _ _ _ _ _ _ _ _ rfl rfl) ?_
 obtain ⟨cs41, m42, r43⟩ := h.xc 5 rfl q38 (fe (aI e35).2 e40)
 obtain ⟨rfl, -⟩ := r43
 refine ae (mM (k := 0) (vs := [(.int .i64 (x34.proc)), (.int .i64 (x34.at_)), Lh, (.int .i64 (x34.kG))]) m42 iy rfl rfl rfl (Nat.le_of_ble_eq_true rfl)) (bY h 14 iy fun w Md h => dB (vs := [(.int .i64 (x34.proc)), (.int .i64 (x34.at_)), Lh, (.int .i64 (x34.kG))]) h 14 [(.int .i64 (x34.proc)), (.int .i64 (x34.at_)), Lh, (.int .i64 (x34.kG))] rfl iy rfl rfl rfl rfl rfl (ay rfl (ay rfl (ay (h.dJ 13 rfl).one (ay rfl bg)))) fun w h => ah (aa (ai (ai (ag (ae (ak tX rfl) (ae (aD h 14 rfl aZ rfl rfl) (ae (ak tX rfl) (ae (aD h 12 rfl aZ rfl rfl) (ae (gu rfl rfl) (ae (au (v := (.bool (decide ((x34.proc : Int) ≠ tq.proc)))) rfl) (aF rfl rfl (fun q => ak qU rfl) (aF rfl rfl (fun q => aD h 14 rfl aZ (dA q) rfl) (aF rfl rfl (fun q => ak qU rfl) (aF rfl rfl (fun q => aD h 12 rfl aZ (dA q) rfl) (aF rfl rfl (fun q => gu (dA q) (dA q)) (ae (ic rfl rfl ma) (ae (au (v := (.bool ((decide ((x34.proc : Int) ≠ tq.proc) || decide ((x34.at_ : Int) ≠ tq.at_))))) rfl) (aF rfl rfl (fun q => ak wV rfl) (aF rfl rfl (fun q => aD h 14 rfl aZ (dA q) rfl) (aF rfl rfl (fun q => ak wV rfl) ?_)))))))))))))))))))))
 refine aF rfl rfl (fun q => aD h 12 rfl aZ (dA q) rfl) (aF rfl rfl (fun q => gu (dA q) (dA q)) (ae (ic rfl rfl ma) (ae (au (v := (.bool (((decide ((x34.proc : Int) ≠ tq.proc) || decide ((x34.at_ : Int) ≠ tq.at_)) || decide ((x34.kG : Int) ≠ tq.kG))))) rfl) (aF rfl rfl (fun q => ak jW rfl) (aF rfl rfl (fun q => aD h 14 rfl kg (dA q) rfl) (aF rfl rfl (fun q => bW bK (dA q) (h.eF 13 rfl)) (aF rfl rfl (fun q => ak jW rfl) (aF rfl rfl (fun q => aD h 12 rfl kg (dA q) rfl) (aF rfl rfl (fun q => bW bK (dA q) (h.mH 11 rfl)) (aF rfl rfl (fun q => gu (dA q) (dA q)) (ae (ic rfl rfl ma) (ah (aa (aN hs rfl (fun c45 hs => ?_) (fun c45 hs => ?_)))))))))))))))
 refine ai (ag (ae (aj (v := (.bool (false))) rfl) (ah (aa (aK (aC (aH (aC (aC (aH (aC (cu (v := (.bool (false))) Tryz.results7 rfl ?_))))))))))))
 obtain rfl := Option.some.inj hs
 exact ⟨h.grown, rfl⟩
 refine aG (aa (ai (ag (ae (ak jW rfl) (ae (aD h 12 rfl kg rfl rfl) (ae (bW bK rfl (h.mH 11 rfl)) (ae (au (v := (.int .i64 (0))) rfl) (ah (aa (aU (gP (σ := Nat × Int) (inl [4, 9, 10, 11, 110, 111, 112, 113, 114, 115, 116, 117, 118, 119, 120, 121, 122, 123, 124, 125, 126, 127, 128, 129, 130, 131, 132, 133, 134, 135, 136, 137, 138, 139, 140, 141, 142, 143, 144, 145, 146, 147, 148, 149, 150, 151, 152, 153, 154, 155, 156, 157, 158, 159]) (fun ⟨Qt, i47⟩ => [(110, (.int .i64 (i47)))]) (fun ⟨Qt, i47⟩ w => SH w0 M BE w (hset [(2, .sr fo vb0 b.frames), (3, .sr (qj aM) vb1 b.cells), (4, .blk b1 [vb0, vb1, (.int .i64 (b.status)), (.int .i64 (b.aV))]), (5, .own aB.raw 49 u9 (List.zip y7.frames H8)), (6, .bL (aR aM 51 (hat (i20).toNat) H8 (List.map aB.sub y7.frames))), (7, .own (aT Val).raw 47 Hr (List.zip y7.cells uX)), (8, .bL (aR aM 51 hn uX (List.map (aT Val).sub y7.cells))), (9, .blk b16 [u9, Hr, (.int .i64 (y7.status)), (.int .i64 (y7.aV))]), (11, .rd aM u31 tq.regs), (13, .own aM 51 Lh x34.regs), (14, .blk Md [(.int .i64 (x34.proc)), (.int .i64 (x34.at_)), Lh, (.int .i64 (x34.kG))])]) ∧ i47 = (Qt : Int) ∧ dU (ik x34 y7 b) (ja jM) i47 (tq.regs.drop Qt) () = some r) (fun ⟨Qt, i47⟩ => tq.regs.length - Qt) ⟨0, 0⟩ ⟨rfl, trivial⟩ ?_ ?_)))))))))))
 exact ⟨h.cn _, rfl, hs⟩
 rintro ⟨Qt, i47⟩ w dD ⟨h, hik, hs⟩
 refine ai (ag ?_)
 refine ae (dS rfl rfl) (ah (aa ?_))
 refine ai (iJ rfl (fun e51 => ?_) (fun e51 => ?_))
 refine aG (aa ?_)
 obtain ⟨ze, e52a, e52b⟩ := gy (hik ▸ e51)
 rw [e52b, gU] at hs
 generalize hnx50 : dU (ik x34 y7 b) (ja jM) (i47 + 1) (tq.regs.drop (Qt + 1)) = NC at hs
 have e52r := gD ((h.mH 11 rfl)).cB hik e51
 refine ai (aU (ai (ag (ae (au (v := (.int .i64 (i47))) rfl) ?_))))
 obtain ⟨b54, o55, cs56, h, r57, i53⟩ := h.Dm 11 15 rfl bK rfl (iU hik) (gB hik e52a)
 obtain rfl := r57
 refine ae (i53 _ _ _ _ _ _ _ _ _ rfl rfl) (ae (jg (k := 0) (vs := [(.int .i64 (ze.kind)), (.int .i64 (ze.n))]) h 15 rfl bV rfl rfl rfl (Nat.le_of_ble_eq_true rfl)) (bY h 16 bV fun w b58 h => ae (aj (v := (.int .i64 (i47))) rfl) (dB (vs := [(.int .i64 (ze.kind)), (.int .i64 (ze.n))]) h 16 [(.int .i64 (ze.kind)), (.int .i64 (ze.n))] rfl bV rfl rfl rfl rfl rfl (ay rfl (ay rfl bg)) fun w h => ah (aa (ai (ag (ae (ak jW rfl) (ae (aD h 14 rfl kg rfl rfl) (ae (au (v := (.int .i64 (i47))) rfl) ?_)))))))))
 obtain ⟨Gn, e60, hs⟩ := aQ hs
 obtain ⟨b62, q63, i61⟩ := h.uR 13 rfl bK rfl (aI e60).1 (aI e60).2
 refine ae (i61 _ _ _ _ _ _ _ _ _ rfl rfl) ?_
 obtain ⟨cs64, m65, r66⟩ := h.xc 13 rfl q63 (aI e60).2
 obtain rfl := r66
 refine ae (mM (k := 0) (vs := [(.int .i64 (Gn.kind)), (.int .i64 (Gn.n))]) m65 bV rfl rfl rfl (Nat.le_of_ble_eq_true rfl)) (bY h 17 bV fun w b67 h => dB (vs := [(.int .i64 (Gn.kind)), (.int .i64 (Gn.n))]) h 17 [(.int .i64 (Gn.kind)), (.int .i64 (Gn.n))] rfl bV rfl rfl rfl rfl rfl (ay rfl (ay rfl bg)) fun w h => ah (aa (cz (σ := Bool) (inl [120, 121, 122, 123, 124, 125, 126, 127, 128, 129, 130, 131, 132, 133, 134, 135, 136, 137, 138, 139, 140, 141, 142, 143, 144, 145, 146, 147, 148, 149, 150, 151, 152, 153, 154, 155, 156, 157, 158]) (fun Kk => [(129, (gv (decide ((Gn.kind : Int) ≠ ze.kind) == false) (.bool (decide ((ze.kind : Int) ≠ 2))))), (158, (.bool (Kk)))]) (fun Kk w => SH w0 M BE w (hset [(2, .sr fo vb0 b.frames), (3, .sr (qj aM) vb1 b.cells), (4, .blk b1 [vb0, vb1, (.int .i64 (b.status)), (.int .i64 (b.aV))]), (5, .own aB.raw 49 u9 (List.zip y7.frames H8)), (6, .bL (aR aM 51 (hat (i20).toNat) H8 (List.map aB.sub y7.frames))), (7, .own (aT Val).raw 47 Hr (List.zip y7.cells uX)), (8, .bL (aR aM 51 hn uX (List.map (aT Val).sub y7.cells))), (9, .blk b16 [u9, Hr, (.int .i64 (y7.status)), (.int .i64 (y7.aV))]), (11, .rd aM u31 tq.regs), (13, .own aM 51 Lh x34.regs), (14, .blk Md [(.int .i64 (x34.proc)), (.int .i64 (x34.at_)), Lh, (.int .i64 (x34.kG))])]) ∧ ig NC Kk = some r) ?_ ?_)))
 rintro Kk w dD ⟨h, hs⟩
 refine aN hs rfl (fun Nb hs => ?_) (fun Nb hs => ?_)
 refine ai (ag (ae (aj (v := (.bool (false))) rfl) (ah (aa (aK (aH (aC (aC (aH (aH (aC (aC (aH (aC (cu (v := (.bool (false))) Tryz.results7 rfl ?_)))))))))))))))
 obtain rfl := Option.some.inj hs
 exact ⟨h.grown, rfl⟩
 refine aG (aA (aa (ag (ae (dH rfl rfl e52r) (ae (au (v := (.int .i64 ((i47 + 1)))) rfl) (ah (az ?_)))))))
 subst hnx50
 exact jN ⟨Qt + 1, i47 + 1⟩ ⟨h.cn _, by omega, hs⟩ (by have := of_decide_eq_true e51; dsimp only; omega)
 refine xG mixed (by kernel_rfl) h fun w h => aJ (ak nP rfl) (aJ (aD h 17 rfl aZ rfl rfl) (aJ (ak nP rfl) (aJ (aD h 16 rfl aZ rfl rfl) (aJ (gu rfl rfl) (aJ (au (v := (.bool (decide ((Gn.kind : Int) ≠ ze.kind)))) rfl) (oL rfl rfl (fun q => ak nP rfl) (oL rfl rfl (fun q => aD h 16 rfl aZ (dA q) rfl) (oL rfl rfl (fun q => gu (dA q) rfl) (oL rfl rfl (fun q => au (v := (.bool (decide ((ze.kind : Int) ≠ 2)))) (dA q)) (Cv (decide ((Gn.kind : Int) ≠ ze.kind) == false) rfl rfl (fun q => ak gM rfl) (Cv (decide ((Gn.kind : Int) ≠ ze.kind) == false) rfl rfl (fun q => aD h 17 rfl aZ (dA q) rfl) (Cv (decide ((Gn.kind : Int) ≠ ze.kind) == false) rfl rfl (fun q => ak gM rfl) (Cv (decide ((Gn.kind : Int) ≠ ze.kind) == false) rfl rfl (fun q => aD h 16 rfl aZ (dA q) rfl) (Cv (decide ((Gn.kind : Int) ≠ ze.kind) == false) rfl rfl (fun q => gu (dA q) (dA q)) (oL rfl rfl (fun q => fV (dA q) (OU q) ma) (aJ (ic rfl rfl ma) (aJ (au (v := (.bool ((decide ((Gn.kind : Int) ≠ ze.kind) || (decide ((ze.kind : Int) ≠ 2) && decide ((Gn.n : Int) ≠ ze.n)))))) rfl) (iQ (b := (decide ((Gn.kind : Int) ≠ ze.kind) || (decide ((ze.kind : Int) ≠ 2) && decide ((Gn.n : Int) ≠ ze.n)))) hs (fun c70 hs => ?_) (fun c70 hs => ?_)))))))))))))))))))
 refine dG (b' := true) rfl (congrArg Value.bool c70) rfl (dG (b' := true) rfl (congrArg Value.bool c70) rfl (dG (b' := true) rfl (congrArg Value.bool c70) rfl (dG (b' := true) rfl (congrArg Value.bool c70) rfl (iL rfl rfl (iL rfl rfl (iL rfl rfl (iL rfl rfl (iL rfl rfl (iL rfl rfl (iL rfl rfl (iL rfl rfl (iL rfl rfl (iL rfl rfl (iL rfl rfl (iL rfl rfl (iL rfl rfl (iL rfl rfl (iL rfl rfl (dG (b' := true) rfl (congrArg Value.bool c70) rfl (aJ (cK (b := true) (v := (.bool (true))) (congrArg Value.bool c70) rfl) (uS (az ?_))))))))))))))))))))))
 exact bU true ⟨h.cn _, hs⟩
 refine eY rfl (congrArg Value.bool c70) (aJ (ak nP rfl) (eY rfl (congrArg Value.bool c70) (aJ (aD h 16 rfl aZ rfl rfl) (eY rfl (congrArg Value.bool c70) (aJ (bJ rfl rfl) (eY rfl (congrArg Value.bool c70) (aJ (au (v := (.bool (decide ((ze.kind : Int) = 2)))) rfl) (iQ (b := decide ((ze.kind : Int) = 2)) hs (fun Bi hs => ?_) (fun Bi hs => ?_)))))))))
 refine eY rfl (congrArg Value.bool Bi) (aJ (ak iW rfl) (eY rfl (congrArg Value.bool Bi) (aJ (aD h 9 rfl mg rfl rfl) (eY rfl (congrArg Value.bool Bi) (aJ (ak gM rfl) (eY rfl (congrArg Value.bool Bi) (aJ (aD h 17 rfl aZ rfl rfl) (eY rfl (congrArg Value.bool Bi) ?_))))))))
 obtain ⟨Yx, Xa, hs⟩ := aQ hs
 obtain ⟨u77, Zn, h⟩ := h.pq 8 18 Yx rfl rfl (by decide) (aI Xa).2 rfl
 obtain ⟨b75, q76, i74⟩ := h.uR 7 rfl dZ rfl (aI Xa).1 (fe (aI Xa).2 Zn)
 refine aJ (i74 _ _ _ _ _ _ _ _ _ rfl rfl) (eY rfl (congrArg Value.bool Bi) ?_)
 obtain ⟨cs79, m80, r81⟩ := h.xc 7 rfl q76 (fe (aI Xa).2 Zn)
 obtain ⟨rfl, -⟩ := r81
 refine aJ (oC (k := 0) m80 kg rfl rfl) (eY rfl (congrArg Value.bool Bi) (aJ (bW bK rfl (h.eF 18 rfl)) (eY rfl (congrArg Value.bool Bi) (aJ (ak iW rfl) (eY rfl (congrArg Value.bool Bi) (aJ (aD h 4 rfl mg rfl rfl) (eY rfl (congrArg Value.bool Bi) (aJ (ak gM rfl) (eY rfl (congrArg Value.bool Bi) (aJ (aD h 16 rfl aZ rfl rfl) (eY rfl (congrArg Value.bool Bi) ?_)))))))))))
 obtain ⟨x82, UW, hs⟩ := aQ hs
 obtain ⟨F7, o86, cs87, h, r88, i84⟩ := h.xD 3 19 rfl dZ rfl (aI UW).1 (aI UW).2
 obtain ⟨u89, rfl, g90⟩ := r88
 replace h := h.di 20 g90.up
 refine aJ (i84 _ _ _ _ _ _ _ _ _ rfl rfl) (eY rfl (congrArg Value.bool Bi) (aJ (eO (k := 0) h 19 rfl kg rfl rfl) (eY rfl (congrArg Value.bool Bi) (aJ (bW bK rfl (h.mH 20 rfl)) (eY rfl (congrArg Value.bool Bi) (aJ (gu rfl rfl) (eY rfl (congrArg Value.bool c70) (aJ (cK (b := true) (v := (.bool (decide (((Yx.length : Int) : Int) ≠ (x82.length : Int))))) (congrArg Value.bool Bi) rfl) (aJ (cK (b := false) (v := (.bool (decide (((Yx.length : Int) : Int) ≠ (x82.length : Int))))) (congrArg Value.bool c70) rfl) (uS ?_))))))))))
 replace h := h.iO 8 18 rfl rfl (by decide) (aI Xa).2 Zn rfl
 refine az ?_
 exact bU (decide (((Yx.length : Int) : Int) ≠ (x82.length : Int))) ⟨h.cn _, hs⟩
 refine dG (b' := false) rfl (congrArg Value.bool Bi) rfl (dG (b' := false) rfl (congrArg Value.bool Bi) rfl (dG (b' := false) rfl (congrArg Value.bool Bi) rfl (dG (b' := false) rfl (congrArg Value.bool Bi) rfl (dG (b' := false) rfl (congrArg Value.bool Bi) rfl (dG (b' := false) rfl (congrArg Value.bool Bi) rfl (dG (b' := false) rfl (congrArg Value.bool Bi) rfl (dG (b' := false) rfl (congrArg Value.bool Bi) rfl (dG (b' := false) rfl (congrArg Value.bool Bi) rfl (dG (b' := false) rfl (congrArg Value.bool Bi) rfl (dG (b' := false) rfl (congrArg Value.bool Bi) rfl (dG (b' := false) rfl (congrArg Value.bool Bi) rfl (dG (b' := false) rfl (congrArg Value.bool Bi) rfl (dG (b' := false) rfl (congrArg Value.bool Bi) rfl (dG (b' := false) rfl (congrArg Value.bool Bi) rfl (eY rfl (congrArg Value.bool c70) (aJ (cK (b := false) (v := (.bool (false))) (congrArg Value.bool Bi) rfl) (aJ (cK (b := false) (v := (.bool (false))) (congrArg Value.bool c70) rfl) (uS (az ?_)))))))))))))))))))
 exact bU false ⟨h.cn _, hs⟩
 rw [gz (hik ▸ e51), kI] at hs
 refine dh (aO (aO (bE (aA (aa (ag (ae (dH rfl rfl Xr) (ae (au (v := (.int .i64 ((i20 + 1)))) rfl) (ah ?_)))))))))
 replace h := h.iO 6 13 rfl rfl (by decide) (aI e35).2 e40 rfl
 refine az ?_
 subst K3
 exact jN ⟨k19 + 1, i20 + 1⟩ ⟨h.cn _, by omega, hs⟩ (by have := of_decide_eq_true e24; dsimp only; omega)
 rw [gz (hik ▸ e24), kI] at hs
 refine dh (aO (aO (bE (aa (ai (ag (ae (aj (v := (.bool (true))) rfl) (ah (aa (aK (cu (v := (.bool (true))) Tryz.results7 rfl ?_)))))))))))
 obtain rfl := Option.some.inj hs
 exact ⟨h.grown, rfl⟩
 refine Cy mixed h fun w h => bZ 0 (aL.refl BE _) rfl ax (by kernel_rfl) (by kernel_rfl) (by kernel_rfl) (fun w hk => au (v := va) rfl) (bZ 1 (aL.refl BE _) rfl ax (by kernel_rfl) (by kernel_rfl) (by kernel_rfl) (fun w hk => have h := h.grow hk; dE (vs := [u9, Hr, (.int .i64 (y7.status)), (.int .i64 (y7.aV))]) h 9 rfl dw rfl rfl rfl) ?_)
 obtain ⟨ws92, VN⟩ : ∃ x, x = w := ⟨_, rfl⟩
 have mD : Grow ws92 w := VN ▸ aL.refl BE w
 refine Il VN.symm (uT 2 (by kernel_rfl) rfl ax ?_)
 obtain ⟨Da, Td, hs⟩ := aQ hs
 refine bA FZ rfl rfl (wC _ BE (fun _ h => h.elim) va a (gL.YW (h.iI 1 rfl)) y7 u9 Hr (h.uU (N := aB) (R' := fo) 5 6 rfl rfl (by decide) rfl rz) (h.uU (N := (aT Val)) (R' := (qj aM)) 7 8 rfl rfl (by decide) rfl wP) _ Td) ?_
 rintro _ w ⟨Lv, rfl⟩
 refine ⟨_, rfl, ?_⟩
 replace h := h.grow Lv
 replace mD := mD.trans Lv
 refine ah (o7 mD (bZ 3 mD rfl ax (by kernel_rfl) (by kernel_rfl) (by kernel_rfl) (fun w hk => gu rfl rfl) (bZ 4 mD rfl ax (by kernel_rfl) (by kernel_rfl) (by kernel_rfl) (fun w hk => au (v := (.bool (decide ((Da : Int) ≠ 0)))) rfl) (iQ (b := decide ((Da : Int) ≠ 0)) hs (fun NA hs => ?_) (fun NA hs => ?_)))))
 refine bG 5 mD rfl (bB (b' := true) rfl (congrArg Value.bool NA) rfl) (by kernel_rfl) (by kernel_rfl) (by kernel_rfl) (bG 6 mD rfl (bB (b' := true) rfl (congrArg Value.bool NA) rfl) (by kernel_rfl) (by kernel_rfl) (by kernel_rfl) (bG 7 mD rfl (bB (b' := true) rfl (congrArg Value.bool NA) rfl) (by kernel_rfl) (by kernel_rfl) (by kernel_rfl) (bG 8 mD rfl (bB (b' := true) rfl (congrArg Value.bool NA) rfl) (by kernel_rfl) (by kernel_rfl) (by kernel_rfl) (bG 9 mD rfl (bB (b' := true) rfl (congrArg Value.bool NA) rfl) (by kernel_rfl) (by kernel_rfl) (by kernel_rfl) (bZ 10 mD rfl ax (by kernel_rfl) (by kernel_rfl) (by kernel_rfl) (fun w hk => cK (b := true) (v := (.bool (true))) (congrArg Value.bool NA) rfl) (bZ 11 mD rfl ax (by kernel_rfl) (by kernel_rfl) (by kernel_rfl) (fun w hk => au (v := (.bool (true))) rfl) (bG 12 mD rfl (bB (b' := true) rfl rfl rfl) (by kernel_rfl) (by kernel_rfl) (by kernel_rfl) (bG 13 mD rfl (bB (b' := true) rfl rfl rfl) (by kernel_rfl) (by kernel_rfl) (by kernel_rfl) (bG 14 mD rfl (bB (b' := true) rfl rfl rfl) (by kernel_rfl) (by kernel_rfl) (by kernel_rfl) (bG 15 mD rfl (bB (b' := true) rfl rfl rfl) (by kernel_rfl) (by kernel_rfl) (by kernel_rfl) (bG 16 mD rfl (bB (b' := true) rfl rfl rfl) (by kernel_rfl) (by kernel_rfl) (by kernel_rfl) (bG 17 mD rfl (bB (b' := true) rfl rfl rfl) (by kernel_rfl) (by kernel_rfl) (by kernel_rfl) (bG 18 mD rfl (bB (b' := true) rfl rfl rfl) (by kernel_rfl) (by kernel_rfl) (by kernel_rfl) (bZ 19 mD rfl ax (by kernel_rfl) (by kernel_rfl) (by kernel_rfl) (fun w hk => cK (b := true) (v := (.bool (true))) rfl rfl) (bZ 20 mD rfl ax (by kernel_rfl) (by kernel_rfl) (by kernel_rfl) (fun w hk => au (v := (.bool (true))) rfl) (bG 21 mD rfl (bB (b' := true) rfl rfl rfl) (by kernel_rfl) (by kernel_rfl) (by kernel_rfl) (bG 22 mD rfl (bB (b' := true) rfl rfl rfl) (by kernel_rfl) (by kernel_rfl) (by kernel_rfl) (bG 23 mD rfl (bB (b' := true) rfl rfl rfl) (by kernel_rfl) (by kernel_rfl) (by kernel_rfl) (bG 24 mD rfl (bB (b' := true) rfl rfl rfl) (by kernel_rfl) (by kernel_rfl) (by kernel_rfl) (bG 25 mD rfl (bB (b' := true) rfl rfl rfl) (by kernel_rfl) (by kernel_rfl) (by kernel_rfl) (bG 26 mD rfl (bB (b' := true) rfl rfl rfl) (by kernel_rfl) (by kernel_rfl) (by kernel_rfl) (bG 27 mD rfl (bB (b' := true) rfl rfl rfl) (by kernel_rfl) (by kernel_rfl) (by kernel_rfl) (bZ 28 mD rfl ax (by kernel_rfl) (by kernel_rfl) (by kernel_rfl) (fun w hk => cK (b := true) (v := (.bool (true))) rfl rfl) ?_)))))))))))))))))))))))
 refine bZ 29 mD rfl ax (by kernel_rfl) (by kernel_rfl) (by kernel_rfl) (fun w hk => au (v := (.bool (true))) rfl) (bG 30 mD rfl (bB (b' := true) rfl rfl rfl) (by kernel_rfl) (by kernel_rfl) (by kernel_rfl) (bG 31 mD rfl (bB (b' := true) rfl rfl rfl) (by kernel_rfl) (by kernel_rfl) (by kernel_rfl) (bG 32 mD rfl (bB (b' := true) rfl rfl rfl) (by kernel_rfl) (by kernel_rfl) (by kernel_rfl) (bG 33 mD rfl (bB (b' := true) rfl rfl rfl) (by kernel_rfl) (by kernel_rfl) (by kernel_rfl) (bG 34 mD rfl (bB (b' := true) rfl rfl rfl) (by kernel_rfl) (by kernel_rfl) (by kernel_rfl) (bZ 35 mD rfl ax (by kernel_rfl) (by kernel_rfl) (by kernel_rfl) (fun w hk => cK (b := true) (v := (.bool (true))) rfl rfl) (bZ 36 mD rfl ax (by kernel_rfl) (by kernel_rfl) (by kernel_rfl) (fun w hk => au (v := (.bool (true))) rfl) (bG 37 mD rfl (bB (b' := true) rfl rfl rfl) (by kernel_rfl) (by kernel_rfl) (by kernel_rfl) (bG 38 mD rfl (bB (b' := true) rfl rfl rfl) (by kernel_rfl) (by kernel_rfl) (by kernel_rfl) (bG 39 mD rfl (bB (b' := true) rfl rfl rfl) (by kernel_rfl) (by kernel_rfl) (by kernel_rfl) (bG 40 mD rfl (bB (b' := true) rfl rfl rfl) (by kernel_rfl) (by kernel_rfl) (by kernel_rfl) (bG 41 mD rfl (bB (b' := true) rfl rfl rfl) (by kernel_rfl) (by kernel_rfl) (by kernel_rfl) (bZ 42 mD rfl ax (by kernel_rfl) (by kernel_rfl) (by kernel_rfl) (fun w hk => cK (b := true) (v := (.bool (true))) rfl rfl) (rV (by kernel_rfl) (az ?_)))))))))))))))
 exact bU true ⟨h.cn _, hs⟩
 refine Jo mD ?_
 obtain ⟨Qh, ND⟩ : ∃ x, x = w := ⟨_, rfl⟩
 have Yy : Grow Qh w := ND ▸ aL.refl _ _
 refine bZ 5 (aL.refl BE _) rfl (gW rfl (congrArg Value.bool NA)) (by kernel_rfl) (by kernel_rfl) (by kernel_rfl) (fun w hk => have h := h.grow hk; dE (vs := [u9, Hr, (.int .i64 (y7.status)), (.int .i64 (y7.aV))]) h 9 rfl dw rfl rfl rfl) (bZ 7 (aL.refl BE _) rfl (gW rfl (congrArg Value.bool NA)) (by kernel_rfl) (by kernel_rfl) (by kernel_rfl) (fun w hk => have h := h.grow hk; dE (vs := [u9, Hr, (.int .i64 (y7.status)), (.int .i64 (y7.aV))]) h 9 rfl dw rfl rfl rfl) ?_)
 obtain ⟨ws95, VO⟩ : ∃ x, x = w := ⟨_, rfl⟩
 have mJ : Grow ws95 w := VO ▸ aL.refl BE w
 refine Il VO.symm (uT 6 (by kernel_rfl) rfl (gW rfl (congrArg Value.bool NA)) ?_)
 obtain ⟨wH, Te, hs⟩ := aQ hs
 refine bA Mv rfl rfl (BO N _ BE (fun _ h => h.elim) y7 u9 Hr (h.uU (N := aB) (R' := fo) 5 6 rfl rfl (by decide) rfl rz) (h.uU (N := (aT Val)) (R' := (qj aM)) 7 8 rfl rfl (by decide) rfl wP) _ Te) ?_
 rintro _ w ⟨Lx, LA, LB, I7, I8, rfl, Tf, Tg⟩
 refine ⟨_, rfl, ?_⟩
 replace h := h.Q7 93 (C := (.two (.two (.two (.own aB.raw 49 LA (List.zip wH.frames I7)) (.bL (aR aM 51 hn I7 (List.map aB.sub wH.frames)))) (.own (aT Val).raw 47 LB (List.zip wH.cells I8))) (.bL (aR aM 51 hn I8 (List.map (aT Val).sub wH.cells))) : Chunk)) Lx ⟨⟨⟨trivial, trivial⟩, trivial⟩, trivial⟩ ⟨⟨⟨(fun _ _ _ _ _ h => h), (vQ (fun _ _ _ _ _ h => h))⟩, (fun _ _ _ _ _ h => h)⟩, (vQ (fun _ _ _ _ _ h => h))⟩ Tf Tg
 replace h := h.bX 93 96 (by decide) rfl rfl
 replace h := h.bX 93 95 (by decide) rfl rfl
 replace h := h.bX 93 94 (by decide) rfl rfl
 replace mJ := mJ.trans Lx
 refine ah (o7 mJ (uT 8 (by kernel_rfl) rfl (gW rfl (congrArg Value.bool NA)) ?_))
 obtain ⟨Ak, Ti, hs⟩ := aQ hs
 refine bA Wo rfl rfl (Qg _ BE (fun _ h => h.elim) wH LA LB (h.uU (N := aB) (R' := fo) 93 94 rfl rfl (by decide) rfl rz) (h.uU (N := (aT Val)) (R' := (qj aM)) 95 96 rfl rfl (by decide) rfl wP) y7 u9 Hr (h.uU (N := aB) (R' := fo) 5 6 rfl rfl (by decide) rfl rz) (h.uU (N := (aT Val)) (R' := (qj aM)) 7 8 rfl rfl (by decide) rfl wP) _ Ti) ?_
 rintro _ w ⟨LC, rfl⟩
 refine ⟨_, rfl, ?_⟩
 replace h := h.grow LC
 replace mJ := mJ.trans LC
 refine ah (o7 mJ (bZ 9 mJ rfl (gW rfl (congrArg Value.bool NA)) (by kernel_rfl) (by kernel_rfl) (by kernel_rfl) (fun w hk => gZ rfl) (bZ 10 mJ rfl ax (by kernel_rfl) (by kernel_rfl) (by kernel_rfl) (fun w hk => cK (b := false) (v := (.bool ((!Ak)))) (congrArg Value.bool NA) rfl) (bZ 11 mJ rfl ax (by kernel_rfl) (by kernel_rfl) (by kernel_rfl) (fun w hk => au (v := (.bool ((!Ak)))) rfl) (iQ (b := (!Ak)) hs (fun LD hs => ?_) (fun LD hs => ?_))))))
 refine bG 12 mJ rfl (bB (b' := true) rfl (congrArg Value.bool LD) rfl) (by kernel_rfl) (by kernel_rfl) (by kernel_rfl) (bG 13 mJ rfl (bB (b' := true) rfl (congrArg Value.bool LD) rfl) (by kernel_rfl) (by kernel_rfl) (by kernel_rfl) (bG 14 mJ rfl (bB (b' := true) rfl (congrArg Value.bool LD) rfl) (by kernel_rfl) (by kernel_rfl) (by kernel_rfl) (bG 15 mJ rfl (bB (b' := true) rfl (congrArg Value.bool LD) rfl) (by kernel_rfl) (by kernel_rfl) (by kernel_rfl) (bG 16 mJ rfl (bB (b' := true) rfl (congrArg Value.bool LD) rfl) (by kernel_rfl) (by kernel_rfl) (by kernel_rfl) (bG 17 mJ rfl (bB (b' := true) rfl (congrArg Value.bool LD) rfl) (by kernel_rfl) (by kernel_rfl) (by kernel_rfl) (bG 18 mJ rfl (bB (b' := true) rfl (congrArg Value.bool LD) rfl) (by kernel_rfl) (by kernel_rfl) (by kernel_rfl) (bZ 19 mJ rfl ax (by kernel_rfl) (by kernel_rfl) (by kernel_rfl) (fun w hk => cK (b := true) (v := (.bool (true))) (congrArg Value.bool LD) rfl) (bZ 20 mJ rfl ax (by kernel_rfl) (by kernel_rfl) (by kernel_rfl) (fun w hk => au (v := (.bool (true))) rfl) (bG 21 mJ rfl (bB (b' := true) rfl rfl rfl) (by kernel_rfl) (by kernel_rfl) (by kernel_rfl) (bG 22 mJ rfl (bB (b' := true) rfl rfl rfl) (by kernel_rfl) (by kernel_rfl) (by kernel_rfl) (bG 23 mJ rfl (bB (b' := true) rfl rfl rfl) (by kernel_rfl) (by kernel_rfl) (by kernel_rfl) (bG 24 mJ rfl (bB (b' := true) rfl rfl rfl) (by kernel_rfl) (by kernel_rfl) (by kernel_rfl) (bG 25 mJ rfl (bB (b' := true) rfl rfl rfl) (by kernel_rfl) (by kernel_rfl) (by kernel_rfl) (bG 26 mJ rfl (bB (b' := true) rfl rfl rfl) (by kernel_rfl) (by kernel_rfl) (by kernel_rfl) (bG 27 mJ rfl (bB (b' := true) rfl rfl rfl) (by kernel_rfl) (by kernel_rfl) (by kernel_rfl) (bZ 28 mJ rfl ax (by kernel_rfl) (by kernel_rfl) (by kernel_rfl) (fun w hk => cK (b := true) (v := (.bool (true))) rfl rfl) (bZ 29 mJ rfl ax (by kernel_rfl) (by kernel_rfl) (by kernel_rfl) (fun w hk => au (v := (.bool (true))) rfl) (bG 30 mJ rfl (bB (b' := true) rfl rfl rfl) (by kernel_rfl) (by kernel_rfl) (by kernel_rfl) (bG 31 mJ rfl (bB (b' := true) rfl rfl rfl) (by kernel_rfl) (by kernel_rfl) (by kernel_rfl) (bG 32 mJ rfl (bB (b' := true) rfl rfl rfl) (by kernel_rfl) (by kernel_rfl) (by kernel_rfl) (bG 33 mJ rfl (bB (b' := true) rfl rfl rfl) (by kernel_rfl) (by kernel_rfl) (by kernel_rfl) (bG 34 mJ rfl (bB (b' := true) rfl rfl rfl) (by kernel_rfl) (by kernel_rfl) (by kernel_rfl) (bZ 35 mJ rfl ax (by kernel_rfl) (by kernel_rfl) (by kernel_rfl) (fun w hk => cK (b := true) (v := (.bool (true))) rfl rfl) ?_)))))))))))))))))))))))
 refine bZ 36 mJ rfl ax (by kernel_rfl) (by kernel_rfl) (by kernel_rfl) (fun w hk => au (v := (.bool (true))) rfl) (bG 37 mJ rfl (bB (b' := true) rfl rfl rfl) (by kernel_rfl) (by kernel_rfl) (by kernel_rfl) (bG 38 mJ rfl (bB (b' := true) rfl rfl rfl) (by kernel_rfl) (by kernel_rfl) (by kernel_rfl) (bG 39 mJ rfl (bB (b' := true) rfl rfl rfl) (by kernel_rfl) (by kernel_rfl) (by kernel_rfl) (bG 40 mJ rfl (bB (b' := true) rfl rfl rfl) (by kernel_rfl) (by kernel_rfl) (by kernel_rfl) (bG 41 mJ rfl (bB (b' := true) rfl rfl rfl) (by kernel_rfl) (by kernel_rfl) (by kernel_rfl) (bZ 42 mJ rfl ax (by kernel_rfl) (by kernel_rfl) (by kernel_rfl) (fun w hk => cK (b := true) (v := (.bool (true))) rfl rfl) (rV (by kernel_rfl) (az ?_))))))))
 exact bU true ⟨h.cn _, hs⟩
 refine bZ 12 mJ rfl (gW rfl (congrArg Value.bool LD)) (by kernel_rfl) (by kernel_rfl) (by kernel_rfl) (fun w hk => ak iW rfl) (Jo mJ ?_)
 obtain ⟨NF, LF⟩ : ∃ x, x = w := ⟨_, rfl⟩
 have XT : Grow NF w := LF ▸ aL.refl _ _
 refine bZ 13 (aL.refl BE _) rfl (gW rfl (congrArg Value.bool LD)) (by kernel_rfl) (by kernel_rfl) (by kernel_rfl) (fun w hk => have h := h.grow hk; aD h 9 rfl mg rfl rfl) (bZ 14 (aL.refl BE _) rfl (gW rfl (congrArg Value.bool LD)) (by kernel_rfl) (by kernel_rfl) (by kernel_rfl) (fun w hk => oM (N := (aT Val)) dZ rfl (h.eF 7 rfl) (h.iK 8 rfl)) (bZ 15 (aL.refl BE _) rfl (gW rfl (congrArg Value.bool LD)) (by kernel_rfl) (by kernel_rfl) (by kernel_rfl) (fun w hk => ak iW rfl) (bZ 16 (aL.refl BE _) rfl (gW rfl (congrArg Value.bool LD)) (by kernel_rfl) (by kernel_rfl) (by kernel_rfl) (fun w hk => have h := h.grow hk; aD h 4 rfl mg rfl rfl) (bZ 17 (aL.refl BE _) rfl (gW rfl (congrArg Value.bool LD)) (by kernel_rfl) (by kernel_rfl) (by kernel_rfl) (fun w hk => bW dZ rfl (h.iI 3 rfl)) (bZ 18 (aL.refl BE _) rfl (gW rfl (congrArg Value.bool LD)) (by kernel_rfl) (by kernel_rfl) (by kernel_rfl) (fun w hk => j6 rfl rfl) (bZ 19 (aL.refl BE _) rfl ax (by kernel_rfl) (by kernel_rfl) (by kernel_rfl) (fun w hk => cK (b := false) (v := (.bool (decide (((b.cells.length : Int) : Int) < (y7.cells.length : Int))))) (congrArg Value.bool LD) rfl) (bZ 20 (aL.refl BE _) rfl ax (by kernel_rfl) (by kernel_rfl) (by kernel_rfl) (fun w hk => au (v := (.bool (decide (((b.cells.length : Int) : Int) < (y7.cells.length : Int))))) rfl) (iQ (b := decide (((b.cells.length : Int) : Int) < (y7.cells.length : Int))) hs (fun JN hs => ?_) (fun JN hs => ?_)))))))))
 refine bG 21 (aL.refl BE _) rfl (bB (b' := true) rfl (congrArg Value.bool JN) rfl) (by kernel_rfl) (by kernel_rfl) (by kernel_rfl) (bG 22 (aL.refl BE _) rfl (bB (b' := true) rfl (congrArg Value.bool JN) rfl) (by kernel_rfl) (by kernel_rfl) (by kernel_rfl) (bG 23 (aL.refl BE _) rfl (bB (b' := true) rfl (congrArg Value.bool JN) rfl) (by kernel_rfl) (by kernel_rfl) (by kernel_rfl) (bG 24 (aL.refl BE _) rfl (bB (b' := true) rfl (congrArg Value.bool JN) rfl) (by kernel_rfl) (by kernel_rfl) (by kernel_rfl) (bG 25 (aL.refl BE _) rfl (bB (b' := true) rfl (congrArg Value.bool JN) rfl) (by kernel_rfl) (by kernel_rfl) (by kernel_rfl) (bG 26 (aL.refl BE _) rfl (bB (b' := true) rfl (congrArg Value.bool JN) rfl) (by kernel_rfl) (by kernel_rfl) (by kernel_rfl) (bG 27 (aL.refl BE _) rfl (bB (b' := true) rfl (congrArg Value.bool JN) rfl) (by kernel_rfl) (by kernel_rfl) (by kernel_rfl) (bZ 28 (aL.refl BE _) rfl ax (by kernel_rfl) (by kernel_rfl) (by kernel_rfl) (fun w hk => cK (b := true) (v := (.bool (true))) (congrArg Value.bool JN) rfl) (bZ 29 (aL.refl BE _) rfl ax (by kernel_rfl) (by kernel_rfl) (by kernel_rfl) (fun w hk => au (v := (.bool (true))) rfl) (bG 30 (aL.refl BE _) rfl (bB (b' := true) rfl rfl rfl) (by kernel_rfl) (by kernel_rfl) (by kernel_rfl) (bG 31 (aL.refl BE _) rfl (bB (b' := true) rfl rfl rfl) (by kernel_rfl) (by kernel_rfl) (by kernel_rfl) (bG 32 (aL.refl BE _) rfl (bB (b' := true) rfl rfl rfl) (by kernel_rfl) (by kernel_rfl) (by kernel_rfl) (bG 33 (aL.refl BE _) rfl (bB (b' := true) rfl rfl rfl) (by kernel_rfl) (by kernel_rfl) (by kernel_rfl) (bG 34 (aL.refl BE _) rfl (bB (b' := true) rfl rfl rfl) (by kernel_rfl) (by kernel_rfl) (by kernel_rfl) (bZ 35 (aL.refl BE _) rfl ax (by kernel_rfl) (by kernel_rfl) (by kernel_rfl) (fun w hk => cK (b := true) (v := (.bool (true))) rfl rfl) (bZ 36 (aL.refl BE _) rfl ax (by kernel_rfl) (by kernel_rfl) (by kernel_rfl) (fun w hk => au (v := (.bool (true))) rfl) (bG 37 (aL.refl BE _) rfl (bB (b' := true) rfl rfl rfl) (by kernel_rfl) (by kernel_rfl) (by kernel_rfl) (bG 38 (aL.refl BE _) rfl (bB (b' := true) rfl rfl rfl) (by kernel_rfl) (by kernel_rfl) (by kernel_rfl) (bG 39 (aL.refl BE _) rfl (bB (b' := true) rfl rfl rfl) (by kernel_rfl) (by kernel_rfl) (by kernel_rfl) (bG 40 (aL.refl BE _) rfl (bB (b' := true) rfl rfl rfl) (by kernel_rfl) (by kernel_rfl) (by kernel_rfl) (bG 41 (aL.refl BE _) rfl (bB (b' := true) rfl rfl rfl) (by kernel_rfl) (by kernel_rfl) (by kernel_rfl) (bZ 42 (aL.refl BE _) rfl ax (by kernel_rfl) (by kernel_rfl) (by kernel_rfl) (fun w hk => cK (b := true) (v := (.bool (true))) rfl rfl) (rV (by kernel_rfl) (az ?_)))))))))))))))))))))))
 exact bU true ⟨h.cn _, hs⟩
 refine bZ 21 (aL.refl BE _) rfl (gW rfl (congrArg Value.bool JN)) (by kernel_rfl) (by kernel_rfl) (by kernel_rfl) (fun w hk => ak dY rfl) (bZ 22 (aL.refl BE _) rfl (gW rfl (congrArg Value.bool JN)) (by kernel_rfl) (by kernel_rfl) (by kernel_rfl) (fun w hk => have h := h.grow hk; aD h 9 rfl iR rfl rfl) (bZ 23 (aL.refl BE _) rfl (gW rfl (congrArg Value.bool JN)) (by kernel_rfl) (by kernel_rfl) (by kernel_rfl) (fun w hk => oM (N := aB) dm rfl (h.eF 5 rfl) (h.iK 6 rfl)) (bZ 24 (aL.refl BE _) rfl (gW rfl (congrArg Value.bool JN)) (by kernel_rfl) (by kernel_rfl) (by kernel_rfl) (fun w hk => ak dY rfl) (bZ 25 (aL.refl BE _) rfl (gW rfl (congrArg Value.bool JN)) (by kernel_rfl) (by kernel_rfl) (by kernel_rfl) (fun w hk => have h := h.grow hk; aD h 4 rfl iR rfl rfl) (bZ 26 (aL.refl BE _) rfl (gW rfl (congrArg Value.bool JN)) (by kernel_rfl) (by kernel_rfl) (by kernel_rfl) (fun w hk => bW dm rfl (h.iI 2 rfl)) (bZ 27 (aL.refl BE _) rfl (gW rfl (congrArg Value.bool JN)) (by kernel_rfl) (by kernel_rfl) (by kernel_rfl) (fun w hk => gu rfl rfl) (bZ 28 (aL.refl BE _) rfl ax (by kernel_rfl) (by kernel_rfl) (by kernel_rfl) (fun w hk => cK (b := false) (v := (.bool (decide (((y7.frames.length : Int) : Int) ≠ (b.frames.length : Int))))) (congrArg Value.bool JN) rfl) (bZ 29 (aL.refl BE _) rfl ax (by kernel_rfl) (by kernel_rfl) (by kernel_rfl) (fun w hk => au (v := (.bool (decide (((y7.frames.length : Int) : Int) ≠ (b.frames.length : Int))))) rfl) (iQ (b := decide (((y7.frames.length : Int) : Int) ≠ (b.frames.length : Int))) hs (fun DK hs => ?_) (fun DK hs => ?_))))))))))
 refine bG 30 (aL.refl BE _) rfl (bB (b' := true) rfl (congrArg Value.bool DK) rfl) (by kernel_rfl) (by kernel_rfl) (by kernel_rfl) (bG 31 (aL.refl BE _) rfl (bB (b' := true) rfl (congrArg Value.bool DK) rfl) (by kernel_rfl) (by kernel_rfl) (by kernel_rfl) (bG 32 (aL.refl BE _) rfl (bB (b' := true) rfl (congrArg Value.bool DK) rfl) (by kernel_rfl) (by kernel_rfl) (by kernel_rfl) (bG 33 (aL.refl BE _) rfl (bB (b' := true) rfl (congrArg Value.bool DK) rfl) (by kernel_rfl) (by kernel_rfl) (by kernel_rfl) (bG 34 (aL.refl BE _) rfl (bB (b' := true) rfl (congrArg Value.bool DK) rfl) (by kernel_rfl) (by kernel_rfl) (by kernel_rfl) (bZ 35 (aL.refl BE _) rfl ax (by kernel_rfl) (by kernel_rfl) (by kernel_rfl) (fun w hk => cK (b := true) (v := (.bool (true))) (congrArg Value.bool DK) rfl) (bZ 36 (aL.refl BE _) rfl ax (by kernel_rfl) (by kernel_rfl) (by kernel_rfl) (fun w hk => au (v := (.bool (true))) rfl) (bG 37 (aL.refl BE _) rfl (bB (b' := true) rfl rfl rfl) (by kernel_rfl) (by kernel_rfl) (by kernel_rfl) (bG 38 (aL.refl BE _) rfl (bB (b' := true) rfl rfl rfl) (by kernel_rfl) (by kernel_rfl) (by kernel_rfl) (bG 39 (aL.refl BE _) rfl (bB (b' := true) rfl rfl rfl) (by kernel_rfl) (by kernel_rfl) (by kernel_rfl) (bG 40 (aL.refl BE _) rfl (bB (b' := true) rfl rfl rfl) (by kernel_rfl) (by kernel_rfl) (by kernel_rfl) (bG 41 (aL.refl BE _) rfl (bB (b' := true) rfl rfl rfl) (by kernel_rfl) (by kernel_rfl) (by kernel_rfl) (bZ 42 (aL.refl BE _) rfl ax (by kernel_rfl) (by kernel_rfl) (by kernel_rfl) (fun w hk => cK (b := true) (v := (.bool (true))) rfl rfl) (rV (by kernel_rfl) (az ?_))))))))))))))
 exact bU true ⟨h.cn _, hs⟩
 refine bZ 30 (aL.refl BE _) rfl (gW rfl (congrArg Value.bool DK)) (by kernel_rfl) (by kernel_rfl) (by kernel_rfl) (fun w hk => ak nO rfl) (bZ 31 (aL.refl BE _) rfl (gW rfl (congrArg Value.bool DK)) (by kernel_rfl) (by kernel_rfl) (by kernel_rfl) (fun w hk => have h := h.grow hk; aD h 9 rfl aZ rfl rfl) (bZ 32 (aL.refl BE _) rfl (gW rfl (congrArg Value.bool DK)) (by kernel_rfl) (by kernel_rfl) (by kernel_rfl) (fun w hk => ak nO rfl) (bZ 33 (aL.refl BE _) rfl (gW rfl (congrArg Value.bool DK)) (by kernel_rfl) (by kernel_rfl) (by kernel_rfl) (fun w hk => have h := h.grow hk; aD h 4 rfl aZ rfl rfl) (bZ 34 (aL.refl BE _) rfl (gW rfl (congrArg Value.bool DK)) (by kernel_rfl) (by kernel_rfl) (by kernel_rfl) (fun w hk => gu rfl rfl) (bZ 35 (aL.refl BE _) rfl ax (by kernel_rfl) (by kernel_rfl) (by kernel_rfl) (fun w hk => cK (b := false) (v := (.bool (decide ((y7.status : Int) ≠ b.status)))) (congrArg Value.bool DK) rfl) (bZ 36 (aL.refl BE _) rfl ax (by kernel_rfl) (by kernel_rfl) (by kernel_rfl) (fun w hk => au (v := (.bool (decide ((y7.status : Int) ≠ b.status)))) rfl) (iQ (b := decide ((y7.status : Int) ≠ b.status)) hs (fun BC hs => ?_) (fun BC hs => ?_))))))))
 refine bG 37 (aL.refl BE _) rfl (bB (b' := true) rfl (congrArg Value.bool BC) rfl) (by kernel_rfl) (by kernel_rfl) (by kernel_rfl) (bG 38 (aL.refl BE _) rfl (bB (b' := true) rfl (congrArg Value.bool BC) rfl) (by kernel_rfl) (by kernel_rfl) (by kernel_rfl) (bG 39 (aL.refl BE _) rfl (bB (b' := true) rfl (congrArg Value.bool BC) rfl) (by kernel_rfl) (by kernel_rfl) (by kernel_rfl) (bG 40 (aL.refl BE _) rfl (bB (b' := true) rfl (congrArg Value.bool BC) rfl) (by kernel_rfl) (by kernel_rfl) (by kernel_rfl) (bG 41 (aL.refl BE _) rfl (bB (b' := true) rfl (congrArg Value.bool BC) rfl) (by kernel_rfl) (by kernel_rfl) (by kernel_rfl) (bZ 42 (aL.refl BE _) rfl ax (by kernel_rfl) (by kernel_rfl) (by kernel_rfl) (fun w hk => cK (b := true) (v := (.bool (true))) (congrArg Value.bool BC) rfl) (rV (by kernel_rfl) (az ?_)))))))
 exact bU true ⟨h.cn _, hs⟩
 refine bZ 37 (aL.refl BE _) rfl (gW rfl (congrArg Value.bool BC)) (by kernel_rfl) (by kernel_rfl) (by kernel_rfl) (fun w hk => ak vG rfl) (bZ 38 (aL.refl BE _) rfl (gW rfl (congrArg Value.bool BC)) (by kernel_rfl) (by kernel_rfl) (by kernel_rfl) (fun w hk => have h := h.grow hk; aD h 9 rfl aZ rfl rfl) (bZ 39 (aL.refl BE _) rfl (gW rfl (congrArg Value.bool BC)) (by kernel_rfl) (by kernel_rfl) (by kernel_rfl) (fun w hk => ak vG rfl) (bZ 40 (aL.refl BE _) rfl (gW rfl (congrArg Value.bool BC)) (by kernel_rfl) (by kernel_rfl) (by kernel_rfl) (fun w hk => have h := h.grow hk; aD h 4 rfl aZ rfl rfl) (bZ 41 (aL.refl BE _) rfl (gW rfl (congrArg Value.bool BC)) (by kernel_rfl) (by kernel_rfl) (by kernel_rfl) (fun w hk => gu rfl rfl) (bZ 42 (aL.refl BE _) rfl ax (by kernel_rfl) (by kernel_rfl) (by kernel_rfl) (fun w hk => cK (b := false) (v := (.bool (decide ((y7.aV : Int) ≠ b.aV)))) (congrArg Value.bool BC) rfl) (rV (by kernel_rfl) (az ?_)))))))
 exact bU (decide ((y7.aV : Int) ≠ b.aV)) ⟨h.cn _, hs⟩
 refine ag ?_
 obtain ⟨y101, e102, hs⟩ := aQ hs
 refine bA Rc rfl rfl (wY N _ _ h.lt (hT.go h.keep)  _ e102) ?_
 rintro _ w ⟨XP, rfl⟩
 refine ⟨_, rfl, ?_⟩
 replace h := h.grow XP
 refine ae (gZ rfl) (ae (au (v := (.bool ((!y101)))) rfl) (iQ (b := (!y101)) hs (fun GM hs => ?_) (fun GM hs => ?_)))
 refine bH (b' := true) rfl (congrArg Value.bool GM) rfl (bH (b' := true) rfl (congrArg Value.bool GM) rfl (bH (b' := true) rfl (congrArg Value.bool GM) rfl (bH (b' := true) rfl (congrArg Value.bool GM) rfl (ae (cK (b := true) (v := (.bool (true))) (congrArg Value.bool GM) rfl) (ah (az ?_))))))
 exact bU true ⟨h.cn _, hs⟩
 refine dK rfl (congrArg Value.bool GM) (ae (au (v := va) rfl) (dK rfl (congrArg Value.bool GM) (ae (dE (vs := [vb0, vb1, (.int .i64 (b.status)), (.int .i64 (b.aV))]) h 4 rfl dw rfl rfl rfl) (dK rfl (congrArg Value.bool GM) ?_))))
 obtain ⟨UZ, Ng, hs⟩ := aQ hs
 refine bA FZ rfl rfl (wC _ _ h.lt va a (h.iI 1 rfl) b vb0 vb1 (h.iI 2 rfl) (h.iI 3 rfl) _ Ng) ?_
 rintro _ w ⟨k107, rfl⟩
 refine ⟨_, rfl, ?_⟩
 replace h := h.grow k107
 refine dK rfl (congrArg Value.bool GM) (ae (gu rfl rfl) (ae (cK (b := false) (v := (.bool (decide ((UZ : Int) ≠ 0)))) (congrArg Value.bool GM) rfl) (ah (az ?_))))
 exact bU (decide ((UZ : Int) ≠ 0)) ⟨h.cn _, hs⟩
end
end Go.Proofs.YtfclkapelkhlpaaGreatDoor
namespace Go.Proofs.YtfclkapelkhlpaaGreatDoor
open Go Go.Proofs Go.LX
noncomputable section
def l7 (a : Val) (b : Int) (x2 : Bool) : Int :=
  bif x2 then 4 else bif (decide ((a.kind : Int) = 1) && (!(fC a.n))) then 3 else bif (decide ((a.kind : Int) = 2) && (!(aY a.n b))) then 5 else 0
def dR (a : Val) (b : Int) : Int :=
  bif (!(bC a.kind 0 2)) then l7 a b (!(bC a.kind 0 2)) else l7 a b (decide ((a.kind : Int) = 0) && decide ((a.n : Int) ≠ 0))
def jq (a : List (List Val)) (x20 : Val) (s : Unit) (UH : Unit → Int) : Int :=
  bif decide (((dR x20 (a.length : Int)) : Int) ≠ 0) then (dR x20 (a.length : Int)) else UH ()
def jr (Fa : Unit → Int) (s : Unit) : Int :=
  Fa ()
def jv (a : List (List Val)) (x4 : List Val) (s : Unit) (Fa : Unit → Int) : Int :=
  bif (!(bC (x4.length : Int) 1 4)) then 2 else each (jq a) (jr Fa) x4 ()
def jw (s : Unit) : Int :=
  0
def kz (a : List (List Val)) : Int :=
  bif decide ((24 : Int) < (a.length : Int)) then 2 else each (jv a) jw a ()
def lK (b : LX.State) (Yf : Val) (s : Unit) (nx46 : Unit → Option Int) : Option Int :=
  bif decide (((dR Yf (b.cells.length : Int)) : Int) ≠ 0) then some (dR Yf (b.cells.length : Int)) else nx46 ()
def lL (J3 : Int → Option Int) (Dn : LX.Frame) (s : Unit) : Option Int :=
  J3 (Dn.regs.length : Int)
def gq (a : List dx) (Dn : LX.Frame) (b : LX.State) (J3 : Int → Option Int) (x30 : Bool) : Option Int :=
  bif x30 then some 3 else (idx a Dn.proc).bind fun x32 => bif decide (((Dn.regs.length : Int) : Int) ≠ x32.regs) then some 4 else each (lK b) (lL J3 Dn) Dn.regs ()
def eX (a : List dx) (b : LX.State) (Dn : LX.Frame) (wo : Int) (J3 : Int → Option Int) : Option Int :=
  bif (!(aY Dn.proc (a.length : Int))) then some 5 else (idx a Dn.proc).bind fun Tj => bif (!(aY Dn.at_ (Tj.code.length : Int))) then gq a Dn b J3 true else gq a Dn b J3 (!(aY Dn.kG wo))
def iH (wo : Int) : Option Int :=
  some 0
def ou (a : List dx) (b : LX.State) : Option Int :=
  bif ((!(bC b.status 0 3)) || (!(fC b.aV))) then some 3 else bif (((decide ((b.aV : Int) ≠ 0) && decide ((b.status : Int) ≠ 3)) || (decide ((b.status : Int) = 1) && decide ((0 : Int) < (b.frames.length : Int)))) || (decide ((b.status : Int) ≠ 1) && decide (((b.frames.length : Int) : Int) = 0))) then some 4 else bif decide ((10 : Int) < (b.frames.length : Int)) then some 2 else bif decide (((kz b.cells) : Int) ≠ 0) then some (kz b.cells) else each (eX a b) iH b.frames 1
end
end Go.Proofs.YtfclkapelkhlpaaGreatDoor
