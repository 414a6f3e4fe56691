/-
  What the law VmKeeps needs of our own library and of the walks, no more.
-/
import Derived.Test.YtfclkapelkhlpaaGreatDoorProg
import Derived.Test.YtfclkapelkhlpaaGreatDoorVmKeepsTe
set_option linter.unusedSimpArgs false
set_option linter.unusedVariables false
set_option maxRecDepth 10000
namespace Go.Proofs.YtfclkapelkhlpaaGreatDoor
open Go Go.Proofs Go.LX
noncomputable section
theorem Pm (N : Nat) (w0 : World) (M : BS) (hM : ∀ b, M b → b < w0.heap.size) (sb : Nat) (sx : LX.State) (eU vs1 : Value) (fq eQ : List Value) (hC : Chunk.holds w0 M (Chunk.own' (.two (.two (.two (.two (.blk sb [eU, vs1, (.int .i64 (sx.status)), (.int .i64 (sx.aV))]) (.own aB.raw 49 eU (List.zip sx.frames fq))) (.bL (aR aL 51 hn fq (List.map aB.sub sx.frames)))) (.own (aU Val).raw 47 vs1 (List.zip sx.cells eQ))) (.bL (aR aL 51 hn eQ (List.map (aU Val).sub sx.cells))) : Chunk)) (.two (.two (.two (.two (.blk sb [eU, vs1, (.int .i64 (sx.status)), (.int .i64 (sx.aV))]) (.own aB.raw 49 eU (List.zip sx.frames fq))) (.bL (aR aL 51 hn fq (List.map aB.sub sx.frames)))) (.own (aU Val).raw 47 vs1 (List.zip sx.cells eQ))) (.bL (aR aL 51 hn eQ (List.map (aU Val).sub sx.cells))) : Chunk)) (hap : ∀ b, Chunk.own' (.two (.two (.two (.two (.blk sb [eU, vs1, (.int .i64 (sx.status)), (.int .i64 (sx.aV))]) (.own aB.raw 49 eU (List.zip sx.frames fq))) (.bL (aR aL 51 hn fq (List.map aB.sub sx.frames)))) (.own (aU Val).raw 47 vs1 (List.zip sx.cells eQ))) (.bL (aR aL 51 hn eQ (List.map (aU Val).sub sx.cells))) : Chunk) b → ¬ M b) (va : Value) (a : List cz) (ha : fo j4 w0 (fun b => M b ∨ (.two (.two (.two (.two (.blk sb [eU, vs1, (.int .i64 (sx.status)), (.int .i64 (sx.aV))]) (.own aB.raw 49 eU (List.zip sx.frames fq))) (.bL (aR aL 51 hn fq (List.map aB.sub sx.frames)))) (.own (aU Val).raw 47 vs1 (List.zip sx.cells eQ))) (.bL (aR aL 51 hn eQ (List.map (aU Val).sub sx.cells))) : Chunk).own' b) va a) (r : Bz × Bool × LX.State) (hs : nR N sx a = some r) :
    Calls Tryz.prog 65 #[va, (.pointer (some ⟨sb, 0, none⟩))] w0 (fun e w' => aS (Chunk.own' (.two (.two (.two (.two (.blk sb [eU, vs1, (.int .i64 (sx.status)), (.int .i64 (sx.aV))]) (.own aB.raw 49 eU (List.zip sx.frames fq))) (.bL (aR aL 51 hn fq (List.map aB.sub sx.frames)))) (.own (aU Val).raw 47 vs1 (List.zip sx.cells eQ))) (.bL (aR aL 51 hn eQ (List.map (aU Val).sub sx.cells))) : Chunk)) w0 w' ∧ ∃ AZ, ∃ A7, ∃ A8, ∃ A9, e = .returned (.tuple #[.agg #[.bool r.1.said, .int .i64 r.1.n, .bool r.1.Dx], .bool r.2.1]) ∧ Chunk.holds w' M (Chunk.own' (.two (.two (.two (.two (.blk sb [AZ, A7, .int .i64 r.2.2.status, .int .i64 r.2.2.aV]) (.own aB.raw 49 AZ (List.zip r.2.2.frames A8))) (.bL (aR aL 51 hn A8 (List.map aB.sub r.2.2.frames)))) (.own (aU Val).raw 47 A7 (List.zip r.2.2.cells A9))) (.bL (aR aL 51 hn A9 (List.map (aU Val).sub r.2.2.cells))) : Chunk)) (.two (.two (.two (.two (.blk sb [AZ, A7, .int .i64 r.2.2.status, .int .i64 r.2.2.aV]) (.own aB.raw 49 AZ (List.zip r.2.2.frames A8))) (.bL (aR aL 51 hn A8 (List.map aB.sub r.2.2.frames)))) (.own (aU Val).raw 47 A7 (List.zip r.2.2.cells A9))) (.bL (aR aL 51 hn A9 (List.map (aU Val).sub r.2.2.cells))) : Chunk) ∧ (∀ b, Chunk.own' (.two (.two (.two (.two (.blk sb [AZ, A7, .int .i64 r.2.2.status, .int .i64 r.2.2.aV]) (.own aB.raw 49 AZ (List.zip r.2.2.frames A8))) (.bL (aR aL 51 hn A8 (List.map aB.sub r.2.2.frames)))) (.own (aU Val).raw 47 A7 (List.zip r.2.2.cells A9))) (.bL (aR aL 51 hn A9 (List.map (aU Val).sub r.2.2.cells))) : Chunk) b → b < w0.heap.size → Chunk.own' (.two (.two (.two (.two (.blk sb [eU, vs1, (.int .i64 (sx.status)), (.int .i64 (sx.aV))]) (.own aB.raw 49 eU (List.zip sx.frames fq))) (.bL (aR aL 51 hn fq (List.map aB.sub sx.frames)))) (.own (aU Val).raw 47 vs1 (List.zip sx.cells eQ))) (.bL (aR aL 51 hn eQ (List.map (aU Val).sub sx.cells))) : Chunk) b)) := by
 refine aQ (args := [va, (.pointer (some ⟨sb, 0, none⟩))]) Tryz.func65 rfl Tryz.ntmps65 (Nat.le_of_ble_eq_true rfl) ?_
 have h := SH.ED hM hC hap
 replace h := h.Bw 6 ha zw
 generalize zy : (.two (.two (.two (.two (.blk sb [eU, vs1, (.int .i64 (sx.status)), (.int .i64 (sx.aV))]) (.own aB.raw 49 eU (List.zip sx.frames fq))) (.bL (aR aL 51 hn fq (List.map aB.sub sx.frames)))) (.own (aU Val).raw 47 vs1 (List.zip sx.cells eQ))) (.bL (aR aL 51 hn eQ (List.map (aU Val).sub sx.cells))) : Chunk).own' = K0 at h
 replace h := h.bX 1 5 (by decide) rfl rfl
 replace h := h.bX 1 4 (by decide) rfl rfl
 replace h := h.bX 1 3 (by decide) rfl rfl
 replace h := h.bX 1 2 (by decide) rfl rfl
 have uu := ha.bZ
 refine ai (ag (bW h 7 fP fun w b1 h => ae (aj (v := (.bool (false))) rfl) (ah (aa (ai (ag (ae (au (v := (.pointer (some ⟨sb, 0, none⟩))) rfl) (ae (bQ rfl) (ae (ak eH rfl) (ae (aF h 1 rfl iR rfl rfl) (ae (qo (N := aB) dw rfl (h.ed 2 rfl) (h.iB 3 rfl)) ?_)))))))))))
 obtain ⟨a2, hs⟩ := bI hs
 refine ae (nW rfl rfl a2) (ae (aj (v := (.int .i64 (((sx.frames.length : Int) - 1)))) rfl) (ah (aa (ai (ag (ae (au (v := (.pointer (some ⟨sb, 0, none⟩))) rfl) (ae (bQ rfl) (ae (ak eH rfl) (ae (aF h 1 rfl iR rfl rfl) (ae (au (v := (.int .i64 (((sx.frames.length : Int) - 1)))) rfl) ?_))))))))))
 obtain ⟨x3, e4, hs⟩ := aP hs
 obtain ⟨u8, e9, h⟩ := h.qL 3 8 x3.regs rfl rfl (by decide) (aJ e4).2 rfl
 obtain ⟨b6, q7, i5⟩ := h.vN 2 rfl dw rfl (aJ e4).1 (fB (aJ e4).2 e9)
 refine ae (i5 _ _ _ _ _ _ _ _ _ rfl rfl) (ae (aj (v := (.pointer (some ⟨b6, (((sx.frames.length : Int) - 1)).toNat * 4, none⟩))) rfl) (ah (aa (ai (E9 mixed h fun w h => iD 0 (aS.refl BE _) rfl ay (by kernel_rfl) (by kernel_rfl) (by kernel_rfl) (fun w hk => au (v := va) rfl) (iD 1 (aS.refl BE _) rfl ay (by kernel_rfl) (by kernel_rfl) (by kernel_rfl) (fun w hk => au (v := (.pointer (some ⟨b6, (((sx.frames.length : Int) - 1)).toNat * 4, none⟩))) rfl) (iD 2 (aS.refl BE _) rfl ay (by kernel_rfl) (by kernel_rfl) (by kernel_rfl) (fun w hk => bQ rfl) (iD 3 (aS.refl BE _) rfl ay (by kernel_rfl) (by kernel_rfl) (by kernel_rfl) (fun w hk => ak wS rfl) ?_))))))))
 obtain ⟨XX, Si, Sj⟩ := h.yx 2 rfl q7 (fB (aJ e4).2 e9)
 obtain ⟨rfl, -⟩ := Sj
 refine iD 4 (aS.refl BE _) rfl ay (by kernel_rfl) (by kernel_rfl) (by kernel_rfl) (fun w hk => have h := h.grow hk; oJ (k := 0) (Si.grow hk) bz rfl rfl) ?_
 obtain ⟨aW, C9, hs⟩ := aP hs
 obtain ⟨Z0, Z4, XY, h, Sk, Sl⟩ := h.Dl 6 69 rfl jq rfl (aJ C9).1 (aJ C9).2
 obtain ⟨Z5, rfl, Sm⟩ := nz Sk
 replace h := h.cO 70 Sm.up
 refine iD 5 (aS.refl BE _) rfl ay (by kernel_rfl) (by kernel_rfl) (by kernel_rfl) (fun w hk => Sl _ _ _ _ _ _ _ _ _ rfl rfl) (iD 6 (aS.refl BE _) rfl ay (by kernel_rfl) (by kernel_rfl) (by kernel_rfl) (fun w hk => ak qM rfl) (iD 7 (aS.refl BE _) rfl ay (by kernel_rfl) (by kernel_rfl) (by kernel_rfl) (fun w hk => have h := h.grow hk; ek (k := 2) h 69 rfl zq rfl rfl) (iD 8 (aS.refl BE _) rfl ay (by kernel_rfl) (by kernel_rfl) (by kernel_rfl) (fun w hk => au (v := (.pointer (some ⟨b6, (((sx.frames.length : Int) - 1)).toNat * 4, none⟩))) rfl) (iD 9 (aS.refl BE _) rfl ay (by kernel_rfl) (by kernel_rfl) (by kernel_rfl) (fun w hk => bQ rfl) (iD 10 (aS.refl BE _) rfl ay (by kernel_rfl) (by kernel_rfl) (by kernel_rfl) (fun w hk => ak tV rfl) ?_)))))
 obtain ⟨Xh, Pn, Po⟩ := h.yx 2 rfl q7 (fB (aJ e4).2 e9)
 obtain ⟨rfl, -⟩ := Po
 refine iD 11 (aS.refl BE _) rfl ay (by kernel_rfl) (by kernel_rfl) (by kernel_rfl) (fun w hk => have h := h.grow hk; oJ (k := 1) (Pn.grow hk) bz rfl rfl) ?_
 obtain ⟨aM, Iz, hs⟩ := aP hs
 obtain ⟨XZ, X0, Xi, h, Pp, Pq⟩ := h.Dl 70 153 rfl jf rfl (aJ Iz).1 (aJ Iz).2
 obtain ⟨jK, rfl, Ps⟩ := Az Pp
 replace h := h.cO 154 Ps.up
 refine iD 12 (aS.refl BE _) rfl ay (by kernel_rfl) (by kernel_rfl) (by kernel_rfl) (fun w hk => Pq _ _ _ _ _ _ _ _ _ rfl rfl) (iD 13 (aS.refl BE _) rfl ay (by kernel_rfl) (by kernel_rfl) (by kernel_rfl) (fun w hk => have h := h.grow hk; ji (k := 0) (vs := [(.int .i64 (aM.op)), (.int .i64 (aM.a)), (.int .i64 (aM.b)), (.int .i64 (aM.c)), jK]) h 153 rfl oW rfl rfl rfl (Nat.le_of_ble_eq_true rfl)) ?_)
 obtain ⟨Z6, Vj⟩ : ∃ x, x = w := ⟨_, rfl⟩
 have MR : Grow Z6 w := Vj ▸ aS.refl BE w
 refine Ns Vj.symm (yJ 14 (by kernel_rfl) rfl ay (Dt h 177 oW fun w IA h MS MU => ?_))
 have MV : Z6.heap.size ≤ IA := Nat.le_trans MR.size MU
 replace MR := MR.trans MS
 refine ah (rO MR (yJ 15 (by kernel_rfl) rfl ay (wZ (vs := [(.int .i64 (aM.op)), (.int .i64 (aM.a)), (.int .i64 (aM.b)), (.int .i64 (aM.c)), jK]) h 177 [(.int .i64 (aM.op)), (.int .i64 (aM.a)), (.int .i64 (aM.b)), (.int .i64 (aM.c)), jK] rfl oW rfl rfl rfl rfl rfl (ax rfl (ax rfl (ax rfl (ax rfl (ax (h.gF 154 rfl).one bu))))) fun w h Pt => ?_)))
 replace MR := MR.fresh Pt (fun x hx => hx ▸ MV)
 refine ah (rO MR (Cu (by kernel_rfl) (aa (ai (qI 19 mixed (by kernel_rfl) h fun w h => aN (au (v := (.pointer (some ⟨b6, (((sx.frames.length : Int) - 1)).toNat * 4, none⟩))) rfl) (aN (au (v := (.pointer (some ⟨b6, (((sx.frames.length : Int) - 1)).toNat * 4, none⟩))) rfl) (aN (bQ rfl) (aN (ak tV rfl) ?_))))))))
 obtain ⟨YI, m14, WX⟩ := h.yx 2 rfl q7 (fB (aJ e4).2 e9)
 obtain ⟨rfl, -⟩ := WX
 refine aN (oJ (k := 1) m14 bz rfl rfl) ?_
 obtain ⟨a16, hs⟩ := bI hs
 refine aN (dC rfl rfl a16) (aN (au (v := va) rfl) (aN (au (v := (.pointer (some ⟨b6, (((sx.frames.length : Int) - 1)).toNat * 4, none⟩))) rfl) (aN (bQ rfl) (aN (ak wS rfl) ?_))))
 obtain ⟨cs17, m18, r19⟩ := h.yx 2 rfl q7 (fB (aJ e4).2 e9)
 obtain ⟨rfl, -⟩ := r19
 refine aN (oJ (k := 0) m18 bz rfl rfl) ?_
 obtain ⟨He, o22, cs23, h, r24, i20⟩ := h.Dl 6 213 rfl jq rfl (aJ C9).1 (aJ C9).2
 obtain ⟨u25, rfl, WQ⟩ := nz r24
 replace h := h.cO 214 WQ.up
 refine aN (i20 _ _ _ _ _ _ _ _ _ rfl rfl) (aN (ak qM rfl) (aN (ek (k := 2) h 213 rfl zq rfl rfl) (aN (bU jf rfl (h.lY 214 rfl)) ?_)))
 obtain ⟨a27, hs⟩ := bI hs
 refine aN (nW rfl rfl a27) (aN (Yi rfl rfl) (aN (bQ rfl) (aN (ak tV rfl) (zm (HZ (a' := (({ x3 with at_ := (min (x3.at_ + 1) ((aW.code.length : Int) - 1)) }), u8)) h 2 rfl q7 rfl (fB (aJ e4).2 e9) bz rfl rfl rfl rfl (by rintro _ ⟨rfl, hq⟩; exact ⟨rfl, hq⟩) fun w h => ?_)))))
 rw [FL e9] at h
 replace h := h.VE 3 ({ x3 with at_ := (min (x3.at_ + 1) ((aW.code.length : Int) - 1)) }) rfl
 refine ah (aa (ai (ag (ae (au (v := (.pointer (some ⟨b6, (((sx.frames.length : Int) - 1)).toNat * 4, none⟩))) rfl) (ae (bQ rfl) (ae (ak l8 rfl) ?_))))))
 obtain ⟨Ui, m29, WR⟩ := h.yx 2 rfl q7 (fB (jP (aJ e4).2) e9)
 obtain ⟨rfl, -⟩ := WR
 refine ae (oJ (k := 2) m29 mr rfl rfl) (ae (aj (v := u8) rfl) (ah (aa (bY (σ := Bool × Value × List Value × List LX.Frame × Value × List Value × List (List Val) × Int × Int) (inl [5, 10, 60, 61, 62, 63, 64, 65, 66, 67, 68, 69, 70, 71, 72, 73, 74, 75, 76, 77, 78, 79, 80, 81, 82, 83, 84, 85, 86, 87, 88, 89, 90, 91, 92, 93, 94, 95, 96, 97, 98, 99, 100, 101, 102, 103, 104, 105, 106, 107, 108, 109, 110, 111, 112, 113, 114, 115, 116, 117, 118, 119, 120, 121, 122, 123, 124, 125, 126, 127, 128, 129, 130, 131, 132, 133, 134, 135, 136, 137, 138, 139, 140, 141, 142, 143, 144, 145, 146, 147, 148, 149, 150, 151, 152, 153, 154, 155, 156, 157, 158, 159, 160, 161, 162, 163, 164, 165, 166, 167, 168, 169, 170, 171, 172, 173, 174, 175, 176, 177, 178, 179, 180, 181, 182, 183, 184, 185, 186, 187, 188, 189, 190, 191, 192, 193, 194, 195, 196, 197, 198, 199, 200, 201, 202, 203, 204, 205, 206, 207, 208, 209, 210, 211, 212, 213, 214, 215]) (fun ⟨y31, v32, MW, y34, v35, MX, Ur, y38, y39⟩ => []) (fun ⟨y31, v32, MW, y34, v35, MX, Ur, y38, y39⟩ w => SH w0 M K0 w (hset [(1, .blk sb [v32, v35, (.int .i64 (y38)), (.int .i64 (y39))]), (2, .own aB.raw 49 v32 (List.zip y34 MW)), (3, .bL (aR aL 51 hn MW (List.map aB.sub y34))), (4, .own (aU Val).raw 47 v35 (List.zip Ur MX)), (5, .bL (aR aL 51 hn MX (List.map (aU Val).sub Ur))), (7, .blk b1 [(.bool (false)), (.int .i64 (0)), (.bool (y31))])]) ∧ jR y31 y34 Ur y38 y39 = some r) ?_ ?_))))
 rintro ⟨y31, v32, MW, y34, v35, MX, Ur, y38, y39⟩ w dD ⟨h, hs⟩
 refine ai (ag (ae (dz (vs := [(.bool (false)), (.int .i64 (0)), (.bool (y31))]) h 7 rfl fP rfl rfl rfl) (dA (vs := [(.bool (false)), (.int .i64 (0)), (.bool (y31))]) h 7 [(.bool (false)), (.int .i64 (0)), (.bool (y31))] rfl fP rfl rfl rfl rfl rfl (ax rfl (ax rfl (ax rfl bu))) fun w h => ae (aj (v := (.bool (true))) rfl) (ah (aa (aI (jO (vs := [(.bool (false)), (.int .i64 (0)), (.bool (y31))]) (v2 := (.bool (true))) Tryz.results65 rfl rfl h 7 rfl fP rfl ?_)))))))
 replace h := h.pair 1 2 (by decide)
 replace h := h.pair 1 3 (by decide)
 replace h := h.pair 1 4 (by decide)
 replace h := h.pair 1 5 (by decide)
 obtain rfl := Option.some.inj hs
 subst zy
 obtain ⟨o1, o2, o3⟩ := h.qp 1 (C := (.two (.two (.two (.two (.blk sb [v32, v35, (.int .i64 (y38)), (.int .i64 (y39))]) (.own aB.raw 49 v32 (List.zip y34 MW))) (.bL (aR aL 51 hn MW (List.map aB.sub y34)))) (.own (aU Val).raw 47 v35 (List.zip Ur MX))) (.bL (aR aL 51 hn MX (List.map (aU Val).sub Ur))) : Chunk)) rfl ⟨⟨⟨⟨trivial, trivial⟩, trivial⟩, trivial⟩, trivial⟩
 exact ⟨o2, v32, v35, MW, MX, rfl, o1, o3⟩
 refine ai (ag (ae (ak oN rfl) (ae (aF h 177 rfl bz rfl rfl) (ah (aa (aT (ai (ag (ae (bH rfl rfl) (ae (aj (v := (.bool (decide ((aM.op : Int) = 1)))) rfl) (ah (aa (aK hs rfl (fun c40 hs => ?_) (fun c40 hs => ?_))))))))))))))
 refine ag (ae (au (v := u8) rfl) (ae (ak jV rfl) (ae (aF h 177 rfl bz rfl rfl) (ae (ak iF rfl) (ae (aF h 177 rfl bz rfl rfl) (ae (dO (pv := [(0, (.int .i64 (1))), (1, (.int .i64 (aM.b)))]) (out := [(.int .i64 (1)), (.int .i64 (aM.b))]) uq rfl ⟨0, 1, [(.int .i64 (1))], rfl, rfl, rfl, Nat.le_of_ble_eq_true rfl, ⟨1, 1, [(.int .i64 (aM.b))], rfl, rfl, rfl, Nat.le_of_ble_eq_true rfl, rfl⟩⟩) ?_))))))
 obtain ⟨x41, e42, hs⟩ := aP hs
 obtain ⟨O8, Zo, i43⟩ := h.vN 8 rfl bR rfl (aJ e42).1 (aJ e42).2
 refine ae (i43 _ _ _ _ _ _ _ _ _ rfl rfl) (w9 (a' := (⟨1, aM.b⟩ : Val)) (vs := [(.int .i64 (1)), (.int .i64 (aM.b))]) h 8 rfl Zo rfl (aJ e42).2 bT rfl rfl rfl rfl rfl fun w h k46 => ah (aA ?_))
 replace h := h.qJ 2 3 8 ({ x3 with at_ := (min (x3.at_ + 1) ((aW.code.length : Int) - 1)), regs := (x3.regs.set (aM.a).toNat (⟨1, aM.b⟩ : Val)) }) rfl rfl rfl (by decide) (by decide) (by decide) (jP (aJ e4).2) e9 rfl
 refine az ?_
 exact bS (false, eU, fq, ((sx.frames.set (((sx.frames.length : Int) - 1)).toNat ({ x3 with at_ := (min (x3.at_ + 1) ((aW.code.length : Int) - 1)) })).set (((sx.frames.length : Int) - 1)).toNat ({ x3 with at_ := (min (x3.at_ + 1) ((aW.code.length : Int) - 1)), regs := (x3.regs.set (aM.a).toNat (⟨1, aM.b⟩ : Val)) })), vs1, eQ, sx.cells, sx.status, sx.aV) ⟨h.cn _, hs⟩
 refine ai (ag (ae (bH rfl rfl) (ae (aj (v := (.bool (decide ((aM.op : Int) = 2)))) rfl) (ah (aa (aK hs rfl (fun YH hs => ?_) (fun YH hs => ?_)))))))
 refine qI 9 mixed (by kernel_rfl) h fun w h => aN (au (v := u8) rfl) (aN (ak jV rfl) (aN (aF h 177 rfl bz rfl rfl) (aN (au (v := u8) rfl) (aN (ak iF rfl) (aN (aF h 177 rfl bz rfl rfl) ?_)))))
 obtain ⟨Sg, e49, hs⟩ := aP hs
 obtain ⟨b51, q52, i50⟩ := h.vN 8 rfl bR rfl (aJ e49).1 (aJ e49).2
 refine aN (i50 _ _ _ _ _ _ _ _ _ rfl rfl) ?_
 obtain ⟨cs53, m54, r55⟩ := h.yx 8 rfl q52 (aJ e49).2
 obtain rfl := r55
 refine aN (ou (k := 0) (vs := [(.int .i64 (Sg.kind)), (.int .i64 (Sg.n))]) m54 bT rfl rfl rfl (Nat.le_of_ble_eq_true rfl)) ?_
 obtain ⟨x56, e57, hs⟩ := aP hs
 obtain ⟨b59, q60, i58⟩ := h.vN 8 rfl bR rfl (aJ e57).1 (aJ e57).2
 refine aN (i58 _ _ _ _ _ _ _ _ _ rfl rfl) (zm (w9 (a' := Sg) (vs := [(.int .i64 (Sg.kind)), (.int .i64 (Sg.n))]) h 8 rfl q60 rfl (aJ e57).2 bT rfl rfl rfl rfl rfl fun w h Uq => ah (aA ?_)))
 replace h := h.qJ 2 3 8 ({ x3 with at_ := (min (x3.at_ + 1) ((aW.code.length : Int) - 1)), regs := (x3.regs.set (aM.a).toNat Sg) }) rfl rfl rfl (by decide) (by decide) (by decide) (jP (aJ e4).2) e9 rfl
 refine az ?_
 exact bS (false, eU, fq, ((sx.frames.set (((sx.frames.length : Int) - 1)).toNat ({ x3 with at_ := (min (x3.at_ + 1) ((aW.code.length : Int) - 1)) })).set (((sx.frames.length : Int) - 1)).toNat ({ x3 with at_ := (min (x3.at_ + 1) ((aW.code.length : Int) - 1)), regs := (x3.regs.set (aM.a).toNat Sg) })), vs1, eQ, sx.cells, sx.status, sx.aV) ⟨h.cn _, hs⟩
 refine ai (ag (ae (bH rfl rfl) (ae (aj (v := (.bool (decide ((aM.op : Int) = 3)))) rfl) (ah (aa (aK hs rfl (fun c62 hs => ?_) (fun c62 hs => ?_)))))))
 refine bY (σ := Bool × List LX.Frame) (inl [5, 84, 85, 86, 87, 88, 89, 90, 91, 92, 93, 94, 95, 96, 97, 98, 99, 100, 101, 102, 103, 104, 105]) (fun ⟨pz, G7⟩ => [(5, (.bool (pz)))]) (fun ⟨pz, G7⟩ w => SH w0 M K0 w (hset [(1, .blk sb [eU, vs1, (.int .i64 (sx.status)), (.int .i64 (sx.aV))]), (2, .own aB.raw 49 eU (List.zip G7 fq)), (3, .bL (aR aL 51 hn fq (List.map aB.sub G7))), (4, .own (aU Val).raw 47 vs1 (List.zip sx.cells eQ)), (5, .bL (aR aL 51 hn eQ (List.map (aU Val).sub sx.cells))), (7, .blk b1 [(.bool (false)), (.int .i64 (0)), (.bool (false))])]) ∧ zh sx pz G7 = some r) ?_ ?_
 rintro ⟨pz, G7⟩ w dD ⟨h, hs⟩
 refine ai (ag (ae (dz (vs := [(.bool (false)), (.int .i64 (0)), (.bool (false))]) h 7 rfl fP rfl rfl rfl) (ae (au (v := (.bool (pz))) rfl) (dA (vs := [(.bool (false)), (.int .i64 (0)), (.bool (false))]) h 7 [(.bool (false)), (.int .i64 (0)), (.bool (false))] rfl fP rfl rfl rfl rfl rfl (ax rfl (ax rfl (ax rfl bu))) fun w h => ae (aj (v := (.bool (pz))) rfl) (ah (aa (aI (aH (aC (jO (vs := [(.bool (false)), (.int .i64 (0)), (.bool (false))]) (v2 := (.bool (pz))) Tryz.results65 rfl rfl h 7 rfl fP rfl ?_))))))))))
 replace h := h.pair 1 2 (by decide)
 replace h := h.pair 1 3 (by decide)
 replace h := h.pair 1 4 (by decide)
 replace h := h.pair 1 5 (by decide)
 obtain rfl := Option.some.inj hs
 subst zy
 obtain ⟨o1, o2, o3⟩ := h.qp 1 (C := (.two (.two (.two (.two (.blk sb [eU, vs1, (.int .i64 (sx.status)), (.int .i64 (sx.aV))]) (.own aB.raw 49 eU (List.zip G7 fq))) (.bL (aR aL 51 hn fq (List.map aB.sub G7)))) (.own (aU Val).raw 47 vs1 (List.zip sx.cells eQ))) (.bL (aR aL 51 hn eQ (List.map (aU Val).sub sx.cells))) : Chunk)) rfl ⟨⟨⟨⟨trivial, trivial⟩, trivial⟩, trivial⟩, trivial⟩
 exact ⟨o2, eU, vs1, fq, eQ, rfl, o1, o3⟩
 refine lS (L := (ob u8)) mixed h fun w h => aZ 0 (aS.refl _ _) rfl ay (by kernel_rfl) (by kernel_rfl) (by kernel_rfl) (fun w hk => au (v := u8) rfl) (aZ 1 (aS.refl _ _) rfl ay (by kernel_rfl) (by kernel_rfl) (by kernel_rfl) (fun w hk => ak jV rfl) (aZ 2 (aS.refl _ _) rfl ay (by kernel_rfl) (by kernel_rfl) (by kernel_rfl) (fun w hk => have h := h.qB 8 rfl hk; aF h 177 rfl bz rfl rfl) (aZ 3 (aS.refl _ _) rfl ay (by kernel_rfl) (by kernel_rfl) (by kernel_rfl) (fun w hk => ak vD rfl) (aZ 4 (aS.refl _ _) rfl ay (by kernel_rfl) (by kernel_rfl) (by kernel_rfl) (fun w hk => have h := h.qB 8 rfl hk; aF h 177 rfl uo rfl rfl) ?_))))
 obtain ⟨C8, K7, hs⟩ := aP hs
 obtain ⟨Z7, Z8, X3, h, Sn, Sq⟩ := h.Dl 154 275 rfl dh rfl (aJ K7).1 (aJ K7).2
 obtain rfl := Sn
 refine aZ 5 (aS.refl _ _) rfl ay (by kernel_rfl) (by kernel_rfl) (by kernel_rfl) (fun w hk => Sq _ _ _ _ _ _ _ _ _ rfl rfl) (aZ 6 (aS.refl _ _) rfl ay (by kernel_rfl) (by kernel_rfl) (by kernel_rfl) (fun w hk => have h := h.qB 8 rfl hk; ek (k := 0) h 275 rfl bz rfl rfl) (aZ 7 (aS.refl _ _) rfl ay (by kernel_rfl) (by kernel_rfl) (by kernel_rfl) (fun w hk => au (v := u8) rfl) (aZ 8 (aS.refl _ _) rfl ay (by kernel_rfl) (by kernel_rfl) (by kernel_rfl) (fun w hk => ak iF rfl) (aZ 9 (aS.refl _ _) rfl ay (by kernel_rfl) (by kernel_rfl) (by kernel_rfl) (fun w hk => have h := h.qB 8 rfl hk; aF h 177 rfl bz rfl rfl) ?_))))
 obtain ⟨rz, Be, hs⟩ := aP hs
 obtain ⟨X4, IB, Pv⟩ := h.vN 8 rfl bR rfl (aJ Be).1 (aJ Be).2
 refine aZ 10 (aS.refl _ _) rfl ay (by kernel_rfl) (by kernel_rfl) (by kernel_rfl) (fun w hk => Pv _ _ _ _ _ _ _ _ _ rfl rfl) (aZ 12 (aS.refl _ _) rfl ay (by kernel_rfl) (by kernel_rfl) (by kernel_rfl) (fun w hk => au (v := u8) rfl) (aZ 13 (aS.refl _ _) rfl ay (by kernel_rfl) (by kernel_rfl) (by kernel_rfl) (fun w hk => ak qa rfl) (aZ 14 (aS.refl _ _) rfl ay (by kernel_rfl) (by kernel_rfl) (by kernel_rfl) (fun w hk => have h := h.qB 8 rfl hk; aF h 177 rfl bz rfl rfl) ?_)))
 obtain ⟨rA, Bf, hs⟩ := aP hs
 obtain ⟨X5, IC, Pw⟩ := h.vN 8 rfl bR rfl (aJ Bf).1 (aJ Bf).2
 refine aZ 15 (aS.refl _ _) rfl ay (by kernel_rfl) (by kernel_rfl) (by kernel_rfl) (fun w hk => Pw _ _ _ _ _ _ _ _ _ rfl rfl) ?_
 obtain ⟨fM, IE, hs⟩ := aP hs
 obtain ⟨Pk, vP, hs⟩ := aP hs
 obtain ⟨ws71, Vk⟩ : ∃ x, x = w := ⟨_, rfl⟩
 have uO : aS (ob u8) ws71 w := Vk ▸ aS.refl (ob u8) w
 refine rP Vk.symm (nY 11 16 (by kernel_rfl) rfl ay rfl ay ?_ ?_)
 obtain ⟨MZ, Ef, Eg⟩ := h.yx 8 rfl IB (aJ Be).2
 obtain rfl := Eg
 refine ae (ou (k := 0) (vs := [(.int .i64 (rz.kind)), (.int .i64 (rz.n))]) Ef bT rfl rfl rfl (Nat.le_of_ble_eq_true rfl)) (ah (aX uO (bP 16 (by kernel_rfl) rfl ay ?_)))
 obtain ⟨M0, Eh, Ei⟩ := h.yx 8 rfl IC (aJ Bf).2
 obtain rfl := Ei
 refine ae (ou (k := 0) (vs := [(.int .i64 (rA.kind)), (.int .i64 (rA.n))]) Eh bT rfl rfl rfl (Nat.le_of_ble_eq_true rfl)) (ah (aX uO (bP 17 (by kernel_rfl) rfl ay (bA QU rfl rfl (NQ _ _ h.lt C8 rz rA _ IE) ?_))))
 rintro _ w ⟨yo, rfl⟩
 refine ⟨_, rfl, ?_⟩
 replace h := h.grow yo
 replace uO := uO.grow yo
 refine ah (aX uO (aZ 18 uO rfl ay (by kernel_rfl) (by kernel_rfl) (by kernel_rfl) (fun w hk => au (v := (.tuple #[(.agg #[(.int .i64 (fM.1.kind)), (.int .i64 (fM.1.n))]), (.bool (fM.2))])) rfl) (aZ 19 uO rfl ay (by kernel_rfl) (by kernel_rfl) (by kernel_rfl) (fun w hk => bB rfl rfl) (aZ 20 uO rfl ay (by kernel_rfl) (by kernel_rfl) (by kernel_rfl) (fun w hk => bB rfl rfl) ?_))))
 obtain ⟨Px, Ej, El⟩ := h.vN 8 rfl bR rfl (aJ vP).1 (aJ vP).2
 refine aZ 21 uO rfl ay (by kernel_rfl) (by kernel_rfl) (by kernel_rfl) (fun w hk => El _ _ _ _ _ _ _ _ _ rfl rfl) (bP 22 (by kernel_rfl) rfl ay (w9 (a' := fM.1) (vs := [(.int .i64 (fM.1.kind)), (.int .i64 (fM.1.n))]) h 8 rfl Ej rfl (aJ vP).2 bT rfl rfl rfl rfl rfl fun w h Em => ?_))
 replace uO := uO.same Em
 refine ah (aX uO (aZ 23 uO rfl ay (by kernel_rfl) (by kernel_rfl) (by kernel_rfl) (fun w hk => aj (v := (.bool (fM.2))) rfl) (fZ (by kernel_rfl) ?_)))
 replace h := h.qJ 2 3 8 ({ x3 with at_ := (min (x3.at_ + 1) ((aW.code.length : Int) - 1)), regs := (x3.regs.set (aM.a).toNat fM.1) }) rfl rfl rfl (by decide) (by decide) (by decide) (jP (aJ e4).2) e9 rfl
 refine az ?_
 exact bS (fM.2, ((sx.frames.set (((sx.frames.length : Int) - 1)).toNat ({ x3 with at_ := (min (x3.at_ + 1) ((aW.code.length : Int) - 1)) })).set (((sx.frames.length : Int) - 1)).toNat ({ x3 with at_ := (min (x3.at_ + 1) ((aW.code.length : Int) - 1)), regs := (x3.regs.set (aM.a).toNat fM.1) }))) ⟨h.cn _, hs⟩
 obtain ⟨M0, Eh, Ei⟩ := h.yx 8 rfl IC (aJ Bf).2
 obtain rfl := Ei
 refine ae (ou (k := 0) (vs := [(.int .i64 (rA.kind)), (.int .i64 (rA.n))]) Eh bT rfl rfl rfl (Nat.le_of_ble_eq_true rfl)) (ah (aX uO (bP 11 (by kernel_rfl) rfl ay ?_)))
 obtain ⟨MZ, Ef, Eg⟩ := h.yx 8 rfl IB (aJ Be).2
 obtain rfl := Eg
 refine ae (ou (k := 0) (vs := [(.int .i64 (rz.kind)), (.int .i64 (rz.n))]) Ef bT rfl rfl rfl (Nat.le_of_ble_eq_true rfl)) (ah (aX uO (bP 17 (by kernel_rfl) rfl ay (bA QU rfl rfl (NQ _ _ h.lt C8 rz rA _ IE) ?_))))
 rintro _ w ⟨yo, rfl⟩
 refine ⟨_, rfl, ?_⟩
 replace h := h.grow yo
 replace uO := uO.grow yo
 refine ah (aX uO (aZ 18 uO rfl ay (by kernel_rfl) (by kernel_rfl) (by kernel_rfl) (fun w hk => au (v := (.tuple #[(.agg #[(.int .i64 (fM.1.kind)), (.int .i64 (fM.1.n))]), (.bool (fM.2))])) rfl) (aZ 19 uO rfl ay (by kernel_rfl) (by kernel_rfl) (by kernel_rfl) (fun w hk => bB rfl rfl) (aZ 20 uO rfl ay (by kernel_rfl) (by kernel_rfl) (by kernel_rfl) (fun w hk => bB rfl rfl) ?_))))
 obtain ⟨Px, Ej, El⟩ := h.vN 8 rfl bR rfl (aJ vP).1 (aJ vP).2
 refine aZ 21 uO rfl ay (by kernel_rfl) (by kernel_rfl) (by kernel_rfl) (fun w hk => El _ _ _ _ _ _ _ _ _ rfl rfl) (bP 22 (by kernel_rfl) rfl ay (w9 (a' := fM.1) (vs := [(.int .i64 (fM.1.kind)), (.int .i64 (fM.1.n))]) h 8 rfl Ej rfl (aJ vP).2 bT rfl rfl rfl rfl rfl fun w h Em => ?_))
 replace uO := uO.same Em
 refine ah (aX uO (aZ 23 uO rfl ay (by kernel_rfl) (by kernel_rfl) (by kernel_rfl) (fun w hk => aj (v := (.bool (fM.2))) rfl) (fZ (by kernel_rfl) ?_)))
 replace h := h.qJ 2 3 8 ({ x3 with at_ := (min (x3.at_ + 1) ((aW.code.length : Int) - 1)), regs := (x3.regs.set (aM.a).toNat fM.1) }) rfl rfl rfl (by decide) (by decide) (by decide) (jP (aJ e4).2) e9 rfl
 refine az ?_
 exact bS (fM.2, ((sx.frames.set (((sx.frames.length : Int) - 1)).toNat ({ x3 with at_ := (min (x3.at_ + 1) ((aW.code.length : Int) - 1)) })).set (((sx.frames.length : Int) - 1)).toNat ({ x3 with at_ := (min (x3.at_ + 1) ((aW.code.length : Int) - 1)), regs := (x3.regs.set (aM.a).toNat fM.1) }))) ⟨h.cn _, hs⟩
 refine bY (σ := Bool) (inl [108, 109, 110]) (fun XW => [(108, (.bool (XW)))]) (fun XW w => SH w0 M K0 w (hset [(1, .blk sb [eU, vs1, (.int .i64 (sx.status)), (.int .i64 (sx.aV))]), (2, .own aB.raw 49 eU (List.zip (sx.frames.set (((sx.frames.length : Int) - 1)).toNat ({ x3 with at_ := (min (x3.at_ + 1) ((aW.code.length : Int) - 1)) })) fq)), (3, .bL (aR aL 51 (hat (((sx.frames.length : Int) - 1)).toNat) fq (List.map aB.sub (sx.frames.set (((sx.frames.length : Int) - 1)).toNat ({ x3 with at_ := (min (x3.at_ + 1) ((aW.code.length : Int) - 1)) }))))), (4, .own (aU Val).raw 47 vs1 (List.zip sx.cells eQ)), (5, .bL (aR aL 51 hn eQ (List.map (aU Val).sub sx.cells))), (6, .rd j4 va a), (7, .blk b1 [(.bool (false)), (.int .i64 (0)), (.bool (false))]), (8, .own aL 51 u8 x3.regs), (154, .rd fH jK aM.args), (177, .blk IA [(.int .i64 (aM.op)), (.int .i64 (aM.a)), (.int .i64 (aM.b)), (.int .i64 (aM.c)), jK])]) ∧ iI N sx x3 aW aM a XW = some r) ?_ ?_
 rintro XW w dD ⟨h, hs⟩
 refine aK hs rfl (fun YU hs => ?_) (fun YU hs => ?_)
 refine ai ?_
 replace h := h.iL 3 8 rfl rfl (by decide) (jP (aJ e4).2) e9 rfl
 refine lS (L := (fun b => Chunk.own' (.two (.two (.two (.two (.blk sb [eU, vs1, (.int .i64 (sx.status)), (.int .i64 (sx.aV))]) (.own aB.raw 49 eU (List.zip (sx.frames.set (((sx.frames.length : Int) - 1)).toNat ({ x3 with at_ := (min (x3.at_ + 1) ((aW.code.length : Int) - 1)) })) fq))) (.bL (aR aL 51 hn fq (List.map aB.sub (sx.frames.set (((sx.frames.length : Int) - 1)).toNat ({ x3 with at_ := (min (x3.at_ + 1) ((aW.code.length : Int) - 1)) })))))) (.own (aU Val).raw 47 vs1 (List.zip sx.cells eQ))) (.bL (aR aL 51 hn eQ (List.map (aU Val).sub sx.cells))) : Chunk) b ∨ b = b1)) mixed h fun w h => aZ 1 (aS.refl _ _) rfl ay (by kernel_rfl) (by kernel_rfl) (by kernel_rfl) (fun w hk => au (v := (.pointer (some ⟨sb, 0, none⟩))) rfl) (aZ 2 (aS.refl _ _) rfl ay (by kernel_rfl) (by kernel_rfl) (by kernel_rfl) (fun w hk => have h := ((((h.pair 1 2 (by decide)).pair 1 3 (by decide)).pair 1 4 (by decide)).pair 1 5 (by decide)).Dr 1 7 (by decide) rfl rfl hk; dz (vs := [(.int .i64 (aM.op)), (.int .i64 (aM.a)), (.int .i64 (aM.b)), (.int .i64 (aM.c)), jK]) h 177 rfl oW rfl rfl rfl) (aZ 3 (aS.refl _ _) rfl ay (by kernel_rfl) (by kernel_rfl) (by kernel_rfl) (fun w hk => au (v := u8) rfl) ?_))
 obtain ⟨eD, K8, hs⟩ := aP hs
 obtain ⟨ws86, Vl⟩ : ∃ x, x = w := ⟨_, rfl⟩
 have Bl : aS (fun b => Chunk.own' (.two (.two (.two (.two (.blk sb [eU, vs1, (.int .i64 (sx.status)), (.int .i64 (sx.aV))]) (.own aB.raw 49 eU (List.zip (sx.frames.set (((sx.frames.length : Int) - 1)).toNat ({ x3 with at_ := (min (x3.at_ + 1) ((aW.code.length : Int) - 1)) })) fq))) (.bL (aR aL 51 hn fq (List.map aB.sub (sx.frames.set (((sx.frames.length : Int) - 1)).toNat ({ x3 with at_ := (min (x3.at_ + 1) ((aW.code.length : Int) - 1)) })))))) (.own (aU Val).raw 47 vs1 (List.zip sx.cells eQ))) (.bL (aR aL 51 hn eQ (List.map (aU Val).sub sx.cells))) : Chunk) b ∨ b = b1) ws86 w := Vl ▸ aS.refl (fun b => Chunk.own' (.two (.two (.two (.two (.blk sb [eU, vs1, (.int .i64 (sx.status)), (.int .i64 (sx.aV))]) (.own aB.raw 49 eU (List.zip (sx.frames.set (((sx.frames.length : Int) - 1)).toNat ({ x3 with at_ := (min (x3.at_ + 1) ((aW.code.length : Int) - 1)) })) fq))) (.bL (aR aL 51 hn fq (List.map aB.sub (sx.frames.set (((sx.frames.length : Int) - 1)).toNat ({ x3 with at_ := (min (x3.at_ + 1) ((aW.code.length : Int) - 1)) })))))) (.own (aU Val).raw 47 vs1 (List.zip sx.cells eQ))) (.bL (aR aL 51 hn eQ (List.map (aU Val).sub sx.cells))) : Chunk) b ∨ b = b1) w
 refine rP Vl.symm (nY 0 4 (by kernel_rfl) rfl ay rfl ay ?_ ?_)
 refine ae (dz (vs := [(.bool (false)), (.int .i64 (0)), (.bool (false))]) h 7 rfl fP rfl rfl rfl) (ah (aX Bl (bP 4 (by kernel_rfl) rfl ay ?_)))
 replace h := h.pair 1 2 (by decide)
 replace h := h.pair 1 3 (by decide)
 replace h := h.pair 1 4 (by decide)
 replace h := h.pair 1 5 (by decide)
 obtain ⟨En, Eo, Ep⟩ := h.vT 1 (C := (.two (.two (.two (.two (.blk sb [eU, vs1, (.int .i64 (sx.status)), (.int .i64 (sx.aV))]) (.own aB.raw 49 eU (List.zip (sx.frames.set (((sx.frames.length : Int) - 1)).toNat ({ x3 with at_ := (min (x3.at_ + 1) ((aW.code.length : Int) - 1)) })) fq))) (.bL (aR aL 51 hn fq (List.map aB.sub (sx.frames.set (((sx.frames.length : Int) - 1)).toNat ({ x3 with at_ := (min (x3.at_ + 1) ((aW.code.length : Int) - 1)) })))))) (.own (aU Val).raw 47 vs1 (List.zip sx.cells eQ))) (.bL (aR aL 51 hn eQ (List.map (aU Val).sub sx.cells))) : Chunk)) rfl ⟨⟨⟨⟨trivial, trivial⟩, trivial⟩, trivial⟩, trivial⟩
 refine bA QV rfl rfl (Gd _ _ Ep sb (⟨(sx.frames.set (((sx.frames.length : Int) - 1)).toNat ({ x3 with at_ := (min (x3.at_ + 1) ((aW.code.length : Int) - 1)) })), sx.cells, sx.status, sx.aV⟩ : LX.State) eU vs1 fq eQ En Eo aM jK (h.Ny 1 154 rfl rfl) ((sx.frames.length : Int) - 1) ({ x3 with at_ := (min (x3.at_ + 1) ((aW.code.length : Int) - 1)) }) (aJ e4).1 (jP (aJ e4).2) u8 e9 _ K8) ?_
 rintro _ w ⟨Ah, pR, pU, mQ, mR, rfl, Gs, Er⟩
 refine ⟨_, rfl, ?_⟩
 replace h := h.back 1 (C := (.two (.two (.two (.two (.blk sb [eU, vs1, (.int .i64 (sx.status)), (.int .i64 (sx.aV))]) (.own aB.raw 49 eU (List.zip (sx.frames.set (((sx.frames.length : Int) - 1)).toNat ({ x3 with at_ := (min (x3.at_ + 1) ((aW.code.length : Int) - 1)) })) fq))) (.bL (aR aL 51 hn fq (List.map aB.sub (sx.frames.set (((sx.frames.length : Int) - 1)).toNat ({ x3 with at_ := (min (x3.at_ + 1) ((aW.code.length : Int) - 1)) })))))) (.own (aU Val).raw 47 vs1 (List.zip sx.cells eQ))) (.bL (aR aL 51 hn eQ (List.map (aU Val).sub sx.cells))) : Chunk)) (C' := (.two (.two (.two (.two (.blk sb [pR, pU, (.int .i64 (eD.2.status)), (.int .i64 (eD.2.aV))]) (.own aB.raw 49 pR (List.zip eD.2.frames mQ))) (.bL (aR aL 51 hn mQ (List.map aB.sub eD.2.frames)))) (.own (aU Val).raw 47 pU (List.zip eD.2.cells mR))) (.bL (aR aL 51 hn mR (List.map (aU Val).sub eD.2.cells))) : Chunk)) rfl ⟨⟨⟨⟨trivial, trivial⟩, trivial⟩, trivial⟩, trivial⟩ Gs Ah Er
 replace h := h.bX 1 5 (by decide) rfl rfl
 replace h := h.bX 1 4 (by decide) rfl rfl
 replace h := h.bX 1 3 (by decide) rfl rfl
 replace h := h.bX 1 2 (by decide) rfl rfl
 replace Bl := aS.step Bl Ah (fun _ hx _ => .inl (hx))
 refine ah (aX Bl (bP 5 (by kernel_rfl) rfl ay (wZ (vs := [(.bool (false)), (.int .i64 (0)), (.bool (false))]) h 7 [(.bool (false)), (.int .i64 (0)), (.bool (false))] rfl fP rfl rfl rfl rfl rfl (ax rfl (ax rfl (ax rfl bu))) fun w h Gt => ?_)))
 replace Bl := aS.step Bl Gt (fun _ hx _ => .inr (hx))
 refine ah (aX Bl (aZ 6 Bl rfl ay (by kernel_rfl) (by kernel_rfl) (by kernel_rfl) (fun w hk => aj (v := (.bool (eD.1))) rfl) (fZ (by kernel_rfl) (aa (aI (aH (aC (jO (vs := [(.bool (false)), (.int .i64 (0)), (.bool (false))]) (v2 := (.bool (eD.1))) Tryz.results65 rfl rfl h 7 rfl fP rfl ?_))))))))
 replace h := h.pair 1 2 (by decide)
 replace h := h.pair 1 3 (by decide)
 replace h := h.pair 1 4 (by decide)
 replace h := h.pair 1 5 (by decide)
 obtain rfl := Option.some.inj hs
 subst zy
 obtain ⟨o1, o2, o3⟩ := h.qp 1 (C := (.two (.two (.two (.two (.blk sb [pR, pU, (.int .i64 (eD.2.status)), (.int .i64 (eD.2.aV))]) (.own aB.raw 49 pR (List.zip eD.2.frames mQ))) (.bL (aR aL 51 hn mQ (List.map aB.sub eD.2.frames)))) (.own (aU Val).raw 47 pU (List.zip eD.2.cells mR))) (.bL (aR aL 51 hn mR (List.map (aU Val).sub eD.2.cells))) : Chunk)) rfl ⟨⟨⟨⟨trivial, trivial⟩, trivial⟩, trivial⟩, trivial⟩
 exact ⟨o2, pR, pU, mQ, mR, rfl, o1, o3⟩
 replace h := h.pair 1 2 (by decide)
 replace h := h.pair 1 3 (by decide)
 replace h := h.pair 1 4 (by decide)
 replace h := h.pair 1 5 (by decide)
 obtain ⟨En, Eo, Ep⟩ := h.vT 1 (C := (.two (.two (.two (.two (.blk sb [eU, vs1, (.int .i64 (sx.status)), (.int .i64 (sx.aV))]) (.own aB.raw 49 eU (List.zip (sx.frames.set (((sx.frames.length : Int) - 1)).toNat ({ x3 with at_ := (min (x3.at_ + 1) ((aW.code.length : Int) - 1)) })) fq))) (.bL (aR aL 51 hn fq (List.map aB.sub (sx.frames.set (((sx.frames.length : Int) - 1)).toNat ({ x3 with at_ := (min (x3.at_ + 1) ((aW.code.length : Int) - 1)) })))))) (.own (aU Val).raw 47 vs1 (List.zip sx.cells eQ))) (.bL (aR aL 51 hn eQ (List.map (aU Val).sub sx.cells))) : Chunk)) rfl ⟨⟨⟨⟨trivial, trivial⟩, trivial⟩, trivial⟩, trivial⟩
 refine bA QV rfl rfl (Gd _ _ Ep sb (⟨(sx.frames.set (((sx.frames.length : Int) - 1)).toNat ({ x3 with at_ := (min (x3.at_ + 1) ((aW.code.length : Int) - 1)) })), sx.cells, sx.status, sx.aV⟩ : LX.State) eU vs1 fq eQ En Eo aM jK (h.Ny 1 154 rfl rfl) ((sx.frames.length : Int) - 1) ({ x3 with at_ := (min (x3.at_ + 1) ((aW.code.length : Int) - 1)) }) (aJ e4).1 (jP (aJ e4).2) u8 e9 _ K8) ?_
 rintro _ w ⟨Ah, pR, pU, mQ, mR, rfl, Gs, Er⟩
 refine ⟨_, rfl, ?_⟩
 replace h := h.back 1 (C := (.two (.two (.two (.two (.blk sb [eU, vs1, (.int .i64 (sx.status)), (.int .i64 (sx.aV))]) (.own aB.raw 49 eU (List.zip (sx.frames.set (((sx.frames.length : Int) - 1)).toNat ({ x3 with at_ := (min (x3.at_ + 1) ((aW.code.length : Int) - 1)) })) fq))) (.bL (aR aL 51 hn fq (List.map aB.sub (sx.frames.set (((sx.frames.length : Int) - 1)).toNat ({ x3 with at_ := (min (x3.at_ + 1) ((aW.code.length : Int) - 1)) })))))) (.own (aU Val).raw 47 vs1 (List.zip sx.cells eQ))) (.bL (aR aL 51 hn eQ (List.map (aU Val).sub sx.cells))) : Chunk)) (C' := (.two (.two (.two (.two (.blk sb [pR, pU, (.int .i64 (eD.2.status)), (.int .i64 (eD.2.aV))]) (.own aB.raw 49 pR (List.zip eD.2.frames mQ))) (.bL (aR aL 51 hn mQ (List.map aB.sub eD.2.frames)))) (.own (aU Val).raw 47 pU (List.zip eD.2.cells mR))) (.bL (aR aL 51 hn mR (List.map (aU Val).sub eD.2.cells))) : Chunk)) rfl ⟨⟨⟨⟨trivial, trivial⟩, trivial⟩, trivial⟩, trivial⟩ Gs Ah Er
 replace h := h.bX 1 5 (by decide) rfl rfl
 replace h := h.bX 1 4 (by decide) rfl rfl
 replace h := h.bX 1 3 (by decide) rfl rfl
 replace h := h.bX 1 2 (by decide) rfl rfl
 replace Bl := aS.step Bl Ah (fun _ hx _ => .inl (hx))
 refine ah (aX Bl (bP 0 (by kernel_rfl) rfl ay (ae (dz (vs := [(.bool (false)), (.int .i64 (0)), (.bool (false))]) h 7 rfl fP rfl rfl rfl) (ah (aX Bl (bP 5 (by kernel_rfl) rfl ay (wZ (vs := [(.bool (false)), (.int .i64 (0)), (.bool (false))]) h 7 [(.bool (false)), (.int .i64 (0)), (.bool (false))] rfl fP rfl rfl rfl rfl rfl (ax rfl (ax rfl (ax rfl bu))) fun w h Gt => ?_)))))))
 replace Bl := aS.step Bl Gt (fun _ hx _ => .inr (hx))
 refine ah (aX Bl (aZ 6 Bl rfl ay (by kernel_rfl) (by kernel_rfl) (by kernel_rfl) (fun w hk => aj (v := (.bool (eD.1))) rfl) (fZ (by kernel_rfl) (aa (aI (aH (aC (jO (vs := [(.bool (false)), (.int .i64 (0)), (.bool (false))]) (v2 := (.bool (eD.1))) Tryz.results65 rfl rfl h 7 rfl fP rfl ?_))))))))
 replace h := h.pair 1 2 (by decide)
 replace h := h.pair 1 3 (by decide)
 replace h := h.pair 1 4 (by decide)
 replace h := h.pair 1 5 (by decide)
 obtain rfl := Option.some.inj hs
 subst zy
 obtain ⟨o1, o2, o3⟩ := h.qp 1 (C := (.two (.two (.two (.two (.blk sb [pR, pU, (.int .i64 (eD.2.status)), (.int .i64 (eD.2.aV))]) (.own aB.raw 49 pR (List.zip eD.2.frames mQ))) (.bL (aR aL 51 hn mQ (List.map aB.sub eD.2.frames)))) (.own (aU Val).raw 47 pU (List.zip eD.2.cells mR))) (.bL (aR aL 51 hn mR (List.map (aU Val).sub eD.2.cells))) : Chunk)) rfl ⟨⟨⟨⟨trivial, trivial⟩, trivial⟩, trivial⟩, trivial⟩
 exact ⟨o2, pR, pU, mQ, mR, rfl, o1, o3⟩
 refine ai (ag (ae (bH rfl rfl) (ae (aj (v := (.bool (decide ((aM.op : Int) = 5)))) rfl) (ah (aa (aK hs rfl (fun c88 hs => ?_) (fun c88 hs => ?_)))))))
 refine ai ?_
 replace h := h.iL 3 8 rfl rfl (by decide) (jP (aJ e4).2) e9 rfl
 refine lS (L := (fun b => Chunk.own' (.two (.two (.two (.two (.blk sb [eU, vs1, (.int .i64 (sx.status)), (.int .i64 (sx.aV))]) (.own aB.raw 49 eU (List.zip (sx.frames.set (((sx.frames.length : Int) - 1)).toNat ({ x3 with at_ := (min (x3.at_ + 1) ((aW.code.length : Int) - 1)) })) fq))) (.bL (aR aL 51 hn fq (List.map aB.sub (sx.frames.set (((sx.frames.length : Int) - 1)).toNat ({ x3 with at_ := (min (x3.at_ + 1) ((aW.code.length : Int) - 1)) })))))) (.own (aU Val).raw 47 vs1 (List.zip sx.cells eQ))) (.bL (aR aL 51 hn eQ (List.map (aU Val).sub sx.cells))) : Chunk) b ∨ b = b1)) mixed h fun w h => aZ 1 (aS.refl _ _) rfl ay (by kernel_rfl) (by kernel_rfl) (by kernel_rfl) (fun w hk => au (v := (.pointer (some ⟨sb, 0, none⟩))) rfl) (aZ 2 (aS.refl _ _) rfl ay (by kernel_rfl) (by kernel_rfl) (by kernel_rfl) (fun w hk => have h := ((((h.pair 1 2 (by decide)).pair 1 3 (by decide)).pair 1 4 (by decide)).pair 1 5 (by decide)).Dr 1 7 (by decide) rfl rfl hk; dz (vs := [(.int .i64 (aM.op)), (.int .i64 (aM.a)), (.int .i64 (aM.b)), (.int .i64 (aM.c)), jK]) h 177 rfl oW rfl rfl rfl) ?_)
 obtain ⟨eF, K9, hs⟩ := aP hs
 obtain ⟨Z9, Sr⟩ : ∃ x, x = w := ⟨_, rfl⟩
 have vw : aS (fun b => Chunk.own' (.two (.two (.two (.two (.blk sb [eU, vs1, (.int .i64 (sx.status)), (.int .i64 (sx.aV))]) (.own aB.raw 49 eU (List.zip (sx.frames.set (((sx.frames.length : Int) - 1)).toNat ({ x3 with at_ := (min (x3.at_ + 1) ((aW.code.length : Int) - 1)) })) fq))) (.bL (aR aL 51 hn fq (List.map aB.sub (sx.frames.set (((sx.frames.length : Int) - 1)).toNat ({ x3 with at_ := (min (x3.at_ + 1) ((aW.code.length : Int) - 1)) })))))) (.own (aU Val).raw 47 vs1 (List.zip sx.cells eQ))) (.bL (aR aL 51 hn eQ (List.map (aU Val).sub sx.cells))) : Chunk) b ∨ b = b1) Z9 w := Sr ▸ aS.refl (fun b => Chunk.own' (.two (.two (.two (.two (.blk sb [eU, vs1, (.int .i64 (sx.status)), (.int .i64 (sx.aV))]) (.own aB.raw 49 eU (List.zip (sx.frames.set (((sx.frames.length : Int) - 1)).toNat ({ x3 with at_ := (min (x3.at_ + 1) ((aW.code.length : Int) - 1)) })) fq))) (.bL (aR aL 51 hn fq (List.map aB.sub (sx.frames.set (((sx.frames.length : Int) - 1)).toNat ({ x3 with at_ := (min (x3.at_ + 1) ((aW.code.length : Int) - 1)) })))))) (.own (aU Val).raw 47 vs1 (List.zip sx.cells eQ))) (.bL (aR aL 51 hn eQ (List.map (aU Val).sub sx.cells))) : Chunk) b ∨ b = b1) w
 refine rP Sr.symm (nY 0 3 (by kernel_rfl) rfl ay rfl ay ?_ ?_)
 refine ae (dz (vs := [(.bool (false)), (.int .i64 (0)), (.bool (false))]) h 7 rfl fP rfl rfl rfl) (ah (aX vw (bP 3 (by kernel_rfl) rfl ay ?_)))
 replace h := h.pair 1 2 (by decide)
 replace h := h.pair 1 3 (by decide)
 replace h := h.pair 1 4 (by decide)
 replace h := h.pair 1 5 (by decide)
 obtain ⟨Et, Eu, Ev⟩ := h.vT 1 (C := (.two (.two (.two (.two (.blk sb [eU, vs1, (.int .i64 (sx.status)), (.int .i64 (sx.aV))]) (.own aB.raw 49 eU (List.zip (sx.frames.set (((sx.frames.length : Int) - 1)).toNat ({ x3 with at_ := (min (x3.at_ + 1) ((aW.code.length : Int) - 1)) })) fq))) (.bL (aR aL 51 hn fq (List.map aB.sub (sx.frames.set (((sx.frames.length : Int) - 1)).toNat ({ x3 with at_ := (min (x3.at_ + 1) ((aW.code.length : Int) - 1)) })))))) (.own (aU Val).raw 47 vs1 (List.zip sx.cells eQ))) (.bL (aR aL 51 hn eQ (List.map (aU Val).sub sx.cells))) : Chunk)) rfl ⟨⟨⟨⟨trivial, trivial⟩, trivial⟩, trivial⟩, trivial⟩
 refine bA QW rfl rfl (Gj N _ _ Ev sb (⟨(sx.frames.set (((sx.frames.length : Int) - 1)).toNat ({ x3 with at_ := (min (x3.at_ + 1) ((aW.code.length : Int) - 1)) })), sx.cells, sx.status, sx.aV⟩ : LX.State) eU vs1 fq eQ Et Eu aM jK (h.Ny 1 154 rfl rfl) _ K9) ?_
 rintro _ w ⟨Ai, pV, pW, mU, mV, rfl, Gu, Ew⟩
 refine ⟨_, rfl, ?_⟩
 replace h := h.back 1 (C := (.two (.two (.two (.two (.blk sb [eU, vs1, (.int .i64 (sx.status)), (.int .i64 (sx.aV))]) (.own aB.raw 49 eU (List.zip (sx.frames.set (((sx.frames.length : Int) - 1)).toNat ({ x3 with at_ := (min (x3.at_ + 1) ((aW.code.length : Int) - 1)) })) fq))) (.bL (aR aL 51 hn fq (List.map aB.sub (sx.frames.set (((sx.frames.length : Int) - 1)).toNat ({ x3 with at_ := (min (x3.at_ + 1) ((aW.code.length : Int) - 1)) })))))) (.own (aU Val).raw 47 vs1 (List.zip sx.cells eQ))) (.bL (aR aL 51 hn eQ (List.map (aU Val).sub sx.cells))) : Chunk)) (C' := (.two (.two (.two (.two (.blk sb [pV, pW, (.int .i64 (eF.2.status)), (.int .i64 (eF.2.aV))]) (.own aB.raw 49 pV (List.zip eF.2.frames mU))) (.bL (aR aL 51 hn mU (List.map aB.sub eF.2.frames)))) (.own (aU Val).raw 47 pW (List.zip eF.2.cells mV))) (.bL (aR aL 51 hn mV (List.map (aU Val).sub eF.2.cells))) : Chunk)) rfl ⟨⟨⟨⟨trivial, trivial⟩, trivial⟩, trivial⟩, trivial⟩ Gu Ai Ew
 replace h := h.bX 1 5 (by decide) rfl rfl
 replace h := h.bX 1 4 (by decide) rfl rfl
 replace h := h.bX 1 3 (by decide) rfl rfl
 replace h := h.bX 1 2 (by decide) rfl rfl
 replace vw := aS.step vw Ai (fun _ hx _ => .inl (hx))
 refine ah (aX vw (bP 4 (by kernel_rfl) rfl ay (wZ (vs := [(.bool (false)), (.int .i64 (0)), (.bool (false))]) h 7 [(.bool (false)), (.int .i64 (0)), (.bool (false))] rfl fP rfl rfl rfl rfl rfl (ax rfl (ax rfl (ax rfl bu))) fun w h Gv => ?_)))
 replace vw := aS.step vw Gv (fun _ hx _ => .inr (hx))
 refine ah (aX vw (aZ 5 vw rfl ay (by kernel_rfl) (by kernel_rfl) (by kernel_rfl) (fun w hk => aj (v := (.bool (eF.1))) rfl) (fZ (by kernel_rfl) (aa (aI (aH (aC (jO (vs := [(.bool (false)), (.int .i64 (0)), (.bool (false))]) (v2 := (.bool (eF.1))) Tryz.results65 rfl rfl h 7 rfl fP rfl ?_))))))))
 replace h := h.pair 1 2 (by decide)
 replace h := h.pair 1 3 (by decide)
 replace h := h.pair 1 4 (by decide)
 replace h := h.pair 1 5 (by decide)
 obtain rfl := Option.some.inj hs
 subst zy
 obtain ⟨o1, o2, o3⟩ := h.qp 1 (C := (.two (.two (.two (.two (.blk sb [pV, pW, (.int .i64 (eF.2.status)), (.int .i64 (eF.2.aV))]) (.own aB.raw 49 pV (List.zip eF.2.frames mU))) (.bL (aR aL 51 hn mU (List.map aB.sub eF.2.frames)))) (.own (aU Val).raw 47 pW (List.zip eF.2.cells mV))) (.bL (aR aL 51 hn mV (List.map (aU Val).sub eF.2.cells))) : Chunk)) rfl ⟨⟨⟨⟨trivial, trivial⟩, trivial⟩, trivial⟩, trivial⟩
 exact ⟨o2, pV, pW, mU, mV, rfl, o1, o3⟩
 replace h := h.pair 1 2 (by decide)
 replace h := h.pair 1 3 (by decide)
 replace h := h.pair 1 4 (by decide)
 replace h := h.pair 1 5 (by decide)
 obtain ⟨Et, Eu, Ev⟩ := h.vT 1 (C := (.two (.two (.two (.two (.blk sb [eU, vs1, (.int .i64 (sx.status)), (.int .i64 (sx.aV))]) (.own aB.raw 49 eU (List.zip (sx.frames.set (((sx.frames.length : Int) - 1)).toNat ({ x3 with at_ := (min (x3.at_ + 1) ((aW.code.length : Int) - 1)) })) fq))) (.bL (aR aL 51 hn fq (List.map aB.sub (sx.frames.set (((sx.frames.length : Int) - 1)).toNat ({ x3 with at_ := (min (x3.at_ + 1) ((aW.code.length : Int) - 1)) })))))) (.own (aU Val).raw 47 vs1 (List.zip sx.cells eQ))) (.bL (aR aL 51 hn eQ (List.map (aU Val).sub sx.cells))) : Chunk)) rfl ⟨⟨⟨⟨trivial, trivial⟩, trivial⟩, trivial⟩, trivial⟩
 refine bA QW rfl rfl (Gj N _ _ Ev sb (⟨(sx.frames.set (((sx.frames.length : Int) - 1)).toNat ({ x3 with at_ := (min (x3.at_ + 1) ((aW.code.length : Int) - 1)) })), sx.cells, sx.status, sx.aV⟩ : LX.State) eU vs1 fq eQ Et Eu aM jK (h.Ny 1 154 rfl rfl) _ K9) ?_
 rintro _ w ⟨Ai, pV, pW, mU, mV, rfl, Gu, Ew⟩
 refine ⟨_, rfl, ?_⟩
 replace h := h.back 1 (C := (.two (.two (.two (.two (.blk sb [eU, vs1, (.int .i64 (sx.status)), (.int .i64 (sx.aV))]) (.own aB.raw 49 eU (List.zip (sx.frames.set (((sx.frames.length : Int) - 1)).toNat ({ x3 with at_ := (min (x3.at_ + 1) ((aW.code.length : Int) - 1)) })) fq))) (.bL (aR aL 51 hn fq (List.map aB.sub (sx.frames.set (((sx.frames.length : Int) - 1)).toNat ({ x3 with at_ := (min (x3.at_ + 1) ((aW.code.length : Int) - 1)) })))))) (.own (aU Val).raw 47 vs1 (List.zip sx.cells eQ))) (.bL (aR aL 51 hn eQ (List.map (aU Val).sub sx.cells))) : Chunk)) (C' := (.two (.two (.two (.two (.blk sb [pV, pW, (.int .i64 (eF.2.status)), (.int .i64 (eF.2.aV))]) (.own aB.raw 49 pV (List.zip eF.2.frames mU))) (.bL (aR aL 51 hn mU (List.map aB.sub eF.2.frames)))) (.own (aU Val).raw 47 pW (List.zip eF.2.cells mV))) (.bL (aR aL 51 hn mV (List.map (aU Val).sub eF.2.cells))) : Chunk)) rfl ⟨⟨⟨⟨trivial, trivial⟩, trivial⟩, trivial⟩, trivial⟩ Gu Ai Ew
 replace h := h.bX 1 5 (by decide) rfl rfl
 replace h := h.bX 1 4 (by decide) rfl rfl
 replace h := h.bX 1 3 (by decide) rfl rfl
 replace h := h.bX 1 2 (by decide) rfl rfl
 replace vw := aS.step vw Ai (fun _ hx _ => .inl (hx))
 refine ah (aX vw (bP 0 (by kernel_rfl) rfl ay (ae (dz (vs := [(.bool (false)), (.int .i64 (0)), (.bool (false))]) h 7 rfl fP rfl rfl rfl) (ah (aX vw (bP 4 (by kernel_rfl) rfl ay (wZ (vs := [(.bool (false)), (.int .i64 (0)), (.bool (false))]) h 7 [(.bool (false)), (.int .i64 (0)), (.bool (false))] rfl fP rfl rfl rfl rfl rfl (ax rfl (ax rfl (ax rfl bu))) fun w h Gv => ?_)))))))
 replace vw := aS.step vw Gv (fun _ hx _ => .inr (hx))
 refine ah (aX vw (aZ 5 vw rfl ay (by kernel_rfl) (by kernel_rfl) (by kernel_rfl) (fun w hk => aj (v := (.bool (eF.1))) rfl) (fZ (by kernel_rfl) (aa (aI (aH (aC (jO (vs := [(.bool (false)), (.int .i64 (0)), (.bool (false))]) (v2 := (.bool (eF.1))) Tryz.results65 rfl rfl h 7 rfl fP rfl ?_))))))))
 replace h := h.pair 1 2 (by decide)
 replace h := h.pair 1 3 (by decide)
 replace h := h.pair 1 4 (by decide)
 replace h := h.pair 1 5 (by decide)
 obtain rfl := Option.some.inj hs
 subst zy
 obtain ⟨o1, o2, o3⟩ := h.qp 1 (C := (.two (.two (.two (.two (.blk sb [pV, pW, (.int .i64 (eF.2.status)), (.int .i64 (eF.2.aV))]) (.own aB.raw 49 pV (List.zip eF.2.frames mU))) (.bL (aR aL 51 hn mU (List.map aB.sub eF.2.frames)))) (.own (aU Val).raw 47 pW (List.zip eF.2.cells mV))) (.bL (aR aL 51 hn mV (List.map (aU Val).sub eF.2.cells))) : Chunk)) rfl ⟨⟨⟨⟨trivial, trivial⟩, trivial⟩, trivial⟩, trivial⟩
 exact ⟨o2, pV, pW, mU, mV, rfl, o1, o3⟩
 refine ai (ag (ae (bH rfl rfl) (ae (aj (v := (.bool (decide ((aM.op : Int) = 7)))) rfl) (ah (aa (aK hs rfl (fun Rx hs => ?_) (fun Rx hs => ?_)))))))
 refine ai ?_
 replace h := h.iL 3 8 rfl rfl (by decide) (jP (aJ e4).2) e9 rfl
 refine lS (L := (fun b => Chunk.own' (.two (.two (.two (.two (.blk sb [eU, vs1, (.int .i64 (sx.status)), (.int .i64 (sx.aV))]) (.own aB.raw 49 eU (List.zip (sx.frames.set (((sx.frames.length : Int) - 1)).toNat ({ x3 with at_ := (min (x3.at_ + 1) ((aW.code.length : Int) - 1)) })) fq))) (.bL (aR aL 51 hn fq (List.map aB.sub (sx.frames.set (((sx.frames.length : Int) - 1)).toNat ({ x3 with at_ := (min (x3.at_ + 1) ((aW.code.length : Int) - 1)) })))))) (.own (aU Val).raw 47 vs1 (List.zip sx.cells eQ))) (.bL (aR aL 51 hn eQ (List.map (aU Val).sub sx.cells))) : Chunk) b ∨ b = b1)) mixed h fun w h => aZ 1 (aS.refl _ _) rfl ay (by kernel_rfl) (by kernel_rfl) (by kernel_rfl) (fun w hk => au (v := va) rfl) (aZ 2 (aS.refl _ _) rfl ay (by kernel_rfl) (by kernel_rfl) (by kernel_rfl) (fun w hk => au (v := (.pointer (some ⟨sb, 0, none⟩))) rfl) (aZ 3 (aS.refl _ _) rfl ay (by kernel_rfl) (by kernel_rfl) (by kernel_rfl) (fun w hk => have h := ((((h.pair 1 2 (by decide)).pair 1 3 (by decide)).pair 1 4 (by decide)).pair 1 5 (by decide)).Dr 1 7 (by decide) rfl rfl hk; dz (vs := [(.int .i64 (aM.op)), (.int .i64 (aM.a)), (.int .i64 (aM.b)), (.int .i64 (aM.c)), jK]) h 177 rfl oW rfl rfl rfl) ?_))
 obtain ⟨dK, IG, hs⟩ := aP hs
 obtain ⟨aaa, Su⟩ : ∃ x, x = w := ⟨_, rfl⟩
 have vz : aS (fun b => Chunk.own' (.two (.two (.two (.two (.blk sb [eU, vs1, (.int .i64 (sx.status)), (.int .i64 (sx.aV))]) (.own aB.raw 49 eU (List.zip (sx.frames.set (((sx.frames.length : Int) - 1)).toNat ({ x3 with at_ := (min (x3.at_ + 1) ((aW.code.length : Int) - 1)) })) fq))) (.bL (aR aL 51 hn fq (List.map aB.sub (sx.frames.set (((sx.frames.length : Int) - 1)).toNat ({ x3 with at_ := (min (x3.at_ + 1) ((aW.code.length : Int) - 1)) })))))) (.own (aU Val).raw 47 vs1 (List.zip sx.cells eQ))) (.bL (aR aL 51 hn eQ (List.map (aU Val).sub sx.cells))) : Chunk) b ∨ b = b1) aaa w := Su ▸ aS.refl (fun b => Chunk.own' (.two (.two (.two (.two (.blk sb [eU, vs1, (.int .i64 (sx.status)), (.int .i64 (sx.aV))]) (.own aB.raw 49 eU (List.zip (sx.frames.set (((sx.frames.length : Int) - 1)).toNat ({ x3 with at_ := (min (x3.at_ + 1) ((aW.code.length : Int) - 1)) })) fq))) (.bL (aR aL 51 hn fq (List.map aB.sub (sx.frames.set (((sx.frames.length : Int) - 1)).toNat ({ x3 with at_ := (min (x3.at_ + 1) ((aW.code.length : Int) - 1)) })))))) (.own (aU Val).raw 47 vs1 (List.zip sx.cells eQ))) (.bL (aR aL 51 hn eQ (List.map (aU Val).sub sx.cells))) : Chunk) b ∨ b = b1) w
 refine rP Su.symm (nY 0 4 (by kernel_rfl) rfl ay rfl ay ?_ ?_)
 refine ae (dz (vs := [(.bool (false)), (.int .i64 (0)), (.bool (false))]) h 7 rfl fP rfl rfl rfl) (ah (aX vz (bP 4 (by kernel_rfl) rfl ay ?_)))
 replace h := h.pair 1 2 (by decide)
 replace h := h.pair 1 3 (by decide)
 replace h := h.pair 1 4 (by decide)
 replace h := h.pair 1 5 (by decide)
 obtain ⟨Cc, Ce, Cf⟩ := h.vT 1 (C := (.two (.two (.two (.two (.blk sb [eU, vs1, (.int .i64 (sx.status)), (.int .i64 (sx.aV))]) (.own aB.raw 49 eU (List.zip (sx.frames.set (((sx.frames.length : Int) - 1)).toNat ({ x3 with at_ := (min (x3.at_ + 1) ((aW.code.length : Int) - 1)) })) fq))) (.bL (aR aL 51 hn fq (List.map aB.sub (sx.frames.set (((sx.frames.length : Int) - 1)).toNat ({ x3 with at_ := (min (x3.at_ + 1) ((aW.code.length : Int) - 1)) })))))) (.own (aU Val).raw 47 vs1 (List.zip sx.cells eQ))) (.bL (aR aL 51 hn eQ (List.map (aU Val).sub sx.cells))) : Chunk)) rfl ⟨⟨⟨⟨trivial, trivial⟩, trivial⟩, trivial⟩, trivial⟩
 refine bA QX rfl rfl (Iy _ _ Cf sb (⟨(sx.frames.set (((sx.frames.length : Int) - 1)).toNat ({ x3 with at_ := (min (x3.at_ + 1) ((aW.code.length : Int) - 1)) })), sx.cells, sx.status, sx.aV⟩ : LX.State) eU vs1 fq eQ Cc Ce va a (h.Ny 1 6 rfl rfl) aM jK (h.Ny 1 154 rfl rfl) _ IG) ?_
 rintro _ w ⟨yt, mW, mX, kX, kY, rfl, Ex, Cg⟩
 refine ⟨_, rfl, ?_⟩
 replace h := h.back 1 (C := (.two (.two (.two (.two (.blk sb [eU, vs1, (.int .i64 (sx.status)), (.int .i64 (sx.aV))]) (.own aB.raw 49 eU (List.zip (sx.frames.set (((sx.frames.length : Int) - 1)).toNat ({ x3 with at_ := (min (x3.at_ + 1) ((aW.code.length : Int) - 1)) })) fq))) (.bL (aR aL 51 hn fq (List.map aB.sub (sx.frames.set (((sx.frames.length : Int) - 1)).toNat ({ x3 with at_ := (min (x3.at_ + 1) ((aW.code.length : Int) - 1)) })))))) (.own (aU Val).raw 47 vs1 (List.zip sx.cells eQ))) (.bL (aR aL 51 hn eQ (List.map (aU Val).sub sx.cells))) : Chunk)) (C' := (.two (.two (.two (.two (.blk sb [mW, mX, (.int .i64 (dK.2.status)), (.int .i64 (dK.2.aV))]) (.own aB.raw 49 mW (List.zip dK.2.frames kX))) (.bL (aR aL 51 hn kX (List.map aB.sub dK.2.frames)))) (.own (aU Val).raw 47 mX (List.zip dK.2.cells kY))) (.bL (aR aL 51 hn kY (List.map (aU Val).sub dK.2.cells))) : Chunk)) rfl ⟨⟨⟨⟨trivial, trivial⟩, trivial⟩, trivial⟩, trivial⟩ Ex yt Cg
 replace h := h.bX 1 5 (by decide) rfl rfl
 replace h := h.bX 1 4 (by decide) rfl rfl
 replace h := h.bX 1 3 (by decide) rfl rfl
 replace h := h.bX 1 2 (by decide) rfl rfl
 replace vz := aS.step vz yt (fun _ hx _ => .inl (hx))
 refine ah (aX vz (bP 5 (by kernel_rfl) rfl ay (wZ (vs := [(.bool (false)), (.int .i64 (0)), (.bool (false))]) h 7 [(.bool (false)), (.int .i64 (0)), (.bool (false))] rfl fP rfl rfl rfl rfl rfl (ax rfl (ax rfl (ax rfl bu))) fun w h Ey => ?_)))
 replace vz := aS.step vz Ey (fun _ hx _ => .inr (hx))
 refine ah (aX vz (aZ 6 vz rfl ay (by kernel_rfl) (by kernel_rfl) (by kernel_rfl) (fun w hk => aj (v := (.bool (dK.1))) rfl) (fZ (by kernel_rfl) (aa (aI (aH (aC (jO (vs := [(.bool (false)), (.int .i64 (0)), (.bool (false))]) (v2 := (.bool (dK.1))) Tryz.results65 rfl rfl h 7 rfl fP rfl ?_))))))))
 replace h := h.pair 1 2 (by decide)
 replace h := h.pair 1 3 (by decide)
 replace h := h.pair 1 4 (by decide)
 replace h := h.pair 1 5 (by decide)
 obtain rfl := Option.some.inj hs
 subst zy
 obtain ⟨o1, o2, o3⟩ := h.qp 1 (C := (.two (.two (.two (.two (.blk sb [mW, mX, (.int .i64 (dK.2.status)), (.int .i64 (dK.2.aV))]) (.own aB.raw 49 mW (List.zip dK.2.frames kX))) (.bL (aR aL 51 hn kX (List.map aB.sub dK.2.frames)))) (.own (aU Val).raw 47 mX (List.zip dK.2.cells kY))) (.bL (aR aL 51 hn kY (List.map (aU Val).sub dK.2.cells))) : Chunk)) rfl ⟨⟨⟨⟨trivial, trivial⟩, trivial⟩, trivial⟩, trivial⟩
 exact ⟨o2, mW, mX, kX, kY, rfl, o1, o3⟩
 replace h := h.pair 1 2 (by decide)
 replace h := h.pair 1 3 (by decide)
 replace h := h.pair 1 4 (by decide)
 replace h := h.pair 1 5 (by decide)
 obtain ⟨Cc, Ce, Cf⟩ := h.vT 1 (C := (.two (.two (.two (.two (.blk sb [eU, vs1, (.int .i64 (sx.status)), (.int .i64 (sx.aV))]) (.own aB.raw 49 eU (List.zip (sx.frames.set (((sx.frames.length : Int) - 1)).toNat ({ x3 with at_ := (min (x3.at_ + 1) ((aW.code.length : Int) - 1)) })) fq))) (.bL (aR aL 51 hn fq (List.map aB.sub (sx.frames.set (((sx.frames.length : Int) - 1)).toNat ({ x3 with at_ := (min (x3.at_ + 1) ((aW.code.length : Int) - 1)) })))))) (.own (aU Val).raw 47 vs1 (List.zip sx.cells eQ))) (.bL (aR aL 51 hn eQ (List.map (aU Val).sub sx.cells))) : Chunk)) rfl ⟨⟨⟨⟨trivial, trivial⟩, trivial⟩, trivial⟩, trivial⟩
 refine bA QX rfl rfl (Iy _ _ Cf sb (⟨(sx.frames.set (((sx.frames.length : Int) - 1)).toNat ({ x3 with at_ := (min (x3.at_ + 1) ((aW.code.length : Int) - 1)) })), sx.cells, sx.status, sx.aV⟩ : LX.State) eU vs1 fq eQ Cc Ce va a (h.Ny 1 6 rfl rfl) aM jK (h.Ny 1 154 rfl rfl) _ IG) ?_
 rintro _ w ⟨yt, mW, mX, kX, kY, rfl, Ex, Cg⟩
 refine ⟨_, rfl, ?_⟩
 replace h := h.back 1 (C := (.two (.two (.two (.two (.blk sb [eU, vs1, (.int .i64 (sx.status)), (.int .i64 (sx.aV))]) (.own aB.raw 49 eU (List.zip (sx.frames.set (((sx.frames.length : Int) - 1)).toNat ({ x3 with at_ := (min (x3.at_ + 1) ((aW.code.length : Int) - 1)) })) fq))) (.bL (aR aL 51 hn fq (List.map aB.sub (sx.frames.set (((sx.frames.length : Int) - 1)).toNat ({ x3 with at_ := (min (x3.at_ + 1) ((aW.code.length : Int) - 1)) })))))) (.own (aU Val).raw 47 vs1 (List.zip sx.cells eQ))) (.bL (aR aL 51 hn eQ (List.map (aU Val).sub sx.cells))) : Chunk)) (C' := (.two (.two (.two (.two (.blk sb [mW, mX, (.int .i64 (dK.2.status)), (.int .i64 (dK.2.aV))]) (.own aB.raw 49 mW (List.zip dK.2.frames kX))) (.bL (aR aL 51 hn kX (List.map aB.sub dK.2.frames)))) (.own (aU Val).raw 47 mX (List.zip dK.2.cells kY))) (.bL (aR aL 51 hn kY (List.map (aU Val).sub dK.2.cells))) : Chunk)) rfl ⟨⟨⟨⟨trivial, trivial⟩, trivial⟩, trivial⟩, trivial⟩ Ex yt Cg
 replace h := h.bX 1 5 (by decide) rfl rfl
 replace h := h.bX 1 4 (by decide) rfl rfl
 replace h := h.bX 1 3 (by decide) rfl rfl
 replace h := h.bX 1 2 (by decide) rfl rfl
 replace vz := aS.step vz yt (fun _ hx _ => .inl (hx))
 refine ah (aX vz (bP 0 (by kernel_rfl) rfl ay (ae (dz (vs := [(.bool (false)), (.int .i64 (0)), (.bool (false))]) h 7 rfl fP rfl rfl rfl) (ah (aX vz (bP 5 (by kernel_rfl) rfl ay (wZ (vs := [(.bool (false)), (.int .i64 (0)), (.bool (false))]) h 7 [(.bool (false)), (.int .i64 (0)), (.bool (false))] rfl fP rfl rfl rfl rfl rfl (ax rfl (ax rfl (ax rfl bu))) fun w h Ey => ?_)))))))
 replace vz := aS.step vz Ey (fun _ hx _ => .inr (hx))
 refine ah (aX vz (aZ 6 vz rfl ay (by kernel_rfl) (by kernel_rfl) (by kernel_rfl) (fun w hk => aj (v := (.bool (dK.1))) rfl) (fZ (by kernel_rfl) (aa (aI (aH (aC (jO (vs := [(.bool (false)), (.int .i64 (0)), (.bool (false))]) (v2 := (.bool (dK.1))) Tryz.results65 rfl rfl h 7 rfl fP rfl ?_))))))))
 replace h := h.pair 1 2 (by decide)
 replace h := h.pair 1 3 (by decide)
 replace h := h.pair 1 4 (by decide)
 replace h := h.pair 1 5 (by decide)
 obtain rfl := Option.some.inj hs
 subst zy
 obtain ⟨o1, o2, o3⟩ := h.qp 1 (C := (.two (.two (.two (.two (.blk sb [mW, mX, (.int .i64 (dK.2.status)), (.int .i64 (dK.2.aV))]) (.own aB.raw 49 mW (List.zip dK.2.frames kX))) (.bL (aR aL 51 hn kX (List.map aB.sub dK.2.frames)))) (.own (aU Val).raw 47 mX (List.zip dK.2.cells kY))) (.bL (aR aL 51 hn kY (List.map (aU Val).sub dK.2.cells))) : Chunk)) rfl ⟨⟨⟨⟨trivial, trivial⟩, trivial⟩, trivial⟩, trivial⟩
 exact ⟨o2, mW, mX, kX, kY, rfl, o1, o3⟩
 refine ai (ag (ae (bH rfl rfl) (ae (aj (v := (.bool (decide ((aM.op : Int) = 8)))) rfl) (ah (aa (aK hs rfl (fun c116 hs => ?_) (fun c116 hs => ?_)))))))
 refine qI 10 mixed (by kernel_rfl) h fun w h => aN (au (v := (.pointer (some ⟨sb, 0, none⟩))) rfl) (aN (au (v := u8) rfl) (aN (ak jV rfl) (aN (aF h 177 rfl bz rfl rfl) ?_)))
 obtain ⟨Sc, e118, hs⟩ := aP hs
 obtain ⟨b120, q121, i119⟩ := h.vN 8 rfl bR rfl (aJ e118).1 (aJ e118).2
 refine aN (i119 _ _ _ _ _ _ _ _ _ rfl rfl) ?_
 obtain ⟨cs122, m123, r124⟩ := h.yx 8 rfl q121 (aJ e118).2
 obtain rfl := r124
 refine aN (ou (k := 0) (vs := [(.int .i64 (Sc.kind)), (.int .i64 (Sc.n))]) m123 bT rfl rfl rfl (Nat.le_of_ble_eq_true rfl)) (aN (au (v := (.pointer (some ⟨b6, (((sx.frames.length : Int) - 1)).toNat * 4, none⟩))) rfl) (aN (bQ rfl) (aN (ak AL rfl) ?_)))
 obtain ⟨cs125, m126, r127⟩ := h.yx 2 rfl q7 (fB (jP (aJ e4).2) e9)
 obtain ⟨rfl, -⟩ := r127
 refine aN (oJ (k := 3) m126 bz rfl rfl) (zm ?_)
 replace h := h.iL 3 8 rfl rfl (by decide) (jP (aJ e4).2) e9 rfl
 replace h := h.pair 1 2 (by decide)
 replace h := h.pair 1 3 (by decide)
 replace h := h.pair 1 4 (by decide)
 replace h := h.pair 1 5 (by decide)
 obtain ⟨aab, aac, aad⟩ := h.vT 1 (C := (.two (.two (.two (.two (.blk sb [eU, vs1, (.int .i64 (sx.status)), (.int .i64 (sx.aV))]) (.own aB.raw 49 eU (List.zip (sx.frames.set (((sx.frames.length : Int) - 1)).toNat ({ x3 with at_ := (min (x3.at_ + 1) ((aW.code.length : Int) - 1)) })) fq))) (.bL (aR aL 51 hn fq (List.map aB.sub (sx.frames.set (((sx.frames.length : Int) - 1)).toNat ({ x3 with at_ := (min (x3.at_ + 1) ((aW.code.length : Int) - 1)) })))))) (.own (aU Val).raw 47 vs1 (List.zip sx.cells eQ))) (.bL (aR aL 51 hn eQ (List.map (aU Val).sub sx.cells))) : Chunk)) rfl ⟨⟨⟨⟨trivial, trivial⟩, trivial⟩, trivial⟩, trivial⟩
 obtain ⟨Ca, e130, hs⟩ := aP hs
 refine bA V9 rfl rfl (Pj _ _ aad sb (⟨(sx.frames.set (((sx.frames.length : Int) - 1)).toNat ({ x3 with at_ := (min (x3.at_ + 1) ((aW.code.length : Int) - 1)) })), sx.cells, sx.status, sx.aV⟩ : LX.State) eU vs1 fq eQ aab aac Sc x3.l6 _ e130) ?_
 rintro _ w ⟨k135, u131, Us, Sv, Sw, rfl, h136, h137⟩
 refine ⟨_, rfl, ?_⟩
 replace h := h.back 1 (C := (.two (.two (.two (.two (.blk sb [eU, vs1, (.int .i64 (sx.status)), (.int .i64 (sx.aV))]) (.own aB.raw 49 eU (List.zip (sx.frames.set (((sx.frames.length : Int) - 1)).toNat ({ x3 with at_ := (min (x3.at_ + 1) ((aW.code.length : Int) - 1)) })) fq))) (.bL (aR aL 51 hn fq (List.map aB.sub (sx.frames.set (((sx.frames.length : Int) - 1)).toNat ({ x3 with at_ := (min (x3.at_ + 1) ((aW.code.length : Int) - 1)) })))))) (.own (aU Val).raw 47 vs1 (List.zip sx.cells eQ))) (.bL (aR aL 51 hn eQ (List.map (aU Val).sub sx.cells))) : Chunk)) (C' := (.two (.two (.two (.two (.blk sb [u131, Us, (.int .i64 (Ca.status)), (.int .i64 (Ca.aV))]) (.own aB.raw 49 u131 (List.zip Ca.frames Sv))) (.bL (aR aL 51 hn Sv (List.map aB.sub Ca.frames)))) (.own (aU Val).raw 47 Us (List.zip Ca.cells Sw))) (.bL (aR aL 51 hn Sw (List.map (aU Val).sub Ca.cells))) : Chunk)) rfl ⟨⟨⟨⟨trivial, trivial⟩, trivial⟩, trivial⟩, trivial⟩ h136 k135 h137
 replace h := h.bX 1 5 (by decide) rfl rfl
 replace h := h.bX 1 4 (by decide) rfl rfl
 replace h := h.bX 1 3 (by decide) rfl rfl
 replace h := h.bX 1 2 (by decide) rfl rfl
 refine ah (aA (az ?_))
 exact bS (false, u131, Sv, Ca.frames, Us, Sw, Ca.cells, Ca.status, Ca.aV) ⟨h.cn _, hs⟩
 refine ai (ag (ae (bH rfl rfl) (ae (aj (v := (.bool (decide ((aM.op : Int) = 9)))) rfl) (ah (aa (aK hs rfl (fun c138 hs => ?_) (fun c138 hs => ?_)))))))
 refine ai (lS (L := (fun x => x = b1)) mixed h fun w h => aZ 0 (aS.refl _ _) rfl ay (by kernel_rfl) (by kernel_rfl) (by kernel_rfl) (fun w hk => au (v := u8) rfl) (aZ 1 (aS.refl _ _) rfl ay (by kernel_rfl) (by kernel_rfl) (by kernel_rfl) (fun w hk => ak jV rfl) (aZ 2 (aS.refl _ _) rfl ay (by kernel_rfl) (by kernel_rfl) (by kernel_rfl) (fun w hk => have h := h.qB 7 rfl hk; aF h 177 rfl bz rfl rfl) ?_)))
 obtain ⟨mP, vQ, hs⟩ := aP hs
 obtain ⟨X6, II, Py⟩ := h.vN 8 rfl bR rfl (aJ vQ).1 (aJ vQ).2
 refine aZ 3 (aS.refl _ _) rfl ay (by kernel_rfl) (by kernel_rfl) (by kernel_rfl) (fun w hk => Py _ _ _ _ _ _ _ _ _ rfl rfl) (aZ 4 (aS.refl _ _) rfl ay (by kernel_rfl) (by kernel_rfl) (by kernel_rfl) (fun w hk => ak ik rfl) ?_)
 obtain ⟨Xj, Pz, PD⟩ := h.yx 8 rfl II (aJ vQ).2
 obtain rfl := PD
 have PE : ¬ (_ = b1) := (h.apart 8 7 (by decide) _ II)
 refine aZ 5 (aS.refl _ _) rfl ay (by kernel_rfl) (by kernel_rfl) (by kernel_rfl) (fun w hk => have h := h.qB 7 rfl hk; oJ (k := 1) (Pz.hold hk PE) bz rfl rfl) (aZ 6 (aS.refl _ _) rfl ay (by kernel_rfl) (by kernel_rfl) (by kernel_rfl) (fun w hk => dO (pv := [(0, (.bool (true))), (1, (.int .i64 (mP.n)))]) (out := [(.bool (true)), (.int .i64 (mP.n)), (.bool (false))]) OB rfl ⟨0, 1, [(.bool (true))], rfl, rfl, rfl, Nat.le_of_ble_eq_true rfl, ⟨1, 1, [(.int .i64 (mP.n))], rfl, rfl, rfl, Nat.le_of_ble_eq_true rfl, rfl⟩⟩) (aZ 7 (aS.refl _ _) rfl ay (by kernel_rfl) (by kernel_rfl) (by kernel_rfl) (fun w hk => au (v := u8) rfl) (aZ 8 (aS.refl _ _) rfl ay (by kernel_rfl) (by kernel_rfl) (by kernel_rfl) (fun w hk => ak jV rfl) (aZ 9 (aS.refl _ _) rfl ay (by kernel_rfl) (by kernel_rfl) (by kernel_rfl) (fun w hk => have h := h.qB 7 rfl hk; aF h 177 rfl bz rfl rfl) ?_))))
 obtain ⟨Xk, Gw, M3⟩ := h.vN 8 rfl bR rfl (aJ vQ).1 (aJ vQ).2
 refine aZ 10 (aS.refl _ _) rfl ay (by kernel_rfl) (by kernel_rfl) (by kernel_rfl) (fun w hk => M3 _ _ _ _ _ _ _ _ _ rfl rfl) (aZ 11 (aS.refl _ _) rfl ay (by kernel_rfl) (by kernel_rfl) (by kernel_rfl) (fun w hk => ak rR rfl) ?_)
 obtain ⟨Vm, M4, M5⟩ := h.yx 8 rfl Gw (aJ vQ).2
 obtain rfl := M5
 have M6 : ¬ (_ = b1) := (h.apart 8 7 (by decide) _ Gw)
 refine aZ 12 (aS.refl _ _) rfl ay (by kernel_rfl) (by kernel_rfl) (by kernel_rfl) (fun w hk => have h := h.qB 7 rfl hk; oJ (k := 0) (M4.hold hk M6) bz rfl rfl) (aZ 13 (aS.refl _ _) rfl ay (by kernel_rfl) (by kernel_rfl) (by kernel_rfl) (fun w hk => bH rfl rfl) ?_)
 obtain ⟨aae, Sy⟩ : ∃ x, x = w := ⟨_, rfl⟩
 have NT : aS (fun x => x = b1) aae w := Sy ▸ aS.refl (fun x => x = b1) w
 refine rP Sy.symm (bP 14 (by kernel_rfl) rfl ay (wZ (vs := [(.bool (true)), (.int .i64 (mP.n)), (.bool (false))]) h 7 [(.bool (true)), (.int .i64 (mP.n)), (.bool (false))] rfl fP rfl rfl rfl rfl rfl (ax rfl (ax rfl (ax rfl bu))) fun w h M7 => ?_))
 replace NT := NT.same M7
 refine ah (aX NT (aZ 15 NT rfl ay (by kernel_rfl) (by kernel_rfl) (by kernel_rfl) (fun w hk => aj (v := (.bool (decide ((mP.kind : Int) = 1)))) rfl) (fZ (by kernel_rfl) (aa (aI (aH (aC (jO (vs := [(.bool (true)), (.int .i64 (mP.n)), (.bool (false))]) (v2 := (.bool (decide ((mP.kind : Int) = 1)))) Tryz.results65 rfl rfl h 7 rfl fP rfl ?_))))))))
 replace h := h.iL 3 8 rfl rfl (by decide) (jP (aJ e4).2) e9 rfl
 replace h := h.pair 1 2 (by decide)
 replace h := h.pair 1 3 (by decide)
 replace h := h.pair 1 4 (by decide)
 replace h := h.pair 1 5 (by decide)
 obtain rfl := Option.some.inj hs
 subst zy
 obtain ⟨o1, o2, o3⟩ := h.qp 1 (C := (.two (.two (.two (.two (.blk sb [eU, vs1, (.int .i64 (sx.status)), (.int .i64 (sx.aV))]) (.own aB.raw 49 eU (List.zip (sx.frames.set (((sx.frames.length : Int) - 1)).toNat ({ x3 with at_ := (min (x3.at_ + 1) ((aW.code.length : Int) - 1)) })) fq))) (.bL (aR aL 51 hn fq (List.map aB.sub (sx.frames.set (((sx.frames.length : Int) - 1)).toNat ({ x3 with at_ := (min (x3.at_ + 1) ((aW.code.length : Int) - 1)) })))))) (.own (aU Val).raw 47 vs1 (List.zip sx.cells eQ))) (.bL (aR aL 51 hn eQ (List.map (aU Val).sub sx.cells))) : Chunk)) rfl ⟨⟨⟨⟨trivial, trivial⟩, trivial⟩, trivial⟩, trivial⟩
 exact ⟨o2, eU, vs1, fq, eQ, rfl, o1, o3⟩
 refine ai (ag (ae (bH rfl rfl) (ae (aj (v := (.bool (decide ((aM.op : Int) = 10)))) rfl) (ah (aa (aK hs rfl (fun c145 hs => ?_) (fun c145 hs => ?_)))))))
 refine ag (ae (ak FQ rfl) (fw h 7 [(.bool (false)), (.int .i64 (0)), (.bool (true))] rfl wI rfl rfl rfl rfl rfl fun w h => ah (aA ?_)))
 replace h := h.iL 3 8 rfl rfl (by decide) (jP (aJ e4).2) e9 rfl
 refine az ?_
 exact bS (true, eU, fq, (sx.frames.set (((sx.frames.length : Int) - 1)).toNat ({ x3 with at_ := (min (x3.at_ + 1) ((aW.code.length : Int) - 1)) })), vs1, eQ, sx.cells, sx.status, sx.aV) ⟨h.cn _, hs⟩
 refine ai (ag (ae (bH rfl rfl) (ae (aj (v := (.bool (decide ((aM.op : Int) = 11)))) rfl) (ah (aa (aK hs rfl (fun c146 hs => ?_) (fun c146 hs => ?_)))))))
 refine ai (ai (ag (ae (au (v := u8) rfl) (ae (ak jV rfl) (ae (aF h 177 rfl bz rfl rfl) ?_)))))
 obtain ⟨Sd, PG, hs⟩ := aP hs
 obtain ⟨b150, q151, i149⟩ := h.vN 8 rfl bR rfl (aJ PG).1 (aJ PG).2
 refine ae (i149 _ _ _ _ _ _ _ _ _ rfl rfl) (ae (ak rR rfl) ?_)
 obtain ⟨cs152, m153, r154⟩ := h.yx 8 rfl q151 (aJ PG).2
 obtain rfl := r154
 refine ae (oJ (k := 0) m153 bz rfl rfl) (ae (iA rfl rfl) (ah (aa (aK hs rfl (fun c155 hs => ?_) (fun c155 hs => ?_)))))
 refine ai (ag (ae (dz (vs := [(.bool (false)), (.int .i64 (0)), (.bool (false))]) h 7 rfl fP rfl rfl rfl) (dA (vs := [(.bool (false)), (.int .i64 (0)), (.bool (false))]) h 7 [(.bool (false)), (.int .i64 (0)), (.bool (false))] rfl fP rfl rfl rfl rfl rfl (ax rfl (ax rfl (ax rfl bu))) fun w h => ae (aj (v := (.bool (false))) rfl) (ah (aa (aI (aC (aH (aC (jO (vs := [(.bool (false)), (.int .i64 (0)), (.bool (false))]) (v2 := (.bool (false))) Tryz.results65 rfl rfl h 7 rfl fP rfl ?_))))))))))
 replace h := h.iL 3 8 rfl rfl (by decide) (jP (aJ e4).2) e9 rfl
 replace h := h.pair 1 2 (by decide)
 replace h := h.pair 1 3 (by decide)
 replace h := h.pair 1 4 (by decide)
 replace h := h.pair 1 5 (by decide)
 obtain rfl := Option.some.inj hs
 subst zy
 obtain ⟨o1, o2, o3⟩ := h.qp 1 (C := (.two (.two (.two (.two (.blk sb [eU, vs1, (.int .i64 (sx.status)), (.int .i64 (sx.aV))]) (.own aB.raw 49 eU (List.zip (sx.frames.set (((sx.frames.length : Int) - 1)).toNat ({ x3 with at_ := (min (x3.at_ + 1) ((aW.code.length : Int) - 1)) })) fq))) (.bL (aR aL 51 hn fq (List.map aB.sub (sx.frames.set (((sx.frames.length : Int) - 1)).toNat ({ x3 with at_ := (min (x3.at_ + 1) ((aW.code.length : Int) - 1)) })))))) (.own (aU Val).raw 47 vs1 (List.zip sx.cells eQ))) (.bL (aR aL 51 hn eQ (List.map (aU Val).sub sx.cells))) : Chunk)) rfl ⟨⟨⟨⟨trivial, trivial⟩, trivial⟩, trivial⟩, trivial⟩
 exact ⟨o2, eU, vs1, fq, eQ, rfl, o1, o3⟩
 refine aG (aa (ag (ae (au (v := (.pointer (some ⟨sb, 0, none⟩))) rfl) (ae (au (v := (.pointer (some ⟨sb, 0, none⟩))) rfl) (ae (au (v := u8) rfl) (ae (ak jV rfl) (ae (aF h 177 rfl bz rfl rfl) ?_)))))))
 obtain ⟨b157, q158, i156⟩ := h.vN 8 rfl bR rfl (aJ PG).1 (aJ PG).2
 refine ae (i156 _ _ _ _ _ _ _ _ _ rfl rfl) (ae (ak ik rfl) ?_)
 obtain ⟨cs159, m160, r161⟩ := h.yx 8 rfl q158 (aJ PG).2
 obtain rfl := r161
 refine ae (oJ (k := 1) m160 bz rfl rfl) (ae (bQ rfl) (ae (ak oM rfl) (fw h 1 [eU, vs1, (.int .i64 (3)), (.int .i64 (sx.aV))] rfl bz rfl rfl rfl rfl rfl fun w h => ae (bQ rfl) (ae (ak yO rfl) (fw h 1 [eU, vs1, (.int .i64 (3)), (.int .i64 (Sd.n))] rfl bz rfl rfl rfl rfl rfl fun w h => ae (ak FQ rfl) (fw h 7 [(.bool (false)), (.int .i64 (0)), (.bool (true))] rfl wI rfl rfl rfl rfl rfl fun w h => ah (aA ?_)))))))
 replace h := h.iL 3 8 rfl rfl (by decide) (jP (aJ e4).2) e9 rfl
 refine az ?_
 exact bS (true, eU, fq, (sx.frames.set (((sx.frames.length : Int) - 1)).toNat ({ x3 with at_ := (min (x3.at_ + 1) ((aW.code.length : Int) - 1)) })), vs1, eQ, sx.cells, 3, Sd.n) ⟨h.cn _, hs⟩
 refine ai (ag (ae (bH rfl rfl) (ae (aj (v := (.bool (decide ((aM.op : Int) = 12)))) rfl) (ah (aa (aK hs rfl (fun c162 hs => ?_) (fun c162 hs => ?_)))))))
 refine ag (ae (au (v := (.pointer (some ⟨b6, (((sx.frames.length : Int) - 1)).toNat * 4, none⟩))) rfl) (ae (ak iF rfl) (ae (aF h 177 rfl bz rfl rfl) (ae (bQ rfl) (ae (ak tV rfl) (HZ (a' := (({ x3 with at_ := aM.b }), u8)) h 2 rfl q7 rfl (fB (jP (aJ e4).2) e9) bz rfl rfl rfl rfl (by rintro _ ⟨rfl, hq⟩; exact ⟨rfl, hq⟩) fun w h => ?_))))))
 rw [FL e9] at h
 replace h := h.VE 3 ({ x3 with at_ := aM.b }) rfl
 refine ah (aA ?_)
 replace h := h.iL 3 8 rfl rfl (by decide) (jP (jP (aJ e4).2)) e9 rfl
 refine az ?_
 exact bS (false, eU, fq, ((sx.frames.set (((sx.frames.length : Int) - 1)).toNat ({ x3 with at_ := (min (x3.at_ + 1) ((aW.code.length : Int) - 1)) })).set (((sx.frames.length : Int) - 1)).toNat ({ x3 with at_ := aM.b })), vs1, eQ, sx.cells, sx.status, sx.aV) ⟨h.cn _, hs⟩
 refine ai (ag (ae (bH rfl rfl) (ae (aj (v := (.bool (decide ((aM.op : Int) = 13)))) rfl) (ah (aa (aK hs rfl (fun c163 hs => ?_) (fun c163 hs => ?_)))))))
 refine ai (ag (ae (au (v := u8) rfl) (ae (ak jV rfl) (ae (aF h 177 rfl bz rfl rfl) ?_))))
 obtain ⟨Cb, e165, hs⟩ := aP hs
 obtain ⟨b167, q168, i166⟩ := h.vN 8 rfl bR rfl (aJ e165).1 (aJ e165).2
 refine ae (i166 _ _ _ _ _ _ _ _ _ rfl rfl) ?_
 obtain ⟨cs169, m170, r171⟩ := h.yx 8 rfl q168 (aJ e165).2
 obtain rfl := r171
 refine ae (ou (k := 0) (vs := [(.int .i64 (Cb.kind)), (.int .i64 (Cb.n))]) m170 bT rfl rfl rfl (Nat.le_of_ble_eq_true rfl)) (bW h 995 bT fun w b172 h => dA (vs := [(.int .i64 (Cb.kind)), (.int .i64 (Cb.n))]) h 995 [(.int .i64 (Cb.kind)), (.int .i64 (Cb.n))] rfl bT rfl rfl rfl rfl rfl (ax rfl (ax rfl bu)) fun w h => ah (aa (ai (ag (ae (ak rR rfl) (ae (aF h 995 rfl bz rfl rfl) (ae (bH rfl rfl) (ae (au (v := (.bool (decide ((Cb.kind : Int) = 0)))) rfl) (aD rfl rfl (fun q => ak rR rfl) (aD rfl rfl (fun q => aF h 995 rfl bz (dx q) rfl) (aD rfl rfl (fun q => bH (dx q) rfl) (aD rfl rfl (fun q => au (v := (.bool (decide ((Cb.kind : Int) = 1)))) (dx q)) (lN (decide ((Cb.kind : Int) = 0) == false) rfl rfl (fun q => ak ik rfl) (lN (decide ((Cb.kind : Int) = 0) == false) rfl rfl (fun q => aF h 995 rfl bz (dx q) rfl) (lN (decide ((Cb.kind : Int) = 0) == false) rfl rfl (fun q => bH (dx q) rfl) (aD rfl rfl (fun q => fT (dx q) (PZ q) lQ) (ae (gK rfl rfl lQ) (ah (aa (aK hs rfl (fun c173 hs => ?_) (fun c173 hs => ?_)))))))))))))))))))))
 refine ag (ae (au (v := (.pointer (some ⟨b6, (((sx.frames.length : Int) - 1)).toNat * 4, none⟩))) rfl) (ae (ak iF rfl) (ae (aF h 177 rfl bz rfl rfl) (ae (bQ rfl) (ae (ak tV rfl) (HZ (a' := (({ x3 with at_ := aM.b }), u8)) h 2 rfl q7 rfl (fB (jP (aJ e4).2) e9) bz rfl rfl rfl rfl (by rintro _ ⟨rfl, hq⟩; exact ⟨rfl, hq⟩) fun w h => ?_))))))
 rw [FL e9] at h
 replace h := h.VE 3 ({ x3 with at_ := aM.b }) rfl
 refine ah (aA ?_)
 replace h := h.iL 3 8 rfl rfl (by decide) (jP (jP (aJ e4).2)) e9 rfl
 refine az ?_
 exact bS (false, eU, fq, ((sx.frames.set (((sx.frames.length : Int) - 1)).toNat ({ x3 with at_ := (min (x3.at_ + 1) ((aW.code.length : Int) - 1)) })).set (((sx.frames.length : Int) - 1)).toNat ({ x3 with at_ := aM.b })), vs1, eQ, sx.cells, sx.status, sx.aV) ⟨h.cn _, hs⟩
 refine aG (aA ?_)
 replace h := h.iL 3 8 rfl rfl (by decide) (jP (aJ e4).2) e9 rfl
 refine az ?_
 exact bS (false, eU, fq, (sx.frames.set (((sx.frames.length : Int) - 1)).toNat ({ x3 with at_ := (min (x3.at_ + 1) ((aW.code.length : Int) - 1)) })), vs1, eQ, sx.cells, sx.status, sx.aV) ⟨h.cn _, hs⟩
 refine aG (aA ?_)
 replace h := h.iL 3 8 rfl rfl (by decide) (jP (aJ e4).2) e9 rfl
 refine az ?_
 exact bS (false, eU, fq, (sx.frames.set (((sx.frames.length : Int) - 1)).toNat ({ x3 with at_ := (min (x3.at_ + 1) ((aW.code.length : Int) - 1)) })), vs1, eQ, sx.cells, sx.status, sx.aV) ⟨h.cn _, hs⟩
 refine ai (ag (ae (bH rfl rfl) (ae (aj (v := (.bool (decide ((aM.op : Int) = 4)))) rfl) (ah (aa (aK hs rfl (fun c174 hs => ?_) (fun c174 hs => ?_)))))))
 refine aG (az ?_)
 exact bS (decide ((aM.op : Int) = 4)) ⟨h.cn _, hs⟩
 refine ag (ae (bH rfl rfl) (ae (aj (v := (.bool (decide ((aM.op : Int) = 6)))) rfl) (ah (az ?_))))
 exact bS (decide ((aM.op : Int) = 6)) ⟨h.cn _, hs⟩
def rC (y5 : List Int) (x20 : Int) (y23 : List LX.Frame) (J8 : List (List Val)) (y27 : Int) (y28 : Int) : Option (LX.State × List Int × Int × Int) :=
  some ((⟨y23, J8, y27, y28⟩ : LX.State), y5, x20, 0)
def wC (gq : Bz × Bool × LX.State) (Cm : Int) (Hm : (List Int × Int × List LX.Frame × List (List Val) × Int × Int) → Option (LX.State × List Int × Int × Int)) (JV : List Int) : Option (LX.State × List Int × Int × Int) :=
  bif gq.1.Dx then rC JV (Cm + 1) gq.2.2.frames gq.2.2.cells gq.2.2.status gq.2.2.aV else Hm (JV, (Cm + 1), gq.2.2.frames, gq.2.2.cells, gq.2.2.status, gq.2.2.aV)
def wD (N : Nat) (pz : List Int) (Cm : Int) (tX : List LX.Frame) (wH : List (List Val)) (JW : Int) (Fu : Int) (a : List cz) (Hm : (List Int × Int × List LX.Frame × List (List Val) × Int × Int) → Option (LX.State × List Int × Int × Int)) (x93 : Bool) : Option (LX.State × List Int × Int × Int) :=
  bif x93 then rC pz Cm tX wH JW Fu else (zf (⟨tX, wH, JW, Fu⟩ : LX.State)).bind fun y95 => (nR N y95 a).bind fun gq => gQ (jB (Cm + 1)) (bif (!gq.2.1) then rC pz (Cm + 1) tX wH 2 Fu else bif gq.1.said then gQ (Room 8 pz [gq.1.n]) (wC gq Cm Hm (pz ++ [gq.1.n])) else wC gq Cm Hm pz)
def qU (N : Nat) (c : Int) (a : List cz) (s : List Int × Int × List LX.Frame × List (List Val) × Int × Int) (Hm : List Int × Int × List LX.Frame × List (List Val) × Int × Int → Option (LX.State × List Int × Int × Int)) : Option (LX.State × List Int × Int × Int) :=
  match s with | (pz, Cm, tX, wH, JW, Fu) => bif (decide ((Cm : Int) < c) && decide ((JW : Int) = 0)) then gQ (jB ((tX.length : Int) - 1)) ((idx tX ((tX.length : Int) - 1)).bind fun x82 => bif decide (((pz.length : Int) : Int) = 40) then (idx a x82.proc).bind fun F5 => (idx F5.code x82.at_).bind fun Ut => wD N pz Cm tX wH JW Fu a Hm (decide ((Ut.op : Int) = 9)) else wD N pz Cm tX wH JW Fu a Hm false) else rC pz Cm tX wH JW Fu
def Aj (N : Nat) (a : List cz) (b : LX.State) (c : Int) : Option (LX.State × List Int × Int × Int) :=
  (wu a b).bind fun y3 => bif decide ((y3 : Int) ≠ 0) then some ((⟨[], [], 0, 0⟩ : LX.State), [], 0, y3) else bif (decide ((c : Int) < 0) || decide ((2000 : Int) < c)) then some ((⟨[], [], 0, 0⟩ : LX.State), [], 0, 3) else bif decide ((b.status : Int) ≠ 0) then some ((⟨[], [], 0, 0⟩ : LX.State), [], 0, 7) else (zf b).bind fun y9 => again (qU N c a) N ([], 0, y9.frames, y9.cells, y9.status, y9.aV)
theorem Ak (N : Nat) (w0 : World) (M : BS) (hM : ∀ b, M b → b < w0.heap.size) (va : Value) (a : List cz) (ha : fo j4 w0 M va a) (b : LX.State) (vb0 vb1 : Value) (hb0 : gp gu w0 BE M vb0 b.frames) (hb1 : gp (qV aL) w0 BE M vb1 b.cells) (c : Int) (r : LX.State × List Int × Int × Int) (hs : Aj N a b c = some r) :
    Calls Tryz.prog 28 #[va, (.agg #[vb0, vb1, (.int .i64 (b.status)), (.int .i64 (b.aV))]), (.int .i64 (c))] w0 (fun e w' => Grow w0 w' ∧ ∃ wm, ∃ zC, ∃ u1, e = .returned (.tuple #[.agg #[wm, zC, .int .i64 r.1.status, .int .i64 r.1.aV], u1, .int .i64 r.2.2.1, .int .i64 r.2.2.2]) ∧ fo gu w' (fun b => M b ∨ ob u1 b) wm r.1.frames ∧ fo (qV aL) w' (fun b => M b ∨ ob u1 b) zC r.1.cells ∧ dU fH 3 w' M u1 r.2.1 ∧ (∀ b, ob u1 b → w0.heap.size ≤ b)) := by
 refine aQ (args := [va, (.agg #[vb0, vb1, (.int .i64 (b.status)), (.int .i64 (b.aV))]), (.int .i64 (c))]) Tryz.func28 rfl Tryz.ntmps28 (Nat.le_of_ble_eq_true rfl) ?_
 have h := SH.init hM
 replace h := h.UU 1 ha bJ
 replace h := h.fC 2 hb0 (wK bJ)
 replace h := h.fC 3 hb1 (di (wK bJ))
 have uu := ha.bZ
 refine ai (ag (nX (cs := [vb0, vb1, (.int .i64 (b.status)), (.int .i64 (b.aV))]) h 4 rfl rfl fun w b1 h => bW h 5 cZ fun w b2 h => ae (aj (v := (.slice none 0 0)) rfl) (ae (aj (v := (.int .i64 (0))) rfl) (ae (aj (v := (.int .i64 (0))) rfl) (ah (aa (ai (ai (ag (ae (au (v := va) rfl) (ae (dz (vs := [vb0, vb1, (.int .i64 (b.status)), (.int .i64 (b.aV))]) h 4 rfl cZ rfl rfl rfl) ?_)))))))))))
 obtain ⟨y3, e4, hs⟩ := aP hs
 refine bA Jv rfl rfl (za _ _ h.lt va a (h.lY 1 rfl) b vb0 vb1 (h.iw 2 rfl) (h.iw 3 rfl) _ e4) ?_
 rintro _ w ⟨k5, rfl⟩
 refine ⟨_, rfl, ?_⟩
 replace h := h.grow k5
 refine ae (aj (v := (.int .i64 (y3))) rfl) (ah (aa (ai (ag (ae (au (v := (.int .i64 (y3))) rfl) (ae (iA rfl rfl) (ah (aa (aK hs rfl (fun c6 hs => ?_) (fun c6 hs => ?_))))))))))
 refine ai (ag (ae (dO (pv := []) (out := [(.slice none 0 0), (.slice none 0 0), (.int .i64 (0)), (.int .i64 (0))]) vV rfl rfl) (ae (au (v := (.int .i64 (y3))) rfl) (dA (vs := [(.slice none 0 0), (.slice none 0 0), (.int .i64 (0)), (.int .i64 (0))]) h 5 [(.slice none 0 0), (.slice none 0 0), (.int .i64 (0)), (.int .i64 (0))] rfl cZ rfl rfl rfl rfl rfl (ax rfl (ax rfl (ax rfl (ax rfl bu)))) fun w h => ae (aj (v := (.slice none 0 0)) rfl) (ae (aj (v := (.int .i64 (0))) rfl) (ae (aj (v := (.int .i64 (y3))) rfl) (ah (aa (aI (aC (Cy (vs := [(.slice none 0 0), (.slice none 0 0), (.int .i64 (0)), (.int .i64 (0))]) (v2 := (.slice none 0 0)) (v3 := (.int .i64 (0))) (v4 := (.int .i64 (y3))) Tryz.results28 rfl rfl rfl rfl h 5 rfl cZ rfl ?_)))))))))))
 obtain rfl := Option.some.inj hs
 exact ⟨h.grown, _, _, _, rfl, gp.nil, gp.nil, dU.nil, lM⟩
 refine aG (aa (ai (ai (ag (ae (au (v := (.int .i64 (c))) rfl) (ae (dS rfl rfl) (ae (au (v := (.bool (decide ((c : Int) < 0)))) rfl) (aD rfl rfl (fun q => au (v := (.int .i64 (c))) rfl) (aD rfl rfl (fun q => jA (dx q) rfl) (ae (gK rfl rfl lQ) (ah (aa (aK hs rfl (fun c7 hs => ?_) (fun c7 hs => ?_))))))))))))))
 refine ai (ag (ae (dO (pv := []) (out := [(.slice none 0 0), (.slice none 0 0), (.int .i64 (0)), (.int .i64 (0))]) vV rfl rfl) (dA (vs := [(.slice none 0 0), (.slice none 0 0), (.int .i64 (0)), (.int .i64 (0))]) h 5 [(.slice none 0 0), (.slice none 0 0), (.int .i64 (0)), (.int .i64 (0))] rfl cZ rfl rfl rfl rfl rfl (ax rfl (ax rfl (ax rfl (ax rfl bu)))) fun w h => ae (aj (v := (.slice none 0 0)) rfl) (ae (aj (v := (.int .i64 (0))) rfl) (ae (aj (v := (.int .i64 (3))) rfl) (ah (aa (aI (aC (Cy (vs := [(.slice none 0 0), (.slice none 0 0), (.int .i64 (0)), (.int .i64 (0))]) (v2 := (.slice none 0 0)) (v3 := (.int .i64 (0))) (v4 := (.int .i64 (3))) Tryz.results28 rfl rfl rfl rfl h 5 rfl cZ rfl ?_))))))))))
 obtain rfl := Option.some.inj hs
 exact ⟨h.grown, _, _, _, rfl, gp.nil, gp.nil, dU.nil, lM⟩
 refine aG (aa (ai (ai (ag (ae (ak oM rfl) (ae (aF h 4 rfl bz rfl rfl) (ae (iA rfl rfl) (ah (aa (aK hs rfl (fun c8 hs => ?_) (fun c8 hs => ?_)))))))))))
 refine ai (ag (ae (dO (pv := []) (out := [(.slice none 0 0), (.slice none 0 0), (.int .i64 (0)), (.int .i64 (0))]) vV rfl rfl) (dA (vs := [(.slice none 0 0), (.slice none 0 0), (.int .i64 (0)), (.int .i64 (0))]) h 5 [(.slice none 0 0), (.slice none 0 0), (.int .i64 (0)), (.int .i64 (0))] rfl cZ rfl rfl rfl rfl rfl (ax rfl (ax rfl (ax rfl (ax rfl bu)))) fun w h => ae (aj (v := (.slice none 0 0)) rfl) (ae (aj (v := (.int .i64 (0))) rfl) (ae (aj (v := (.int .i64 (7))) rfl) (ah (aa (aI (aC (Cy (vs := [(.slice none 0 0), (.slice none 0 0), (.int .i64 (0)), (.int .i64 (0))]) (v2 := (.slice none 0 0)) (v3 := (.int .i64 (0))) (v4 := (.int .i64 (7))) Tryz.results28 rfl rfl rfl rfl h 5 rfl cZ rfl ?_))))))))))
 obtain rfl := Option.some.inj hs
 exact ⟨h.grown, _, _, _, rfl, gp.nil, gp.nil, dU.nil, lM⟩
 refine aG (aa (ai (ag (ae (dz (vs := [vb0, vb1, (.int .i64 (b.status)), (.int .i64 (b.aV))]) h 4 rfl cZ rfl rfl rfl) ?_))))
 obtain ⟨y9, e10, hs⟩ := aP hs
 refine bA Jw rfl rfl (AY _ _ h.lt b vb0 vb1 (h.iw 2 rfl) (h.iw 3 rfl) _ e10) ?_
 rintro _ w ⟨k17, u11, LA, CR, Xl, rfl, h15, h16⟩
 refine ⟨_, rfl, ?_⟩
 replace h := h.LY 6 (C := (.two (.two (.two (.own aB.raw 49 u11 (List.zip y9.frames CR)) (.bL (aR aL 51 hn CR (List.map aB.sub y9.frames)))) (.own (aU Val).raw 47 LA (List.zip y9.cells Xl))) (.bL (aR aL 51 hn Xl (List.map (aU Val).sub y9.cells))) : Chunk)) k17 ⟨⟨⟨trivial, trivial⟩, trivial⟩, trivial⟩ h15 h16
 replace h := h.bX 6 9 (by decide) rfl rfl
 replace h := h.bX 6 8 (by decide) rfl rfl
 replace h := h.bX 6 7 (by decide) rfl rfl
 refine dA (vs := [u11, LA, (.int .i64 (y9.status)), (.int .i64 (y9.aV))]) h 4 [u11, LA, (.int .i64 (y9.status)), (.int .i64 (y9.aV))] rfl cZ rfl rfl rfl rfl rfl (ax (h.dG 6 rfl).one (ax (h.dG 8 rfl).one (ax rfl (ax rfl bu)))) fun w h => ah (aa (ai (ag (ae (aj (v := (.slice none 0 0)) rfl) (ah (aa (ai (ag (ae (aj (v := (.int .i64 (0))) rfl) (ah (aa (bY (σ := Value × List Int × Int × Value × List Value × List LX.Frame × Value × List Value × List (List Val) × Int × Int) (inl [11, 12, 13, 14, 15, 16, 37, 38, 39, 40, 41, 42, 43, 44, 45, 46, 47, 48, 49, 50, 51, 52, 53, 54, 55, 56, 57, 58, 59, 60, 61, 62, 63, 64, 65, 66, 67, 68, 69, 70, 71, 72, 73, 74, 75, 76, 77, 78, 79, 80, 81, 82, 83, 84, 85, 86, 87, 88, 89, 90, 91]) (fun ⟨v18, y5, x20, v21, Uu, y23, v24, Uv, J8, y27, y28⟩ => [(11, v18), (12, (.int .i64 (x20)))]) (fun ⟨v18, y5, x20, v21, Uu, y23, v24, Uv, J8, y27, y28⟩ w => SH w0 M BE w (hset [(4, .blk b1 [v21, v24, (.int .i64 (y27)), (.int .i64 (y28))]), (5, .blk b2 [(.slice none 0 0), (.slice none 0 0), (.int .i64 (0)), (.int .i64 (0))]), (10, .own aB.raw 49 v21 (List.zip y23 Uu)), (11, .bL (aR aL 51 hn Uu (List.map aB.sub y23))), (12, .own (aU Val).raw 47 v24 (List.zip J8 Uv)), (13, .bL (aR aL 51 hn Uv (List.map (aU Val).sub J8))), (25, .own fH 3 v18 y5)]) ∧ rC y5 x20 y23 J8 y27 y28 = some r) ?_ ?_))))))))))))
 rintro ⟨v18, y5, x20, v21, Uu, y23, v24, Uv, J8, y27, y28⟩ w dD ⟨h, hs⟩
 refine ai (ag (ae (dz (vs := [v21, v24, (.int .i64 (y27)), (.int .i64 (y28))]) h 4 rfl cZ rfl rfl rfl) (ae (au (v := v18) rfl) (ae (au (v := (.int .i64 (x20))) rfl) (dA (vs := [v21, v24, (.int .i64 (y27)), (.int .i64 (y28))]) h 5 [v21, v24, (.int .i64 (y27)), (.int .i64 (y28))] rfl cZ rfl rfl rfl rfl rfl (ax (h.dG 10 rfl).one (ax (h.dG 12 rfl).one (ax rfl (ax rfl bu)))) fun w h => ae (aj (v := v18) rfl) (ae (aj (v := (.int .i64 (x20))) rfl) (ae (aj (v := (.int .i64 (0))) rfl) (ah (aa (aI (Cy (vs := [v21, v24, (.int .i64 (y27)), (.int .i64 (y28))]) (v2 := v18) (v3 := (.int .i64 (x20))) (v4 := (.int .i64 (0))) Tryz.results28 rfl rfl rfl rfl h 5 rfl cZ rfl ?_)))))))))))
 replace h := h.zP (N := aB) (R' := gu) 10 11 rfl rfl (by decide) rfl AA
 replace h := h.zP (N := (aU Val)) (R' := (qV aL)) 12 13 rfl rfl (by decide) rfl Fe
 obtain rfl := Option.some.inj hs
 exact ⟨h.grown, _, _, _, rfl, h.Qk 10 25 rfl rfl, h.Qk 12 25 rfl rfl, (h.mg 25 rfl).1, (h.mg 25 rfl).2⟩
 refine aT ?_
 replace h := h.yF (R := fH) (E := 3) 41
 replace h := (h.fA 42).moveC 6 42 rfl rfl (by decide)
 replace h := (h.fA 43).moveC 7 43 rfl rfl (by decide)
 replace h := (h.fA 44).moveC 8 44 rfl rfl (by decide)
 replace h := (h.fA 45).moveC 9 45 rfl rfl (by decide)
 refine gL (σ := Nat × Value × List Int × Int × Value × List Value × List LX.Frame × Value × List Value × List (List Val) × Int × Int) (inl [11, 12, 13, 14, 15, 16, 37, 38, 39, 40, 41, 42, 43, 44, 45, 46, 47, 48, 49, 50, 51, 52, 53, 54, 55, 56, 57, 58, 59, 60, 61, 62, 63, 64, 65, 66, 67, 68, 69, 70, 71, 72, 73, 74, 75, 76, 77, 78, 79, 80, 81, 82, 83, 84, 85, 86, 87, 88, 89, 90, 91]) (fun ⟨WJ, v62, pz, Cm, v65, Ho, tX, v68, Hq, wH, JW, Fu⟩ => [(11, v62), (12, (.int .i64 (Cm)))]) (fun ⟨WJ, v62, pz, Cm, v65, Ho, tX, v68, Hq, wH, JW, Fu⟩ w => SH w0 M BE w (hset [(1, .rd j4 va a), (4, .blk b1 [v65, v68, (.int .i64 (JW)), (.int .i64 (Fu))]), (5, .blk b2 [(.slice none 0 0), (.slice none 0 0), (.int .i64 (0)), (.int .i64 (0))]), (41, .own fH 3 v62 pz), (42, .own aB.raw 49 v65 (List.zip tX Ho)), (43, .bL (aR aL 51 hn Ho (List.map aB.sub tX))), (44, .own (aU Val).raw 47 v68 (List.zip wH Hq)), (45, .bL (aR aL 51 hn Hq (List.map (aU Val).sub wH)))]) ∧ again (qU N c a) WJ (pz, Cm, tX, wH, JW, Fu) = some r) (fun ⟨WJ, v62, pz, Cm, v65, Ho, tX, v68, Hq, wH, JW, Fu⟩ => WJ) ⟨N, (.slice none 0 0), [], 0, u11, CR, y9.frames, LA, Xl, y9.cells, y9.status, y9.aV⟩ ⟨rfl, rfl, trivial⟩ ?_ ?_
 exact ⟨h.cn _, hs⟩
 rintro ⟨WJ, v62, pz, Cm, v65, Ho, tX, v68, Hq, wH, JW, Fu⟩ w dD ⟨h, hs⟩
 obtain ⟨aaf, m76e, m76h⟩ := qW hs
 subst m76e
 replace hs := m76h
 generalize aag : again (qU N c a) aaf = Hm at hs
 refine ai (ai (ag (ae (au (v := (.int .i64 (Cm))) rfl) (ae (au (v := (.int .i64 (c))) rfl) (ae (dS rfl rfl) (ae (au (v := (.bool (decide ((Cm : Int) < c)))) rfl) (aD rfl rfl (fun q => ak oM rfl) (aD rfl rfl (fun q => aF h 4 rfl bz (dx q) rfl) (aD rfl rfl (fun q => bH (dx q) rfl) (ae (fT rfl rfl lQ) (ah (aa (aK hs rfl (fun c80 hs => ?_) (fun c80 hs => ?_))))))))))))))
 refine aG (aa (aT (ai (ag (ae (ak eH rfl) (ae (aF h 4 rfl iR rfl rfl) (ae (ak eH rfl) (ae (aF h 4 rfl iR rfl rfl) (ae (qo (N := aB) dw rfl (h.ed 42 rfl) (h.iB 43 rfl)) ?_)))))))))
 obtain ⟨a81, hs⟩ := bI hs
 refine ae (nW rfl rfl a81) ?_
 obtain ⟨x82, X7, hs⟩ := aP hs
 obtain ⟨u87, WZ, h⟩ := h.qL 43 46 x82.regs rfl rfl (by decide) (aJ X7).2 rfl
 obtain ⟨G5, q86, i84⟩ := h.vN 42 rfl dw rfl (aJ X7).1 (fB (aJ X7).2 WZ)
 refine ae (i84 _ _ _ _ _ _ _ _ _ rfl rfl) ?_
 obtain ⟨cs89, m90, r91⟩ := h.yx 42 rfl q86 (fB (aJ X7).2 WZ)
 obtain ⟨rfl, -⟩ := r91
 refine ae (ou (k := 0) (vs := [(.int .i64 (x82.proc)), (.int .i64 (x82.at_)), u87, (.int .i64 (x82.l6))]) m90 iU rfl rfl rfl (Nat.le_of_ble_eq_true rfl)) (bW h 47 iU fun w b92 h => dA (vs := [(.int .i64 (x82.proc)), (.int .i64 (x82.at_)), u87, (.int .i64 (x82.l6))]) h 47 [(.int .i64 (x82.proc)), (.int .i64 (x82.at_)), u87, (.int .i64 (x82.l6))] rfl iU rfl rfl rfl rfl rfl (ax rfl (ax rfl (ax (h.dG 46 rfl).one (ax rfl bu)))) fun w h => ah (aa (ai (bY (σ := Bool) (inl [53, 54, 55, 56, 57, 58, 59, 60, 61, 62, 63, 64, 65, 66, 67, 68, 69]) (fun x93 => [(69, (.bool (x93)))]) (fun x93 w => SH w0 M BE w (hset [(1, .rd j4 va a), (4, .blk b1 [v65, v68, (.int .i64 (JW)), (.int .i64 (Fu))]), (5, .blk b2 [(.slice none 0 0), (.slice none 0 0), (.int .i64 (0)), (.int .i64 (0))]), (41, .own fH 3 v62 pz), (42, .own aB.raw 49 v65 (List.zip tX Ho)), (43, .bL (aR aL 51 hn Ho (List.map aB.sub tX))), (44, .own (aU Val).raw 47 v68 (List.zip wH Hq)), (45, .bL (aR aL 51 hn Hq (List.map (aU Val).sub wH)))]) ∧ wD N pz Cm tX wH JW Fu a Hm x93 = some r) ?_ ?_))))
 rintro x93 w dD ⟨h, hs⟩
 refine aK hs rfl (fun c94 hs => ?_) (fun c94 hs => ?_)
 refine df (aO (vR (by decide) (aO (bF (az ?_)))))
 replace h := h.Ct 41 25 rfl rfl (by decide)
 replace h := (h.fA 10).moveC 42 10 rfl rfl (by decide)
 replace h := (h.fA 11).moveC 43 11 rfl rfl (by decide)
 replace h := (h.fA 12).moveC 44 12 rfl rfl (by decide)
 replace h := (h.fA 13).moveC 45 13 rfl rfl (by decide)
 exact bS (v62, pz, Cm, v65, Ho, tX, v68, Hq, wH, JW, Fu) ⟨h.cn _, hs⟩
 refine aG (aa (ai (ag (ae (dz (vs := [v65, v68, (.int .i64 (JW)), (.int .i64 (Fu))]) h 4 rfl cZ rfl rfl rfl) ?_))))
 obtain ⟨y95, e96, hs⟩ := aP hs
 refine bA Jw rfl rfl (AY _ BE (fun _ h => h.elim) (⟨tX, wH, JW, Fu⟩ : LX.State) v65 v68 (h.Jm (N := aB) (R' := gu) 42 43 rfl rfl (by decide) rfl AA) (h.Jm (N := (aU Val)) (R' := (qV aL)) 44 45 rfl rfl (by decide) rfl Fe) _ e96) ?_
 rintro _ w ⟨k103, Rw, Vn, M8, Gx, rfl, WA, h102⟩
 refine ⟨_, rfl, ?_⟩
 replace h := h.U3 48 (C := (.two (.two (.two (.own aB.raw 49 Rw (List.zip y95.frames M8)) (.bL (aR aL 51 hn M8 (List.map aB.sub y95.frames)))) (.own (aU Val).raw 47 Vn (List.zip y95.cells Gx))) (.bL (aR aL 51 hn Gx (List.map (aU Val).sub y95.cells))) : Chunk)) k103 ⟨⟨⟨trivial, trivial⟩, trivial⟩, trivial⟩ ⟨⟨⟨(fun _ _ _ _ _ h => h), (AJ (fun _ _ _ _ _ h => h))⟩, (fun _ _ _ _ _ h => h)⟩, (AJ (fun _ _ _ _ _ h => h))⟩ WA h102
 replace h := h.bX 48 51 (by decide) rfl rfl
 replace h := h.bX 48 50 (by decide) rfl rfl
 replace h := h.bX 48 49 (by decide) rfl rfl
 refine bW h 52 cZ fun w Uw h => dA (vs := [Rw, Vn, (.int .i64 (y95.status)), (.int .i64 (y95.aV))]) h 52 [Rw, Vn, (.int .i64 (y95.status)), (.int .i64 (y95.aV))] rfl cZ rfl rfl rfl rfl rfl (ax (h.dG 48 rfl).one (ax (h.dG 50 rfl).one (ax rfl (ax rfl bu)))) fun w h => ah (aa (ai (ag (ae (au (v := va) rfl) ?_))))
 replace h := h.pair 52 48 (by decide)
 replace h := h.pair 52 49 (by decide)
 replace h := h.pair 52 50 (by decide)
 replace h := h.pair 52 51 (by decide)
 obtain ⟨aah, aai, aaj⟩ := h.vT 52 (C := (.two (.two (.two (.two (.blk Uw [Rw, Vn, (.int .i64 (y95.status)), (.int .i64 (y95.aV))]) (.own aB.raw 49 Rw (List.zip y95.frames M8))) (.bL (aR aL 51 hn M8 (List.map aB.sub y95.frames)))) (.own (aU Val).raw 47 Vn (List.zip y95.cells Gx))) (.bL (aR aL 51 hn Gx (List.map (aU Val).sub y95.cells))) : Chunk)) rfl ⟨⟨⟨⟨trivial, trivial⟩, trivial⟩, trivial⟩, trivial⟩
 obtain ⟨gq, e107, hs⟩ := aP hs
 refine bA V4 rfl rfl (Pm N _ _ aaj Uw y95 Rw Vn M8 Gx aah aai va a (h.Ny 52 1 rfl rfl) _ e107) ?_
 rintro _ w ⟨k112, JX, Ad, IJ, IK, rfl, h113, h114⟩
 refine ⟨_, rfl, ?_⟩
 replace h := h.back 52 (C := (.two (.two (.two (.two (.blk Uw [Rw, Vn, (.int .i64 (y95.status)), (.int .i64 (y95.aV))]) (.own aB.raw 49 Rw (List.zip y95.frames M8))) (.bL (aR aL 51 hn M8 (List.map aB.sub y95.frames)))) (.own (aU Val).raw 47 Vn (List.zip y95.cells Gx))) (.bL (aR aL 51 hn Gx (List.map (aU Val).sub y95.cells))) : Chunk)) (C' := (.two (.two (.two (.two (.blk Uw [JX, Ad, (.int .i64 (gq.2.2.status)), (.int .i64 (gq.2.2.aV))]) (.own aB.raw 49 JX (List.zip gq.2.2.frames IJ))) (.bL (aR aL 51 hn IJ (List.map aB.sub gq.2.2.frames)))) (.own (aU Val).raw 47 Ad (List.zip gq.2.2.cells IK))) (.bL (aR aL 51 hn IK (List.map (aU Val).sub gq.2.2.cells))) : Chunk)) rfl ⟨⟨⟨⟨trivial, trivial⟩, trivial⟩, trivial⟩, trivial⟩ h113 k112 h114
 replace h := h.bX 52 51 (by decide) rfl rfl
 replace h := h.bX 52 50 (by decide) rfl rfl
 replace h := h.bX 52 49 (by decide) rfl rfl
 replace h := h.bX 52 48 (by decide) rfl rfl
 refine ae (au (v := (.tuple #[(.agg #[(.bool (gq.1.said)), (.int .i64 (gq.1.n)), (.bool (gq.1.Dx))]), (.bool (gq.2.1))])) rfl) (ae (bB rfl rfl) (ae (bB rfl rfl) (bW h 53 fP fun w ZK h => dA (vs := [(.bool (gq.1.said)), (.int .i64 (gq.1.n)), (.bool (gq.1.Dx))]) h 53 [(.bool (gq.1.said)), (.int .i64 (gq.1.n)), (.bool (gq.1.Dx))] rfl fP rfl rfl rfl rfl rfl (ax rfl (ax rfl (ax rfl bu))) fun w h => ae (aj (v := (.bool (gq.2.1))) rfl) (ah (aa (ai (ag (ae (au (v := (.int .i64 (Cm))) rfl) ?_))))))))
 obtain ⟨a116, hs⟩ := bI hs
 refine ae (dC rfl rfl a116) (ae (aj (v := (.int .i64 ((Cm + 1)))) rfl) (ah (aa (ai (ai (ag (ae (au (v := (.bool (gq.2.1))) rfl) (ae (gP rfl) (ah (aa (aK hs rfl (fun c117 hs => ?_) (fun c117 hs => ?_))))))))))))
 refine ai (ag (ae (ak oM rfl) (fw h 4 [v65, v68, (.int .i64 (2)), (.int .i64 (Fu))] rfl bz rfl rfl rfl rfl rfl fun w h => ah (aa (df (aO (vR (by decide) (aO (bF (az ?_))))))))))
 replace h := h.Ct 41 25 rfl rfl (by decide)
 replace h := (h.fA 10).moveC 42 10 rfl rfl (by decide)
 replace h := (h.fA 11).moveC 43 11 rfl rfl (by decide)
 replace h := (h.fA 12).moveC 44 12 rfl rfl (by decide)
 replace h := (h.fA 13).moveC 45 13 rfl rfl (by decide)
 exact bS (v62, pz, (Cm + 1), v65, Ho, tX, v68, Hq, wH, 2, Fu) ⟨h.cn _, hs⟩
 refine aG (aa (bY (σ := Value × List Int) (inl [11, 82, 83, 84, 85, 86, 87, 88, 89]) (fun ⟨PH, JV⟩ => [(11, PH)]) (fun ⟨PH, JV⟩ w => SH w0 M BE w (hset [(1, .rd j4 va a), (4, .blk b1 [JX, Ad, (.int .i64 (gq.2.2.status)), (.int .i64 (gq.2.2.aV))]), (5, .blk b2 [(.slice none 0 0), (.slice none 0 0), (.int .i64 (0)), (.int .i64 (0))]), (41, .own fH 3 PH JV), (48, .own aB.raw 49 JX (List.zip gq.2.2.frames IJ)), (49, .bL (aR aL 51 hn IJ (List.map aB.sub gq.2.2.frames))), (50, .own (aU Val).raw 47 Ad (List.zip gq.2.2.cells IK)), (51, .bL (aR aL 51 hn IK (List.map (aU Val).sub gq.2.2.cells))), (53, .blk ZK [(.bool (gq.1.said)), (.int .i64 (gq.1.n)), (.bool (gq.1.Dx))])]) ∧ wC gq Cm Hm JV = some r) ?_ ?_))
 rintro ⟨PH, JV⟩ w dD ⟨h, hs⟩
 refine ai (ag (ae (ak FQ rfl) (ae (aF h 53 rfl wI rfl rfl) (ah (aa (aK hs rfl (fun c120 hs => ?_) (fun c120 hs => ?_)))))))
 refine df (vR (by decide) (aO (bF (az ?_))))
 replace h := h.Ct 41 25 rfl rfl (by decide)
 replace h := (h.fA 10).moveC 48 10 rfl rfl (by decide)
 replace h := (h.fA 11).moveC 49 11 rfl rfl (by decide)
 replace h := (h.fA 12).moveC 50 12 rfl rfl (by decide)
 replace h := (h.fA 13).moveC 51 13 rfl rfl (by decide)
 exact bS (PH, JV, (Cm + 1), JX, IJ, gq.2.2.frames, Ad, IK, gq.2.2.cells, gq.2.2.status, gq.2.2.aV) ⟨h.cn _, hs⟩
 refine aG (aA (az ?_))
 replace h := (h.fA 42).moveC 48 42 rfl rfl (by decide)
 replace h := (h.fA 43).moveC 49 43 rfl rfl (by decide)
 replace h := (h.fA 44).moveC 50 44 rfl rfl (by decide)
 replace h := (h.fA 45).moveC 51 45 rfl rfl (by decide)
 subst aag
 exact jN ⟨aaf, PH, JV, (Cm + 1), JX, IJ, gq.2.2.frames, Ad, IK, gq.2.2.cells, gq.2.2.status, gq.2.2.aV⟩ ⟨h.cn _, hs⟩
 refine ai (ag (ae (dz (vs := [JX, Ad, (.int .i64 (gq.2.2.status)), (.int .i64 (gq.2.2.aV))]) h 52 rfl cZ rfl rfl rfl) (dA (vs := [JX, Ad, (.int .i64 (gq.2.2.status)), (.int .i64 (gq.2.2.aV))]) h 4 [JX, Ad, (.int .i64 (gq.2.2.status)), (.int .i64 (gq.2.2.aV))] rfl cZ rfl rfl rfl rfl rfl (ax (h.dG 48 rfl).one (ax (h.dG 50 rfl).one (ax rfl (ax rfl bu)))) fun w h => ah (aa (ai (ag (ae (ak QK rfl) (ae (aF h 53 rfl wI rfl rfl) (ah (aa (aK hs rfl (fun c121 hs => ?_) (fun c121 hs => ?_))))))))))))
 refine ag (ae (au (v := v62) rfl) (ae (ak QL rfl) (ae (aF h 53 rfl bz rfl rfl) (sZ (R := fH) (vs := [(.int .i64 (gq.1.n))]) (xs := [gq.1.n]) h 54 kg rfl rfl rfl ⟨rfl, trivial⟩ rfl fun w u122 h => ?_))))
 obtain ⟨aak, hs⟩ := bI hs
 refine mf (R := fH) (m := [gq.1.n]) h 41 rfl (h.ed 54 rfl) kg rfl rfl rfl aak.1 aak.2 fun w u124 h => ae (aj (v := u124) rfl) (ah (az ?_))
 exact bS (u124, (pz ++ [gq.1.n])) ⟨h.cn _, hs⟩
 refine aG (az ?_)
 exact bS (v62, pz) ⟨h.cn _, hs⟩
 refine zK mixed (by kernel_rfl) h fun w h => aN (au (v := v62) rfl) (aN (bU dh rfl (h.ed 41 rfl)) (aN (bH rfl rfl) (aN (au (v := (.bool (decide (((pz.length : Int) : Int) = 40)))) rfl) (jH (b := decide (((pz.length : Int) : Int) = 40)) hs (fun qQ hs => ?_) (fun qQ hs => ?_)))))
 refine iK rfl (congrArg Value.bool qQ) (aN (au (v := va) rfl) (iK rfl (congrArg Value.bool qQ) (aN (ak wS rfl) (iK rfl (congrArg Value.bool qQ) (aN (aF h 47 rfl bz rfl rfl) (iK rfl (congrArg Value.bool qQ) ?_))))))
 obtain ⟨F5, e127, hs⟩ := aP hs
 obtain ⟨b129, o130, YX, h, WE, i128⟩ := h.Dl 1 55 rfl jq rfl (aJ e127).1 (aJ e127).2
 obtain ⟨Us, rfl, g134⟩ := nz WE
 replace h := h.cO 56 g134.up
 refine aN (i128 _ _ _ _ _ _ _ _ _ rfl rfl) (iK rfl (congrArg Value.bool qQ) (aN (ak qM rfl) (iK rfl (congrArg Value.bool qQ) (aN (ek (k := 2) h 55 rfl zq rfl rfl) (iK rfl (congrArg Value.bool qQ) (aN (ak tV rfl) (iK rfl (congrArg Value.bool qQ) (aN (aF h 47 rfl bz rfl rfl) (iK rfl (congrArg Value.bool qQ) ?_)))))))))
 obtain ⟨Ut, aal, hs⟩ := aP hs
 obtain ⟨b138, o139, ZN, h, r141, i137⟩ := h.Dl 56 57 rfl jf rfl (aJ aal).1 (aJ aal).2
 obtain ⟨u142, rfl, g143⟩ := Az r141
 replace h := h.cO 58 g143.up
 refine aN (i137 _ _ _ _ _ _ _ _ _ rfl rfl) (iK rfl (congrArg Value.bool qQ) (aN (ak oN rfl) (iK rfl (congrArg Value.bool qQ) (aN (ek (k := 0) h 57 rfl bz rfl rfl) (iK rfl (congrArg Value.bool qQ) (aN (bH rfl rfl) (aN (dL (b := true) (v := (.bool (decide ((Ut.op : Int) = 9)))) (congrArg Value.bool qQ) rfl) (yH ?_))))))))
 replace h := h.iL 43 46 rfl rfl (by decide) (aJ X7).2 WZ rfl
 refine az ?_
 exact bS (decide ((Ut.op : Int) = 9)) ⟨h.cn _, hs⟩
 refine fU (b' := false) rfl (congrArg Value.bool qQ) rfl (fU (b' := false) rfl (congrArg Value.bool qQ) rfl (fU (b' := false) rfl (congrArg Value.bool qQ) rfl (fU (b' := false) rfl (congrArg Value.bool qQ) rfl (fU (b' := false) rfl (congrArg Value.bool qQ) rfl (fU (b' := false) rfl (congrArg Value.bool qQ) rfl (fU (b' := false) rfl (congrArg Value.bool qQ) rfl (fU (b' := false) rfl (congrArg Value.bool qQ) rfl (fU (b' := false) rfl (congrArg Value.bool qQ) rfl (fU (b' := false) rfl (congrArg Value.bool qQ) rfl (fU (b' := false) rfl (congrArg Value.bool qQ) rfl (fU (b' := false) rfl (congrArg Value.bool qQ) rfl (aN (dL (b := false) (v := (.bool (false))) (congrArg Value.bool qQ) rfl) (yH ?_)))))))))))))
 replace h := h.iL 43 46 rfl rfl (by decide) (aJ X7).2 WZ rfl
 refine az ?_
 exact bS false ⟨h.cn _, hs⟩
 refine df (aO (aO (bF (az ?_))))
 replace h := h.Ct 41 25 rfl rfl (by decide)
 replace h := (h.fA 10).moveC 42 10 rfl rfl (by decide)
 replace h := (h.fA 11).moveC 43 11 rfl rfl (by decide)
 replace h := (h.fA 12).moveC 44 12 rfl rfl (by decide)
 replace h := (h.fA 13).moveC 45 13 rfl rfl (by decide)
 exact bS (v62, pz, Cm, v65, Ho, tX, v68, Hq, wH, JW, Fu) ⟨h.cn _, hs⟩
def NU (a : List cz) (b : LX.State) : Option (LX.State × Int) :=
  (wu a b).bind fun y3 => bif decide ((y3 : Int) ≠ 0) then some ((⟨[], [], 0, 0⟩ : LX.State), y3) else bif decide ((b.status : Int) ≠ 3) then some ((⟨[], [], 0, 0⟩ : LX.State), 7) else (zf b).bind fun y8 => some ((⟨y8.frames, y8.cells, 0, 0⟩ : LX.State), 0)
theorem PI (w0 : World) (M : BS) (hM : ∀ b, M b → b < w0.heap.size) (va : Value) (a : List cz) (ha : gp j4 w0 BE M va a) (b : LX.State) (vb0 vb1 : Value) (hb0 : gp gu w0 BE M vb0 b.frames) (hb1 : gp (qV aL) w0 BE M vb1 b.cells) (r : LX.State × Int) (hs : NU a b = some r) :
    Calls Tryz.prog 30 #[va, (.agg #[vb0, vb1, (.int .i64 (b.status)), (.int .i64 (b.aV))])] w0 (fun e w' => Grow w0 w' ∧ ∃ wm, ∃ zC, e = .returned (.tuple #[.agg #[wm, zC, .int .i64 r.1.status, .int .i64 r.1.aV], .int .i64 r.2]) ∧ fo gu w' M wm r.1.frames ∧ fo (qV aL) w' M zC r.1.cells) := by
 refine aQ (args := [va, (.agg #[vb0, vb1, (.int .i64 (b.status)), (.int .i64 (b.aV))])]) Tryz.func30 rfl Tryz.ntmps30 (Nat.le_of_ble_eq_true rfl) ?_
 have h := SH.init hM
 replace h := h.fC 1 ha bJ
 replace h := h.fC 2 hb0 (di bJ)
 replace h := h.fC 3 hb1 (di (di bJ))
 have uu := ha.bZ
 refine ai (ag (nX (cs := [vb0, vb1, (.int .i64 (b.status)), (.int .i64 (b.aV))]) h 4 rfl rfl fun w b1 h => bW h 5 cZ fun w b2 h => ae (aj (v := (.int .i64 (0))) rfl) (ah (aa (ai (ai (ag (ae (au (v := va) rfl) (ae (dz (vs := [vb0, vb1, (.int .i64 (b.status)), (.int .i64 (b.aV))]) h 4 rfl cZ rfl rfl rfl) ?_)))))))))
 obtain ⟨y3, e4, hs⟩ := aP hs
 refine bA Jv rfl rfl (za _ _ h.lt va a (h.iw 1 rfl) b vb0 vb1 (h.iw 2 rfl) (h.iw 3 rfl) _ e4) ?_
 rintro _ w ⟨k5, rfl⟩
 refine ⟨_, rfl, ?_⟩
 replace h := h.grow k5
 refine ae (aj (v := (.int .i64 (y3))) rfl) (ah (aa (ai (ag (ae (au (v := (.int .i64 (y3))) rfl) (ae (iA rfl rfl) (ah (aa (aK hs rfl (fun c6 hs => ?_) (fun c6 hs => ?_))))))))))
 refine ai (ag (ae (dO (pv := []) (out := [(.slice none 0 0), (.slice none 0 0), (.int .i64 (0)), (.int .i64 (0))]) vV rfl rfl) (ae (au (v := (.int .i64 (y3))) rfl) (dA (vs := [(.slice none 0 0), (.slice none 0 0), (.int .i64 (0)), (.int .i64 (0))]) h 5 [(.slice none 0 0), (.slice none 0 0), (.int .i64 (0)), (.int .i64 (0))] rfl cZ rfl rfl rfl rfl rfl (ax rfl (ax rfl (ax rfl (ax rfl bu)))) fun w h => ae (aj (v := (.int .i64 (y3))) rfl) (ah (aa (aI (aC (jO (vs := [(.slice none 0 0), (.slice none 0 0), (.int .i64 (0)), (.int .i64 (0))]) (v2 := (.int .i64 (y3))) Tryz.results30 rfl rfl h 5 rfl cZ rfl ?_)))))))))
 obtain rfl := Option.some.inj hs
 exact ⟨h.grown, _, _, rfl, gp.nil, gp.nil⟩
 refine aG (aa (ai (ai (ag (ae (ak oM rfl) (ae (aF h 4 rfl bz rfl rfl) (ae (iA rfl rfl) (ah (aa (aK hs rfl (fun c7 hs => ?_) (fun c7 hs => ?_)))))))))))
 refine ai (ag (ae (dO (pv := []) (out := [(.slice none 0 0), (.slice none 0 0), (.int .i64 (0)), (.int .i64 (0))]) vV rfl rfl) (dA (vs := [(.slice none 0 0), (.slice none 0 0), (.int .i64 (0)), (.int .i64 (0))]) h 5 [(.slice none 0 0), (.slice none 0 0), (.int .i64 (0)), (.int .i64 (0))] rfl cZ rfl rfl rfl rfl rfl (ax rfl (ax rfl (ax rfl (ax rfl bu)))) fun w h => ae (aj (v := (.int .i64 (7))) rfl) (ah (aa (aI (aC (jO (vs := [(.slice none 0 0), (.slice none 0 0), (.int .i64 (0)), (.int .i64 (0))]) (v2 := (.int .i64 (7))) Tryz.results30 rfl rfl h 5 rfl cZ rfl ?_))))))))
 obtain rfl := Option.some.inj hs
 exact ⟨h.grown, _, _, rfl, gp.nil, gp.nil⟩
 refine aG (aa (ai (ag (ae (dz (vs := [vb0, vb1, (.int .i64 (b.status)), (.int .i64 (b.aV))]) h 4 rfl cZ rfl rfl rfl) ?_))))
 obtain ⟨y8, e9, hs⟩ := aP hs
 refine bA Jw rfl rfl (AY _ _ h.lt b vb0 vb1 (h.iw 2 rfl) (h.iw 3 rfl) _ e9) ?_
 rintro _ w ⟨k16, Ux, Tf, DU, aam, rfl, h14, h15⟩
 refine ⟨_, rfl, ?_⟩
 replace h := h.LY 6 (C := (.two (.two (.two (.own aB.raw 49 Ux (List.zip y8.frames DU)) (.bL (aR aL 51 hn DU (List.map aB.sub y8.frames)))) (.own (aU Val).raw 47 Tf (List.zip y8.cells aam))) (.bL (aR aL 51 hn aam (List.map (aU Val).sub y8.cells))) : Chunk)) k16 ⟨⟨⟨trivial, trivial⟩, trivial⟩, trivial⟩ h14 h15
 replace h := h.bX 6 9 (by decide) rfl rfl
 replace h := h.bX 6 8 (by decide) rfl rfl
 replace h := h.bX 6 7 (by decide) rfl rfl
 refine dA (vs := [Ux, Tf, (.int .i64 (y8.status)), (.int .i64 (y8.aV))]) h 4 [Ux, Tf, (.int .i64 (y8.status)), (.int .i64 (y8.aV))] rfl cZ rfl rfl rfl rfl rfl (ax (h.dG 6 rfl).one (ax (h.dG 8 rfl).one (ax rfl (ax rfl bu)))) fun w h => ah (aa (ai (ag (ae (ak oM rfl) (fw h 4 [Ux, Tf, (.int .i64 (0)), (.int .i64 (y8.aV))] rfl bz rfl rfl rfl rfl rfl fun w h => ae (ak yO rfl) (fw h 4 [Ux, Tf, (.int .i64 (0)), (.int .i64 (0))] rfl bz rfl rfl rfl rfl rfl fun w h => ah (aa (ai (ag (ae (dz (vs := [Ux, Tf, (.int .i64 (0)), (.int .i64 (0))]) h 4 rfl cZ rfl rfl rfl) (dA (vs := [Ux, Tf, (.int .i64 (0)), (.int .i64 (0))]) h 5 [Ux, Tf, (.int .i64 (0)), (.int .i64 (0))] rfl cZ rfl rfl rfl rfl rfl (ax (h.dG 6 rfl).one (ax (h.dG 8 rfl).one (ax rfl (ax rfl bu)))) fun w h => ae (aj (v := (.int .i64 (0))) rfl) (ah (aa (aI (jO (vs := [Ux, Tf, (.int .i64 (0)), (.int .i64 (0))]) (v2 := (.int .i64 (0))) Tryz.results30 rfl rfl h 5 rfl cZ rfl ?_)))))))))))))))
 replace h := h.zP (N := aB) (R' := gu) 6 7 rfl rfl (by decide) rfl AA
 replace h := h.zP (N := (aU Val)) (R' := (qV aL)) 8 9 rfl rfl (by decide) rfl Fe
 obtain rfl := Option.some.inj hs
 exact ⟨h.grown, _, _, rfl, h.Qj 6 rfl, h.Qj 8 rfl⟩
def qx (a : List Int) (b : List Int) (i3 : Int) (s : Unit) (EX : Unit → Option Bool) : Option Bool :=
  (idx a i3).bind fun x9 => (idx b i3).bind fun l9 => bif decide ((x9 : Int) ≠ l9) then some false else EX ()
def qy (s : Unit) : Option Bool :=
  some true
def slices_Equal_int (a : List Int) (b : List Int) : Option Bool :=
  bif decide (((a.length : Int) : Int) ≠ (b.length : Int)) then some false else upto (qx a b) qy 0 ((a.length : Int)).toNat ()
theorem wE (w0 : World) (M : BS) (hM : ∀ b, M b → b < w0.heap.size) (va : Value) (a : List Int) (ha : gp fH w0 BE M va a) (vb : Value) (b : List Int) (hb : gp fH w0 BE M vb b) (r : Bool) (hs : slices_Equal_int a b = some r) :
    Calls Tryz.prog 18 #[va, vb] w0 (fun e w' => Grow w0 w' ∧ e = .returned (.bool r)) := by
 refine aQ (args := [va, vb]) Tryz.func18 rfl Tryz.ntmps18 (Nat.le_of_ble_eq_true rfl) ?_
 have h := SH.init hM
 replace h := h.fC 1 ha bJ
 replace h := h.fC 2 hb (di bJ)
 have uu := ha.bZ
 have JA := hb.bZ
 refine ai (ag (ae (aj (v := (.bool (false))) rfl) (ah (aa (ai (ai (ag (ae (au (v := va) rfl) (ae (bU dh rfl (h.iw 1 rfl)) (ae (au (v := vb) rfl) (ae (bU dh rfl (h.iw 2 rfl)) (ae (iA rfl rfl) (ah (aa (aK hs rfl (fun c1 hs => ?_) (fun c1 hs => ?_))))))))))))))))
 refine ai (ag (ae (aj (v := (.bool (false))) rfl) (ah (aa (aI (aC (bV (v := (.bool (false))) Tryz.results18 rfl ?_)))))))
 obtain rfl := Option.some.inj hs
 exact ⟨h.grown, rfl⟩
 refine aG (aa (ai (ai (ag (ae (au (v := va) rfl) (ae (bU dh rfl (h.iw 1 rfl)) (ae (au (v := (.int .i64 (0))) rfl) (ah (aa (aT ?_))))))))))
 have Xm := (h.iw 1 rfl).bZ
 refine gL (σ := Nat × Int) (inl [4, 5, 13, 14, 15, 16, 17, 18, 19, 20, 21, 22, 23, 24, 25]) (fun ⟨k2, i3⟩ => [(13, (.int .i64 (i3)))]) (fun ⟨k2, i3⟩ w => SH w0 M BE w (hset [(1, .sr fH va a), (2, .sr fH vb b)]) ∧ i3 = (k2 : Int) ∧ upto (qx a b) qy i3 (((a.length : Int)).toNat - k2) () = some r) (fun ⟨k2, i3⟩ => ((a.length : Int)).toNat - k2) ⟨0, 0⟩ ⟨rfl, trivial⟩ ?_ ?_
 exact ⟨h.cn _, rfl, hs⟩
 rintro ⟨k2, i3⟩ w dD ⟨h, hik, hs⟩
 refine ai (ag ?_)
 refine ae (dS rfl rfl) (ah (aa ?_))
 refine ai (iy rfl (fun e7 => ?_) (fun e7 => ?_))
 refine aG (aa ?_)
 rw [tO (by have := of_decide_eq_true e7; omega)] at hs
 generalize FW : upto (qx a b) qy (i3 + 1) (((a.length : Int)).toNat - (k2 + 1)) = EX at hs
 have Q3 : jB (i3 + 1) := (by have := of_decide_eq_true e7; have := Xm; exact jB.mk (by omega) (by omega))
 refine ai (aT (ai (ag (ae (au (v := (.int .i64 (i3))) rfl) (ae (aj (v := (.int .i64 (i3))) rfl) (ah (aa (ai (zK mixed (by kernel_rfl) h fun w h => aN (au (v := va) rfl) (aN (au (v := (.int .i64 (i3))) rfl) ?_))))))))))
 obtain ⟨x9, e10, hs⟩ := aP hs
 obtain ⟨b12, o13, Zp, h, WX, i11⟩ := h.yE 1 3 rfl dh rfl (aJ e10).1 (aJ e10).2
 obtain rfl := WX
 refine aN (i11 _ _ _ _ _ _ _ _ _ rfl rfl) (aN (ek (k := 0) h 3 rfl bz rfl rfl) (aN (au (v := vb) rfl) (aN (au (v := (.int .i64 (i3))) rfl) ?_)))
 obtain ⟨l9, e17, hs⟩ := aP hs
 obtain ⟨b19, o20, Xa, h, Xb, i18⟩ := h.yE 2 4 rfl dh rfl (aJ e17).1 (aJ e17).2
 obtain rfl := Xb
 refine aN (i18 _ _ _ _ _ _ _ _ _ rfl rfl) (aN (ek (k := 0) h 4 rfl bz rfl rfl) (aN (iA rfl rfl) (yH (aa (aK hs rfl (fun c23 hs => ?_) (fun c23 hs => ?_))))))
 refine ai (ag (ae (aj (v := (.bool (false))) rfl) (ah (aa (aI (aH (aC (aC (aH (aC (bV (v := (.bool (false))) Tryz.results18 rfl ?_)))))))))))
 obtain rfl := Option.some.inj hs
 exact ⟨h.grown, rfl⟩
 refine aG (aA (aa (ag (ae (dC rfl rfl Q3) (ae (au (v := (.int .i64 ((i3 + 1)))) rfl) (ah (az ?_)))))))
 subst FW
 exact jN ⟨k2 + 1, i3 + 1⟩ ⟨h.cn _, by omega, hs⟩ (by have := of_decide_eq_true e7; dsimp only; omega)
 rw [tQ (by have := of_decide_eq_false e7; omega)] at hs
 refine df (aO (aO (bF (aa (ai (ag (ae (aj (v := (.bool (true))) rfl) (ah (aa (aI (bV (v := (.bool (true))) Tryz.results18 rfl ?_)))))))))))
 obtain rfl := Option.some.inj hs
 exact ⟨h.grown, rfl⟩
def oo (N : Nat) : Option Bool :=
  (jS N).bind fun y1 => (wU N y1).bind fun y7 => (RJ y7).bind fun y13 => (Aj N y7 y13.1 100).bind fun y21 => (NU y7 y21.1).bind fun y31 => (Aj N y7 y31.1 1).bind fun y38 => (Aj N y7 y38.1 100).bind fun sQ => bif ((((decide ((y13.2 : Int) = 0) && decide ((y21.2.2.2 : Int) = 0)) && decide ((y31.2 : Int) = 0)) && decide ((y38.2.2.2 : Int) = 0)) && decide ((sQ.2.2.2 : Int) = 0)) then (slices_Equal_int y21.2.1 [9]).bind fun Xn => bif ((Xn && decide (((y38.2.1.length : Int) : Int) = 0)) && decide ((y38.2.2.1 : Int) = 1)) then (slices_Equal_int sQ.2.1 [4]).bind fun KP => bif KP then (wu y7 y38.1).bind fun wH => some (decide ((wH : Int) = 0)) else some false else some false else some false
theorem wV (N : Nat) (w0 : World) (M : BS) (hM : ∀ b, M b → b < w0.heap.size) (hT : uh Tryz.prog 4 w0)  (r : Bool) (hs : oo N = some r) :
    Calls Tryz.prog 26 #[] w0 (fun e w' => Grow w0 w' ∧ e = .returned (.bool r)) := by
 refine aQ (args := []) Tryz.func26 rfl Tryz.ntmps26 (Nat.le_of_ble_eq_true rfl) ?_
 have h := SH.init hM
 refine ai (ag (ae (aj (v := (.bool (false))) rfl) (ah (aa (ai (ag ?_))))))
 obtain ⟨y1, e2, hs⟩ := aP hs
 refine bA VU rfl rfl (zA N _ _ h.lt (hT.go h.keep)  _ e2) ?_
 rintro _ w ⟨k6, u3, rfl, g4, g5⟩
 refine ⟨_, rfl, ?_⟩
 replace h := h.jM 1 k6 g4 g5
 obtain ⟨y7, e8, hs⟩ := aP hs
 refine bA VT rfl rfl (Bj N _ _ h.lt u3 y1 (h.ed 1 rfl) _ e8) ?_
 rintro _ w ⟨k12, u9, rfl, g10, g11⟩
 refine ⟨_, rfl, ?_⟩
 replace h := h.jM 2 k12 g10 g11
 refine ae (aj (v := u9) rfl) (ah (aa (ai (ag (ae (au (v := u9) rfl) ?_)))))
 obtain ⟨y13, e14, hs⟩ := aP hs
 refine bA VR rfl rfl (RL _ _ h.lt u9 y7 (h.ed 2 rfl) _ e14) ?_
 rintro _ w ⟨k19, EY, Fj, rfl, g16, g18⟩
 refine ⟨_, rfl, ?_⟩
 replace h := h.Hy 3 k19 g16
 replace h := h.cO 4 g18.up
 refine ae (au (v := (.tuple #[(.agg #[EY, Fj, (.int .i64 (y13.1.status)), (.int .i64 (y13.1.aV))]), (.int .i64 (y13.2))])) rfl) (ae (bB rfl rfl) (ae (bB rfl rfl) (bW h 5 cZ fun w b20 h => dA (vs := [EY, Fj, (.int .i64 (y13.1.status)), (.int .i64 (y13.1.aV))]) h 5 [EY, Fj, (.int .i64 (y13.1.status)), (.int .i64 (y13.1.aV))] rfl cZ rfl rfl rfl rfl rfl (ax (h.gF 3 rfl).one (ax (h.gF 4 rfl).one (ax rfl (ax rfl bu)))) fun w h => ae (aj (v := (.int .i64 (y13.2))) rfl) (ah (aa (ai (ag (ae (au (v := u9) rfl) (ae (dz (vs := [EY, Fj, (.int .i64 (y13.1.status)), (.int .i64 (y13.1.aV))]) h 5 rfl cZ rfl rfl rfl) ?_)))))))))
 replace h := h.freeze 2 rfl
 obtain ⟨y21, e22, hs⟩ := aP hs
 refine bA FR rfl rfl (Ak N _ _ h.lt u9 y7 (h.gF 2 rfl) y13.1 EY Fj (h.lY 3 rfl) (h.lY 4 rfl) 100 _ e22) ?_
 rintro _ w ⟨YF, u23, u25, u27, rfl, g24, WQ, Y7, g29⟩
 refine ⟨_, rfl, ?_⟩
 replace h := h.jM 8 YF Y7 g29
 replace h := h.cO 6 g24.Td
 replace h := h.cO 7 WQ.Td.up
 refine ae (au (v := (.tuple #[(.agg #[u23, u25, (.int .i64 (y21.1.status)), (.int .i64 (y21.1.aV))]), u27, (.int .i64 (y21.2.2.1)), (.int .i64 (y21.2.2.2))])) rfl) (ae (bB rfl rfl) (ae (bB rfl rfl) (ae (bB rfl rfl) (ae (bB rfl rfl) (dA (vs := [u23, u25, (.int .i64 (y21.1.status)), (.int .i64 (y21.1.aV))]) h 5 [u23, u25, (.int .i64 (y21.1.status)), (.int .i64 (y21.1.aV))] rfl cZ rfl rfl rfl rfl rfl (ax (h.gF 6 rfl).one (ax (h.gF 7 rfl).one (ax rfl (ax rfl bu)))) fun w h => ae (aj (v := u27) rfl) (ae (aj (v := (.int .i64 (y21.2.2.1))) rfl) (ae (aj (v := (.int .i64 (y21.2.2.2))) rfl) (ah (aa (ai (ag (ae (au (v := u9) rfl) (ae (dz (vs := [u23, u25, (.int .i64 (y21.1.status)), (.int .i64 (y21.1.aV))]) h 5 rfl cZ rfl rfl rfl) ?_)))))))))))))
 obtain ⟨y31, e32, hs⟩ := aP hs
 refine bA VS rfl rfl (PI _ _ h.lt u9 y7 (h.lY 2 rfl) y21.1 u23 u25 (h.lY 6 rfl) (h.lY 7 rfl) _ e32) ?_
 rintro _ w ⟨k37, u33, u35, rfl, YJ, g36⟩
 refine ⟨_, rfl, ?_⟩
 replace h := h.Hy 9 k37 YJ
 replace h := h.cO 10 g36.up
 refine ae (au (v := (.tuple #[(.agg #[u33, u35, (.int .i64 (y31.1.status)), (.int .i64 (y31.1.aV))]), (.int .i64 (y31.2))])) rfl) (ae (bB rfl rfl) (ae (bB rfl rfl) (dA (vs := [u33, u35, (.int .i64 (y31.1.status)), (.int .i64 (y31.1.aV))]) h 5 [u33, u35, (.int .i64 (y31.1.status)), (.int .i64 (y31.1.aV))] rfl cZ rfl rfl rfl rfl rfl (ax (h.gF 9 rfl).one (ax (h.gF 10 rfl).one (ax rfl (ax rfl bu)))) fun w h => ae (aj (v := (.int .i64 (y31.2))) rfl) (ah (aa (ai (ag (ae (au (v := u9) rfl) (ae (dz (vs := [u33, u35, (.int .i64 (y31.1.status)), (.int .i64 (y31.1.aV))]) h 5 rfl cZ rfl rfl rfl) ?_)))))))))
 obtain ⟨y38, e39, hs⟩ := aP hs
 refine bA FR rfl rfl (Ak N _ _ h.lt u9 y7 (h.gF 2 rfl) y31.1 u33 u35 (h.lY 9 rfl) (h.lY 10 rfl) 1 _ e39) ?_
 rintro _ w ⟨k47, u40, u42, u44, rfl, g41, g43, g45, g46⟩
 refine ⟨_, rfl, ?_⟩
 replace h := h.jM 13 k47 g45 g46
 replace h := h.cO 11 g41.Td
 replace h := h.cO 12 g43.Td.up
 refine ae (au (v := (.tuple #[(.agg #[u40, u42, (.int .i64 (y38.1.status)), (.int .i64 (y38.1.aV))]), u44, (.int .i64 (y38.2.2.1)), (.int .i64 (y38.2.2.2))])) rfl) (ae (bB rfl rfl) (ae (bB rfl rfl) (ae (bB rfl rfl) (ae (bB rfl rfl) (dA (vs := [u40, u42, (.int .i64 (y38.1.status)), (.int .i64 (y38.1.aV))]) h 5 [u40, u42, (.int .i64 (y38.1.status)), (.int .i64 (y38.1.aV))] rfl cZ rfl rfl rfl rfl rfl (ax (h.gF 11 rfl).one (ax (h.gF 12 rfl).one (ax rfl (ax rfl bu)))) fun w h => ae (aj (v := u44) rfl) (ae (aj (v := (.int .i64 (y38.2.2.1))) rfl) (ae (aj (v := (.int .i64 (y38.2.2.2))) rfl) (ah (aa (ai (ag (ae (au (v := u9) rfl) (ae (dz (vs := [u40, u42, (.int .i64 (y38.1.status)), (.int .i64 (y38.1.aV))]) h 5 rfl cZ rfl rfl rfl) ?_)))))))))))))
 obtain ⟨sQ, e49, hs⟩ := aP hs
 refine bA FR rfl rfl (Ak N _ _ h.lt u9 y7 (h.gF 2 rfl) y38.1 u40 u42 (h.lY 11 rfl) (h.lY 12 rfl) 100 _ e49) ?_
 rintro _ w ⟨k57, u50, U6, RA, rfl, g51, g53, g55, g56⟩
 refine ⟨_, rfl, ?_⟩
 replace h := h.jM 16 k57 g55 g56
 replace h := h.cO 14 g51.Td
 replace h := h.cO 15 g53.Td.up
 refine ae (au (v := (.tuple #[(.agg #[u50, U6, (.int .i64 (sQ.1.status)), (.int .i64 (sQ.1.aV))]), RA, (.int .i64 (sQ.2.2.1)), (.int .i64 (sQ.2.2.2))])) rfl) (ae (bB rfl rfl) (ae (bB rfl rfl) (ae (bB rfl rfl) (ae (bB rfl rfl) (bW h 17 cZ fun w b58 h => dA (vs := [u50, U6, (.int .i64 (sQ.1.status)), (.int .i64 (sQ.1.aV))]) h 17 [u50, U6, (.int .i64 (sQ.1.status)), (.int .i64 (sQ.1.aV))] rfl cZ rfl rfl rfl rfl rfl (ax (h.gF 14 rfl).one (ax (h.gF 15 rfl).one (ax rfl (ax rfl bu)))) fun w h => ae (aj (v := RA) rfl) (ae (aj (v := (.int .i64 (sQ.2.2.1))) rfl) (ae (aj (v := (.int .i64 (sQ.2.2.2))) rfl) (ah (aa (ai (ag (ae (au (v := (.int .i64 (y13.2))) rfl) (ae (bH rfl rfl) (ae (au (v := (.bool (decide ((y13.2 : Int) = 0)))) rfl) (aD rfl rfl (fun q => au (v := (.int .i64 (y21.2.2.2))) rfl) (aD rfl rfl (fun q => bH (dx q) rfl) (ae (fT rfl rfl lQ) (ae (au (v := (.bool ((decide ((y13.2 : Int) = 0) && decide ((y21.2.2.2 : Int) = 0))))) rfl) (aD rfl rfl (fun q => au (v := (.int .i64 (y31.2))) rfl) (aD rfl rfl (fun q => bH (dx q) rfl) (ae (fT rfl rfl lQ) ?_)))))))))))))))))))))
 refine ae (au (v := (.bool (((decide ((y13.2 : Int) = 0) && decide ((y21.2.2.2 : Int) = 0)) && decide ((y31.2 : Int) = 0))))) rfl) (aD rfl rfl (fun q => au (v := (.int .i64 (y38.2.2.2))) rfl) (aD rfl rfl (fun q => bH (dx q) rfl) (ae (fT rfl rfl lQ) (ae (au (v := (.bool ((((decide ((y13.2 : Int) = 0) && decide ((y21.2.2.2 : Int) = 0)) && decide ((y31.2 : Int) = 0)) && decide ((y38.2.2.2 : Int) = 0))))) rfl) (aD rfl rfl (fun q => au (v := (.int .i64 (sQ.2.2.2))) rfl) (aD rfl rfl (fun q => bH (dx q) rfl) (ae (fT rfl rfl lQ) (ae (au (v := (.bool (((((decide ((y13.2 : Int) = 0) && decide ((y21.2.2.2 : Int) = 0)) && decide ((y31.2 : Int) = 0)) && decide ((y38.2.2.2 : Int) = 0)) && decide ((sQ.2.2.2 : Int) = 0))))) rfl) (jH (b := ((((decide ((y13.2 : Int) = 0) && decide ((y21.2.2.2 : Int) = 0)) && decide ((y31.2 : Int) = 0)) && decide ((y38.2.2.2 : Int) = 0)) && decide ((sQ.2.2.2 : Int) = 0))) hs (fun c59 hs => ?_) (fun c59 hs => ?_))))))))))
 refine dn rfl (congrArg Value.bool c59) (ae (au (v := u27) rfl) (dn rfl (congrArg Value.bool c59) (sZ (R := fH) (vs := [(.int .i64 (9))]) (xs := [9]) h 18 kg rfl rfl rfl ⟨rfl, trivial⟩ rfl fun w u60 h => dn rfl (congrArg Value.bool c59) ?_)))
 obtain ⟨Xn, e62, hs⟩ := aP hs
 refine bA QM rfl rfl (wE _ _ h.lt u27 y21.2.1 (h.ed 8 rfl) u60 [9] (h.ed 18 rfl) _ e62) ?_
 rintro _ w ⟨Tg, rfl⟩
 refine ⟨_, rfl, ?_⟩
 replace h := h.grow Tg
 refine ae (dL (b := true) (v := (.bool (Xn))) (congrArg Value.bool c59) rfl) (ae (au (v := (.bool (Xn))) rfl) (aD rfl rfl (fun q => au (v := u44) rfl) (aD rfl rfl (fun q => bU dh (dx q) (h.ed 13 rfl)) (aD rfl rfl (fun q => bH (dx q) rfl) (ae (fT rfl rfl lQ) (ae (au (v := (.bool ((Xn && decide (((y38.2.1.length : Int) : Int) = 0))))) rfl) (aD rfl rfl (fun q => au (v := (.int .i64 (y38.2.2.1))) rfl) (aD rfl rfl (fun q => bH (dx q) rfl) (ae (fT rfl rfl lQ) (ae (au (v := (.bool (((Xn && decide (((y38.2.1.length : Int) : Int) = 0)) && decide ((y38.2.2.1 : Int) = 1))))) rfl) (jH (b := ((Xn && decide (((y38.2.1.length : Int) : Int) = 0)) && decide ((y38.2.2.1 : Int) = 1))) hs (fun c64 hs => ?_) (fun c64 hs => ?_))))))))))))
 refine dn rfl (congrArg Value.bool c64) (ae (au (v := RA) rfl) (dn rfl (congrArg Value.bool c64) (sZ (R := fH) (vs := [(.int .i64 (4))]) (xs := [4]) h 19 kg rfl rfl rfl ⟨rfl, trivial⟩ rfl fun w u65 h => dn rfl (congrArg Value.bool c64) ?_)))
 obtain ⟨KP, WV, hs⟩ := aP hs
 refine bA QM rfl rfl (wE _ _ h.lt RA sQ.2.1 (h.ed 16 rfl) u65 [4] (h.ed 19 rfl) _ WV) ?_
 rintro _ w ⟨k68, rfl⟩
 refine ⟨_, rfl, ?_⟩
 replace h := h.grow k68
 refine ae (dL (b := true) (v := (.bool (KP))) (congrArg Value.bool c64) rfl) (ae (au (v := (.bool (KP))) rfl) (jH (b := KP) hs (fun O7 hs => ?_) (fun O7 hs => ?_)))
 refine dn rfl (congrArg Value.bool O7) (ae (au (v := u9) rfl) (dn rfl (congrArg Value.bool O7) (ae (dz (vs := [u40, u42, (.int .i64 (y38.1.status)), (.int .i64 (y38.1.aV))]) h 5 rfl cZ rfl rfl rfl) (dn rfl (congrArg Value.bool O7) ?_))))
 obtain ⟨wH, RB, hs⟩ := aP hs
 refine bA Jv rfl rfl (za _ _ h.lt u9 y7 (h.lY 2 rfl) y38.1 u40 u42 (h.lY 11 rfl) (h.lY 12 rfl) _ RB) ?_
 rintro _ w ⟨k72, rfl⟩
 refine ⟨_, rfl, ?_⟩
 replace h := h.grow k72
 refine dn rfl (congrArg Value.bool O7) (ae (bH rfl rfl) (ae (dL (b := true) (v := (.bool (decide ((wH : Int) = 0)))) (congrArg Value.bool O7) rfl) (ae (aj (v := (.bool (decide ((wH : Int) = 0)))) rfl) (ah (aa (aI (bV (v := (.bool (decide ((wH : Int) = 0)))) Tryz.results26 rfl ?_)))))))
 obtain rfl := Option.some.inj hs
 exact ⟨h.grown, rfl⟩
 refine bE (b' := false) rfl (congrArg Value.bool O7) rfl (bE (b' := false) rfl (congrArg Value.bool O7) rfl (bE (b' := false) rfl (congrArg Value.bool O7) rfl (bE (b' := false) rfl (congrArg Value.bool O7) rfl (ae (dL (b := false) (v := (.bool (false))) (congrArg Value.bool O7) rfl) (ae (aj (v := (.bool (false))) rfl) (ah (aa (aI (bV (v := (.bool (false))) Tryz.results26 rfl ?_)))))))))
 obtain rfl := Option.some.inj hs
 exact ⟨h.grown, rfl⟩
 refine bE (b' := false) rfl (congrArg Value.bool c64) rfl (bE (b' := false) rfl (congrArg Value.bool c64) rfl (bE (b' := false) rfl (congrArg Value.bool c64) rfl (ae (dL (b := false) (v := (.bool (false))) (congrArg Value.bool c64) rfl) (ae (au (v := (.bool (false))) rfl) (bE (b' := false) rfl rfl rfl (bE (b' := false) rfl rfl rfl (bE (b' := false) rfl rfl rfl (bE (b' := false) rfl rfl rfl (ae (dL (b := false) (v := (.bool (false))) rfl rfl) (ae (aj (v := (.bool (false))) rfl) (ah (aa (aI (bV (v := (.bool (false))) Tryz.results26 rfl ?_))))))))))))))
 obtain rfl := Option.some.inj hs
 exact ⟨h.grown, rfl⟩
 refine bE (b' := false) rfl (congrArg Value.bool c59) rfl (bE (b' := false) rfl (congrArg Value.bool c59) rfl (bE (b' := false) rfl (congrArg Value.bool c59) rfl (ae (dL (b := false) (v := (.bool (false))) (congrArg Value.bool c59) rfl) (ae (au (v := (.bool (false))) rfl) (bE (b' := false) rfl rfl rfl (bE (b' := false) rfl rfl rfl (bE (b' := false) rfl rfl rfl (ae (dL (b := false) (v := (.bool (false))) rfl rfl) (ae (au (v := (.bool (false))) rfl) (bE (b' := false) rfl rfl rfl (bE (b' := false) rfl rfl rfl (ae (dL (b := false) (v := (.bool (false))) rfl rfl) (ae (au (v := (.bool (false))) rfl) (bE (b' := false) rfl rfl rfl (bE (b' := false) rfl rfl rfl (bE (b' := false) rfl rfl rfl (ae (dL (b := false) (v := (.bool (false))) rfl rfl) (ae (au (v := (.bool (false))) rfl) (bE (b' := false) rfl rfl rfl (bE (b' := false) rfl rfl rfl (bE (b' := false) rfl rfl rfl (bE (b' := false) rfl rfl rfl (ae (dL (b := false) (v := (.bool (false))) rfl rfl) ?_)))))))))))))))))))))))
 refine ae (aj (v := (.bool (false))) rfl) (ah (aa (aI (bV (v := (.bool (false))) Tryz.results26 rfl ?_))))
 obtain rfl := Option.some.inj hs
 exact ⟨h.grown, rfl⟩
def lu (a : List Val) (b : List Val) (i3 : Int) (s : Unit) (EX : Unit → Option Bool) : Option Bool :=
  (idx a i3).bind fun x9 => (idx b i3).bind fun l9 => bif !(decide (x9.kind = l9.kind) && decide (x9.n = l9.n)) then some false else EX ()
def oH (s : Unit) : Option Bool :=
  some true
def jw (a : List Val) (b : List Val) : Option Bool :=
  bif decide (((a.length : Int) : Int) ≠ (b.length : Int)) then some false else upto (lu a b) oH 0 ((a.length : Int)).toNat ()
theorem uP (w0 : World) (M : BS) (hM : ∀ b, M b → b < w0.heap.size) (va : Value) (a : List Val) (ha : gp aL w0 BE M va a) (vb : Value) (b : List Val) (hb : gp aL w0 BE M vb b) (r : Bool) (hs : jw a b = some r) :
    Calls Tryz.prog 47 #[va, vb] w0 (fun e w' => Grow w0 w' ∧ e = .returned (.bool r)) := by
 refine aQ (args := [va, vb]) Tryz.func47 rfl Tryz.ntmps47 (Nat.le_of_ble_eq_true rfl) ?_
 have h := SH.init hM
 replace h := h.fC 1 ha bJ
 replace h := h.fC 2 hb (di bJ)
 have uu := ha.bZ
 have JA := hb.bZ
 refine ai (ag (ae (aj (v := (.bool (false))) rfl) (ah (aa (ai (ai (ag (ae (au (v := va) rfl) (ae (bU bR rfl (h.iw 1 rfl)) (ae (au (v := vb) rfl) (ae (bU bR rfl (h.iw 2 rfl)) (ae (iA rfl rfl) (ah (aa (aK hs rfl (fun c1 hs => ?_) (fun c1 hs => ?_))))))))))))))))
 refine ai (ag (ae (aj (v := (.bool (false))) rfl) (ah (aa (aI (aC (bV (v := (.bool (false))) Tryz.results47 rfl ?_)))))))
 obtain rfl := Option.some.inj hs
 exact ⟨h.grown, rfl⟩
 refine aG (aa (ai (ai (ag (ae (au (v := va) rfl) (ae (bU bR rfl (h.iw 1 rfl)) (ae (au (v := (.int .i64 (0))) rfl) (ah (aa (aT ?_))))))))))
 have Xm := (h.iw 1 rfl).bZ
 refine gL (σ := Nat × Int) (inl [4, 5, 13, 14, 15, 16, 17, 18, 19, 20, 21, 22, 23, 24, 25]) (fun ⟨k2, i3⟩ => [(13, (.int .i64 (i3)))]) (fun ⟨k2, i3⟩ w => SH w0 M BE w (hset [(1, .sr aL va a), (2, .sr aL vb b)]) ∧ i3 = (k2 : Int) ∧ upto (lu a b) oH i3 (((a.length : Int)).toNat - k2) () = some r) (fun ⟨k2, i3⟩ => ((a.length : Int)).toNat - k2) ⟨0, 0⟩ ⟨rfl, trivial⟩ ?_ ?_
 exact ⟨h.cn _, rfl, hs⟩
 rintro ⟨k2, i3⟩ w dD ⟨h, hik, hs⟩
 refine ai (ag ?_)
 refine ae (dS rfl rfl) (ah (aa ?_))
 refine ai (iy rfl (fun e7 => ?_) (fun e7 => ?_))
 refine aG (aa ?_)
 rw [tO (by have := of_decide_eq_true e7; omega)] at hs
 generalize FW : upto (lu a b) oH (i3 + 1) (((a.length : Int)).toNat - (k2 + 1)) = EX at hs
 have Q3 : jB (i3 + 1) := (by have := of_decide_eq_true e7; have := Xm; exact jB.mk (by omega) (by omega))
 refine ai (aT (ai (ag (ae (au (v := (.int .i64 (i3))) rfl) (ae (aj (v := (.int .i64 (i3))) rfl) (ah (aa (ai (zK mixed (by kernel_rfl) h fun w h => aN (au (v := va) rfl) (aN (au (v := (.int .i64 (i3))) rfl) ?_))))))))))
 obtain ⟨x9, e10, hs⟩ := aP hs
 obtain ⟨b12, o13, Zp, h, WX, i11⟩ := h.yE 1 3 rfl bR rfl (aJ e10).1 (aJ e10).2
 obtain rfl := WX
 refine aN (i11 _ _ _ _ _ _ _ _ _ rfl rfl) (aN (ji (k := 0) (vs := [(.int .i64 (x9.kind)), (.int .i64 (x9.n))]) h 3 rfl bT rfl rfl rfl (Nat.le_of_ble_eq_true rfl)) (aN (au (v := vb) rfl) (aN (au (v := (.int .i64 (i3))) rfl) ?_)))
 obtain ⟨l9, e17, hs⟩ := aP hs
 obtain ⟨b19, o20, Xa, h, Xb, i18⟩ := h.yE 2 4 rfl bR rfl (aJ e17).1 (aJ e17).2
 obtain rfl := Xb
 refine aN (i18 _ _ _ _ _ _ _ _ _ rfl rfl) (aN (ji (k := 0) (vs := [(.int .i64 (l9.kind)), (.int .i64 (l9.n))]) h 4 rfl bT rfl rfl rfl (Nat.le_of_ble_eq_true rfl)) (aN (Vv NL rfl rfl) (yH (aa (aK hs rfl (fun c23 hs => ?_) (fun c23 hs => ?_))))))
 refine ai (ag (ae (aj (v := (.bool (false))) rfl) (ah (aa (aI (aH (aC (aC (aH (aC (bV (v := (.bool (false))) Tryz.results47 rfl ?_)))))))))))
 obtain rfl := Option.some.inj hs
 exact ⟨h.grown, rfl⟩
 refine aG (aA (aa (ag (ae (dC rfl rfl Q3) (ae (au (v := (.int .i64 ((i3 + 1)))) rfl) (ah (az ?_)))))))
 subst FW
 exact jN ⟨k2 + 1, i3 + 1⟩ ⟨h.cn _, by omega, hs⟩ (by have := of_decide_eq_true e7; dsimp only; omega)
 rw [tQ (by have := of_decide_eq_false e7; omega)] at hs
 refine df (aO (aO (bF (aa (ai (ag (ae (aj (v := (.bool (true))) rfl) (ah (aa (aI (bV (v := (.bool (true))) Tryz.results47 rfl ?_)))))))))))
 obtain rfl := Option.some.inj hs
 exact ⟨h.grown, rfl⟩
def vL (b : List (List Val)) (i3 : Int) (x4 : List Val) (s : Unit) (EX : Unit → Option Bool) : Option Bool :=
  (idx b i3).bind fun l9 => (jw x4 l9).bind fun y25 => bif (!y25) then some false else EX ()
def zi (s : Unit) : Option Bool :=
  some true
def Bg (a : List (List Val)) (b : List (List Val)) : Option Bool :=
  bif decide (((a.length : Int) : Int) ≠ (b.length : Int)) then some false else eO (vL b) zi 0 a ()
theorem La (w0 : World) (M : BS) (hM : ∀ b, M b → b < w0.heap.size) (va : Value) (a : List (List Val)) (ha : gp (qV aL) w0 BE M va a) (vb : Value) (b : List (List Val)) (hb : gp (qV aL) w0 BE M vb b) (r : Bool) (hs : Bg a b = some r) :
    Calls Tryz.prog 44 #[va, vb] w0 (fun e w' => Grow w0 w' ∧ e = .returned (.bool r)) := by
 refine aQ (args := [va, vb]) Tryz.func44 rfl Tryz.ntmps44 (Nat.le_of_ble_eq_true rfl) ?_
 have h := SH.init hM
 replace h := h.fC 1 ha bJ
 replace h := h.fC 2 hb (di bJ)
 have uu := ha.bZ
 have JA := hb.bZ
 refine ai (ag (ae (aj (v := (.bool (false))) rfl) (ah (aa (ai (ag (ae (au (v := va) rfl) (ae (au (v := vb) rfl) (jl (args := [va, vb, (.func (.func 79) #[] #[])]) V6 rfl rfl (aQ (args := [va, vb, (.func (.func 79) #[] #[])]) Tryz.func78 rfl Tryz.ntmps78 (Nat.le_of_ble_eq_true rfl) (ai (ag (ae (aj (v := (.bool (false))) rfl) (ah (aa (ai (ai (ag (ae (au (v := va) rfl) (ae (bU eY rfl (h.iw 1 rfl)) (ae (au (v := vb) rfl) (ae (bU eY rfl (h.iw 2 rfl)) (ae (iA rfl rfl) ?_)))))))))))))))))))))))
 refine ah (aa (aK hs rfl (fun c1 hs => ?_) (fun c1 hs => ?_)))
 refine ai (ag (ae (aj (v := (.bool (false))) rfl) (ah (aa (aI (aC (bV (v := (.bool (false))) Tryz.results78 rfl (⟨_, rfl, ?_⟩))))))))
 refine ae (aj (v := (.bool (false))) rfl) (ah (aa (aI (bV (v := (.bool (false))) Tryz.results44 rfl ?_))))
 obtain rfl := Option.some.inj hs
 exact ⟨h.grown, rfl⟩
 refine aG (aa (ai (ai (ag (ae (au (v := va) rfl) (ae (bU eY rfl (h.iw 1 rfl)) (ae (au (v := (.int .i64 (0))) rfl) (ah (aa (aT (gL (σ := Nat × Int) (inl [6, 7, 8, 9, 17, 18, 19, 20, 21, 22, 23, 24, 25, 26, 27, 28, 29, 30, 31]) (fun ⟨k2, i3⟩ => [(17, (.int .i64 (i3)))]) (fun ⟨k2, i3⟩ w => SH w0 M BE w (hset [(1, .sr (qV aL) va a), (2, .sr (qV aL) vb b)]) ∧ i3 = (k2 : Int) ∧ eO (vL b) zi i3 (a.drop k2) () = some r) (fun ⟨k2, i3⟩ => a.length - k2) ⟨0, 0⟩ ⟨rfl, trivial⟩ ?_ ?_)))))))))))
 exact ⟨h.cn _, rfl, hs⟩
 rintro ⟨k2, i3⟩ w dD ⟨h, hik, hs⟩
 refine ai (ag ?_)
 refine ae (dS rfl rfl) (ah (aa ?_))
 refine ai (iy rfl (fun e7 => ?_) (fun e7 => ?_))
 refine aG (aa ?_)
 obtain ⟨x4, We, Wh⟩ := gy (hik ▸ e7)
 rw [Wh, iG] at hs
 generalize FW : eO (vL b) zi (i3 + 1) (a.drop (k2 + 1)) = EX at hs
 have Q3 := gD ((h.iw 1 rfl)).bZ hik e7
 refine ai (aT (ai (ag (ae (au (v := (.int .i64 (i3))) rfl) ?_))))
 obtain ⟨b10, o11, Wi, h, Wj, i9⟩ := h.yE 1 3 rfl eY rfl (iQ hik) (gB hik We)
 obtain ⟨Ii, rfl, g15⟩ := Wj
 replace h := h.cO 4 g15.up
 refine ae (i9 _ _ _ _ _ _ _ _ _ rfl rfl) (ae (ek (k := 0) h 3 rfl mr rfl rfl) (ae (aj (v := (.int .i64 (i3))) rfl) (ae (aj (v := Ii) rfl) (ah (aa (ai (ag (ae (au (v := vb) rfl) (ae (au (v := (.int .i64 (i3))) rfl) ?_)))))))))
 obtain ⟨l9, e17, hs⟩ := aP hs
 obtain ⟨b19, o20, Xa, h, Xb, i18⟩ := h.yE 2 5 rfl eY rfl (aJ e17).1 (aJ e17).2
 obtain ⟨u23, rfl, g24⟩ := Xb
 replace h := h.cO 6 g24.up
 refine ae (i18 _ _ _ _ _ _ _ _ _ rfl rfl) (ae (ek (k := 0) h 5 rfl mr rfl rfl) (ae (aj (v := u23) rfl) (ah (aa (ai (ag (ae (au (v := (.func (.func 79) #[] #[])) rfl) (ae (au (v := Ii) rfl) (ae (au (v := u23) rfl) (jl (args := [Ii, u23]) V7 rfl rfl (aQ (args := [Ii, u23]) Tryz.func79 rfl Tryz.ntmps79 (Nat.le_of_ble_eq_true rfl) (ai (ag (ae (aj (v := (.bool (false))) rfl) (ah (aa (ai (ag (ae (au (v := Ii) rfl) (ae (au (v := u23) rfl) ?_))))))))))))))))))))
 obtain ⟨y25, e26, hs⟩ := aP hs
 refine bA QO rfl rfl (uP _ _ h.lt Ii x4 (h.lY 4 rfl) u23 l9 (h.lY 6 rfl) _ e26) ?_
 rintro _ w ⟨k27, rfl⟩
 refine ⟨_, rfl, ?_⟩
 replace h := h.grow k27
 refine ae (aj (v := (.bool (y25))) rfl) (ah (aa (aI (bV (v := (.bool (y25))) Tryz.results79 rfl (⟨_, rfl, ?_⟩)))))
 refine ae (gP rfl) (ah (aa (aK hs rfl (fun c28 hs => ?_) (fun c28 hs => ?_))))
 refine ai (ag (ae (aj (v := (.bool (false))) rfl) (ah (aa (aI (aH (aC (aC (aH (aC (bV (v := (.bool (false))) Tryz.results78 rfl (⟨_, rfl, ?_⟩))))))))))))
 refine ae (aj (v := (.bool (false))) rfl) (ah (aa (aI (bV (v := (.bool (false))) Tryz.results44 rfl ?_))))
 obtain rfl := Option.some.inj hs
 exact ⟨h.grown, rfl⟩
 refine aG (aA (aa (ag (ae (dC rfl rfl Q3) (ae (au (v := (.int .i64 ((i3 + 1)))) rfl) (ah (az ?_)))))))
 subst FW
 exact jN ⟨k2 + 1, i3 + 1⟩ ⟨h.cn _, by omega, hs⟩ (by have := of_decide_eq_true e7; dsimp only; omega)
 rw [gz (hik ▸ e7), mh] at hs
 refine df (aO (aO (bF (aa (ai (ag (ae (aj (v := (.bool (true))) rfl) (ah (aa (aI (bV (v := (.bool (true))) Tryz.results78 rfl (⟨_, rfl, ?_⟩))))))))))))
 refine ae (aj (v := (.bool (true))) rfl) (ah (aa (aI (bV (v := (.bool (true))) Tryz.results44 rfl ?_))))
 obtain rfl := Option.some.inj hs
 exact ⟨h.grown, rfl⟩
def rD (nk : Unit → Option Bool) (x34 : Bool) : Option Bool :=
  bif x34 then some false else nk ()
def wW (b : LX.State) (i10 : Int) (dV : LX.Frame) (s : Unit) (nk : Unit → Option Bool) : Option Bool :=
  (idx b.frames i10).bind fun x24 => bif ((decide ((dV.proc : Int) = x24.proc) && decide ((dV.at_ : Int) = x24.at_)) && decide ((dV.l6 : Int) = x24.l6)) then (jw dV.regs x24.regs).bind fun y39 => rD nk (!y39) else rD nk true
def Al (s : Unit) : Option Bool :=
  some true
def Fw (a : LX.State) (b : LX.State) : Option Bool :=
  bif (decide ((a.status : Int) = b.status) && decide ((a.aV : Int) = b.aV)) then (Bg a.cells b.cells).bind fun y4 => bif y4 then bif decide (((a.frames.length : Int) : Int) ≠ (b.frames.length : Int)) then some false else eO (wW b) Al 0 a.frames () else some false else some false
theorem PK (w0 : World) (M : BS) (hM : ∀ b, M b → b < w0.heap.size) (a : LX.State) (Ck CS : Value) (ha0 : gp gu w0 BE M Ck a.frames) (ha1 : gp (qV aL) w0 BE M CS a.cells) (b : LX.State) (vb0 vb1 : Value) (hb0 : gp gu w0 BE M vb0 b.frames) (hb1 : gp (qV aL) w0 BE M vb1 b.cells) (r : Bool) (hs : Fw a b = some r) :
    Calls Tryz.prog 19 #[(.agg #[Ck, CS, (.int .i64 (a.status)), (.int .i64 (a.aV))]), (.agg #[vb0, vb1, (.int .i64 (b.status)), (.int .i64 (b.aV))])] w0 (fun e w' => Grow w0 w' ∧ e = .returned (.bool r)) := by
 refine aQ (args := [(.agg #[Ck, CS, (.int .i64 (a.status)), (.int .i64 (a.aV))]), (.agg #[vb0, vb1, (.int .i64 (b.status)), (.int .i64 (b.aV))])]) Tryz.func19 rfl Tryz.ntmps19 (Nat.le_of_ble_eq_true rfl) ?_
 have h := SH.init hM
 replace h := h.fC 1 ha0 bJ
 replace h := h.fC 2 ha1 (di bJ)
 replace h := h.fC 3 hb0 (di (di bJ))
 replace h := h.fC 4 hb1 (di (di (di bJ)))
 refine ai (ag (nX (cs := [Ck, CS, (.int .i64 (a.status)), (.int .i64 (a.aV))]) h 5 rfl rfl fun w b1 h => nX (cs := [vb0, vb1, (.int .i64 (b.status)), (.int .i64 (b.aV))]) h 6 rfl rfl fun w b2 h => ae (aj (v := (.bool (false))) rfl) (ah (aa (ai (ag (ae (ak oM rfl) (ae (aF h 5 rfl bz rfl rfl) (ae (ak oM rfl) (ae (aF h 6 rfl bz rfl rfl) (ae (bH rfl rfl) (ae (au (v := (.bool (decide ((a.status : Int) = b.status)))) rfl) (aD rfl rfl (fun q => ak yO rfl) (aD rfl rfl (fun q => aF h 5 rfl bz (dx q) rfl) (aD rfl rfl (fun q => ak yO rfl) (aD rfl rfl (fun q => aF h 6 rfl bz (dx q) rfl) (aD rfl rfl (fun q => bH (dx q) (dx q)) (ae (fT rfl rfl lQ) (ae (au (v := (.bool ((decide ((a.status : Int) = b.status) && decide ((a.aV : Int) = b.aV))))) rfl) (jH (b := (decide ((a.status : Int) = b.status) && decide ((a.aV : Int) = b.aV))) hs (fun c3 hs => ?_) (fun c3 hs => ?_)))))))))))))))))))))
 refine dn rfl (congrArg Value.bool c3) (ae (ak jy rfl) (dn rfl (congrArg Value.bool c3) (ae (aF h 5 rfl og rfl rfl) (dn rfl (congrArg Value.bool c3) (ae (ak jy rfl) (dn rfl (congrArg Value.bool c3) (ae (aF h 6 rfl og rfl rfl) (dn rfl (congrArg Value.bool c3) ?_))))))))
 obtain ⟨y4, e5, hs⟩ := aP hs
 refine bA VV rfl rfl (La _ _ h.lt CS a.cells (h.iw 2 rfl) vb1 b.cells (h.iw 4 rfl) _ e5) ?_
 rintro _ w ⟨k6, rfl⟩
 refine ⟨_, rfl, ?_⟩
 replace h := h.grow k6
 refine ae (dL (b := true) (v := (.bool (y4))) (congrArg Value.bool c3) rfl) (ae (au (v := (.bool (y4))) rfl) (jH (b := y4) hs (fun c7 hs => ?_) (fun c7 hs => ?_)))
 refine dn rfl (congrArg Value.bool c7) (ae (ak eH rfl) (dn rfl (congrArg Value.bool c7) (ae (aF h 5 rfl iR rfl rfl) (dn rfl (congrArg Value.bool c7) (ae (ak eH rfl) (dn rfl (congrArg Value.bool c7) (ae (aF h 6 rfl iR rfl rfl) (dn rfl (congrArg Value.bool c7) (jl (args := [Ck, vb0, (.func (.func 46) #[] #[])]) VW rfl rfl (aQ (args := [Ck, vb0, (.func (.func 46) #[] #[])]) Tryz.func45 rfl Tryz.ntmps45 (Nat.le_of_ble_eq_true rfl) (ai (ag (ae (aj (v := (.bool (false))) rfl) (ah (aa (ai (ai (ag (ae (au (v := Ck) rfl) (ae (bU dw rfl (h.iw 1 rfl)) (ae (au (v := vb0) rfl) (ae (bU dw rfl (h.iw 3 rfl)) (ae (iA rfl rfl) ?_)))))))))))))))))))))))
 refine ah (aa (aK hs rfl (fun c8 hs => ?_) (fun c8 hs => ?_)))
 refine ai (ag (ae (aj (v := (.bool (false))) rfl) (ah (aa (aI (aC (bV (v := (.bool (false))) Tryz.results45 rfl (⟨_, rfl, ?_⟩))))))))
 refine ae (dL (b := true) (v := (.bool (false))) (congrArg Value.bool c7) rfl) (ae (aj (v := (.bool (false))) rfl) (ah (aa (aI (bV (v := (.bool (false))) Tryz.results19 rfl ?_)))))
 obtain rfl := Option.some.inj hs
 exact ⟨h.grown, rfl⟩
 refine aG (aa (ai (ai (ag (ae (au (v := Ck) rfl) (ae (bU dw rfl (h.iw 1 rfl)) (ae (au (v := (.int .i64 (0))) rfl) (ah (aa (aT (gL (σ := Nat × Int) (inl [6, 7, 8, 9, 17, 18, 19, 20, 21, 22, 23, 24, 25, 26, 27, 28, 29, 30, 31]) (fun ⟨k9, i10⟩ => [(17, (.int .i64 (i10)))]) (fun ⟨k9, i10⟩ w => SH w0 M BE w (hset [(1, .sr gu Ck a.frames), (3, .sr gu vb0 b.frames)]) ∧ i10 = (k9 : Int) ∧ eO (wW b) Al i10 (a.frames.drop k9) () = some r) (fun ⟨k9, i10⟩ => a.frames.length - k9) ⟨0, 0⟩ ⟨rfl, trivial⟩ ?_ ?_)))))))))))
 exact ⟨h.cn _, rfl, hs⟩
 rintro ⟨k9, i10⟩ w dD ⟨h, hik, hs⟩
 refine ai (ag ?_)
 refine ae (dS rfl rfl) (ah (aa ?_))
 refine ai (iy rfl (fun e14 => ?_) (fun e14 => ?_))
 refine aG (aa ?_)
 obtain ⟨dV, Me, Mf⟩ := gy (hik ▸ e14)
 rw [Mf, iG] at hs
 generalize FZ : eO (wW b) Al (i10 + 1) (a.frames.drop (k9 + 1)) = nk at hs
 have Mg := gD ((h.iw 1 rfl)).bZ hik e14
 refine ai (aT (ai (ag (ae (au (v := (.int .i64 (i10))) rfl) ?_))))
 obtain ⟨b17, o18, Uc, h, Rm, i16⟩ := h.yE 1 7 rfl dw rfl (iQ hik) (gB hik Me)
 obtain ⟨u21, rfl, g22⟩ := ui Rm
 replace h := h.cO 8 g22.up
 refine ae (i16 _ _ _ _ _ _ _ _ _ rfl rfl) (ae (ji (k := 0) (vs := [(.int .i64 (dV.proc)), (.int .i64 (dV.at_)), u21, (.int .i64 (dV.l6))]) h 7 rfl iU rfl rfl rfl (Nat.le_of_ble_eq_true rfl)) (bW h 9 iU fun w Bt h => ae (aj (v := (.int .i64 (i10))) rfl) (dA (vs := [(.int .i64 (dV.proc)), (.int .i64 (dV.at_)), u21, (.int .i64 (dV.l6))]) h 9 [(.int .i64 (dV.proc)), (.int .i64 (dV.at_)), u21, (.int .i64 (dV.l6))] rfl iU rfl rfl rfl rfl rfl (ax rfl (ax rfl (ax (h.gF 8 rfl).one (ax rfl bu)))) fun w h => ah (aa (ai (ag (ae (au (v := vb0) rfl) (ae (au (v := (.int .i64 (i10))) rfl) ?_))))))))
 obtain ⟨x24, e25, hs⟩ := aP hs
 obtain ⟨b27, o28, cs29, h, WR, i26⟩ := h.yE 3 10 rfl dw rfl (aJ e25).1 (aJ e25).2
 obtain ⟨u31, rfl, Zd⟩ := ui WR
 replace h := h.cO 11 Zd.up
 refine ae (i26 _ _ _ _ _ _ _ _ _ rfl rfl) (ae (ji (k := 0) (vs := [(.int .i64 (x24.proc)), (.int .i64 (x24.at_)), u31, (.int .i64 (x24.l6))]) h 10 rfl iU rfl rfl rfl (Nat.le_of_ble_eq_true rfl)) (bW h 12 iU fun w Wt h => dA (vs := [(.int .i64 (x24.proc)), (.int .i64 (x24.at_)), u31, (.int .i64 (x24.l6))]) h 12 [(.int .i64 (x24.proc)), (.int .i64 (x24.at_)), u31, (.int .i64 (x24.l6))] rfl iU rfl rfl rfl rfl rfl (ax rfl (ax rfl (ax (h.gF 11 rfl).one (ax rfl bu)))) fun w h => ah (aa (bY (σ := Bool) (inl [26, 27, 28, 29, 30]) (fun x34 => [(30, (.bool (x34)))]) (fun x34 w => SH w0 M BE w (hset [(1, .sr gu Ck a.frames), (3, .sr gu vb0 b.frames)]) ∧ rD nk x34 = some r) ?_ ?_))))
 rintro x34 w dD ⟨h, hs⟩
 refine aK hs rfl (fun Wo hs => ?_) (fun Wo hs => ?_)
 refine ai (ag (ae (aj (v := (.bool (false))) rfl) (ah (aa (aI (aH (aC (aC (aH (aC (bV (v := (.bool (false))) Tryz.results45 rfl (⟨_, rfl, ?_⟩))))))))))))
 refine ae (dL (b := true) (v := (.bool (false))) (congrArg Value.bool c7) rfl) (ae (aj (v := (.bool (false))) rfl) (ah (aa (aI (bV (v := (.bool (false))) Tryz.results19 rfl ?_)))))
 obtain rfl := Option.some.inj hs
 exact ⟨h.grown, rfl⟩
 refine aG (aA (aa (ag (ae (dC rfl rfl Mg) (ae (au (v := (.int .i64 ((i10 + 1)))) rfl) (ah (az ?_)))))))
 subst FZ
 exact jN ⟨k9 + 1, i10 + 1⟩ ⟨h.cn _, by omega, hs⟩ (by have := of_decide_eq_true e14; dsimp only; omega)
 refine ag (ae (au (v := (.func (.func 46) #[] #[])) rfl) (ae (dz (vs := [(.int .i64 (dV.proc)), (.int .i64 (dV.at_)), u21, (.int .i64 (dV.l6))]) h 9 rfl iU rfl rfl rfl) (ae (dz (vs := [(.int .i64 (x24.proc)), (.int .i64 (x24.at_)), u31, (.int .i64 (x24.l6))]) h 12 rfl iU rfl rfl rfl) (jl (args := [(.agg #[(.int .i64 (dV.proc)), (.int .i64 (dV.at_)), u21, (.int .i64 (dV.l6))]), (.agg #[(.int .i64 (x24.proc)), (.int .i64 (x24.at_)), u31, (.int .i64 (x24.l6))])]) VX rfl rfl (aQ (args := [(.agg #[(.int .i64 (dV.proc)), (.int .i64 (dV.at_)), u21, (.int .i64 (dV.l6))]), (.agg #[(.int .i64 (x24.proc)), (.int .i64 (x24.at_)), u31, (.int .i64 (x24.l6))])]) Tryz.func46 rfl Tryz.ntmps46 (Nat.le_of_ble_eq_true rfl) (ai (ag (nX (cs := [(.int .i64 (dV.proc)), (.int .i64 (dV.at_)), u21, (.int .i64 (dV.l6))]) h 13 rfl rfl fun w b36 h => nX (cs := [(.int .i64 (x24.proc)), (.int .i64 (x24.at_)), u31, (.int .i64 (x24.l6))]) h 14 rfl rfl fun w b37 h => ae (aj (v := (.bool (false))) rfl) (ah (aa (ai (ag (ae (ak wS rfl) (ae (aF h 13 rfl bz rfl rfl) (ae (ak wS rfl) (ae (aF h 14 rfl bz rfl rfl) (ae (bH rfl rfl) (ae (au (v := (.bool (decide ((dV.proc : Int) = x24.proc)))) rfl) (aD rfl rfl (fun q => ak tV rfl) (aD rfl rfl (fun q => aF h 13 rfl bz (dx q) rfl) (aD rfl rfl (fun q => ak tV rfl) ?_)))))))))))))))))))))
 refine aD rfl rfl (fun q => aF h 14 rfl bz (dx q) rfl) (aD rfl rfl (fun q => bH (dx q) (dx q)) (ae (fT rfl rfl lQ) (ae (au (v := (.bool ((decide ((dV.proc : Int) = x24.proc) && decide ((dV.at_ : Int) = x24.at_))))) rfl) (aD rfl rfl (fun q => ak AL rfl) (aD rfl rfl (fun q => aF h 13 rfl bz (dx q) rfl) (aD rfl rfl (fun q => ak AL rfl) (aD rfl rfl (fun q => aF h 14 rfl bz (dx q) rfl) (aD rfl rfl (fun q => bH (dx q) (dx q)) (ae (fT rfl rfl lQ) (ae (au (v := (.bool (((decide ((dV.proc : Int) = x24.proc) && decide ((dV.at_ : Int) = x24.at_)) && decide ((dV.l6 : Int) = x24.l6))))) rfl) (jH (b := ((decide ((dV.proc : Int) = x24.proc) && decide ((dV.at_ : Int) = x24.at_)) && decide ((dV.l6 : Int) = x24.l6))) hs (fun CJ hs => ?_) (fun CJ hs => ?_))))))))))))
 refine dn rfl (congrArg Value.bool CJ) (ae (ak l8 rfl) (dn rfl (congrArg Value.bool CJ) (ae (aF h 13 rfl mr rfl rfl) (dn rfl (congrArg Value.bool CJ) (ae (ak l8 rfl) (dn rfl (congrArg Value.bool CJ) (ae (aF h 14 rfl mr rfl rfl) (dn rfl (congrArg Value.bool CJ) ?_))))))))
 obtain ⟨y39, e40, hs⟩ := aP hs
 refine bA QO rfl rfl (uP _ _ h.lt u21 dV.regs (h.lY 8 rfl) u31 x24.regs (h.lY 11 rfl) _ e40) ?_
 rintro _ w ⟨YG, rfl⟩
 refine ⟨_, rfl, ?_⟩
 replace h := h.grow YG
 refine ae (dL (b := true) (v := (.bool (y39))) (congrArg Value.bool CJ) rfl) (ae (aj (v := (.bool (y39))) rfl) (ah (aa (aI (bV (v := (.bool (y39))) Tryz.results46 rfl (⟨_, rfl, ?_⟩))))))
 refine ae (gP rfl) (ah (az ?_))
 exact bS (!y39) ⟨h.cn _, hs⟩
 refine bE (b' := false) rfl (congrArg Value.bool CJ) rfl (bE (b' := false) rfl (congrArg Value.bool CJ) rfl (bE (b' := false) rfl (congrArg Value.bool CJ) rfl (bE (b' := false) rfl (congrArg Value.bool CJ) rfl (bE (b' := false) rfl (congrArg Value.bool CJ) rfl (ae (dL (b := false) (v := (.bool (false))) (congrArg Value.bool CJ) rfl) (ae (aj (v := (.bool (false))) rfl) (ah (aa (aI (bV (v := (.bool (false))) Tryz.results46 rfl (⟨_, rfl, ?_⟩)))))))))))
 refine ae (gP rfl) (ah (az ?_))
 exact bS true ⟨h.cn _, hs⟩
 rw [gz (hik ▸ e14), mh] at hs
 refine df (aO (aO (bF (aa (ai (ag (ae (aj (v := (.bool (true))) rfl) (ah (aa (aI (bV (v := (.bool (true))) Tryz.results45 rfl (⟨_, rfl, ?_⟩))))))))))))
 refine ae (dL (b := true) (v := (.bool (true))) (congrArg Value.bool c7) rfl) (ae (aj (v := (.bool (true))) rfl) (ah (aa (aI (bV (v := (.bool (true))) Tryz.results19 rfl ?_)))))
 obtain rfl := Option.some.inj hs
 exact ⟨h.grown, rfl⟩
 refine bE (b' := false) rfl (congrArg Value.bool c7) rfl (bE (b' := false) rfl (congrArg Value.bool c7) rfl (bE (b' := false) rfl (congrArg Value.bool c7) rfl (bE (b' := false) rfl (congrArg Value.bool c7) rfl (bE (b' := false) rfl (congrArg Value.bool c7) rfl (ae (dL (b := false) (v := (.bool (false))) (congrArg Value.bool c7) rfl) (ae (aj (v := (.bool (false))) rfl) (ah (aa (aI (bV (v := (.bool (false))) Tryz.results19 rfl ?_))))))))))
 obtain rfl := Option.some.inj hs
 exact ⟨h.grown, rfl⟩
 refine bE (b' := false) rfl (congrArg Value.bool c3) rfl (bE (b' := false) rfl (congrArg Value.bool c3) rfl (bE (b' := false) rfl (congrArg Value.bool c3) rfl (bE (b' := false) rfl (congrArg Value.bool c3) rfl (bE (b' := false) rfl (congrArg Value.bool c3) rfl (ae (dL (b := false) (v := (.bool (false))) (congrArg Value.bool c3) rfl) (ae (au (v := (.bool (false))) rfl) (bE (b' := false) rfl rfl rfl (bE (b' := false) rfl rfl rfl (bE (b' := false) rfl rfl rfl (bE (b' := false) rfl rfl rfl (bE (b' := false) rfl rfl rfl (ae (dL (b := false) (v := (.bool (false))) rfl rfl) (ae (aj (v := (.bool (false))) rfl) (ah (aa (aI (bV (v := (.bool (false))) Tryz.results19 rfl ?_)))))))))))))))))
 obtain rfl := Option.some.inj hs
 exact ⟨h.grown, rfl⟩
def iq (N : Nat) (y2 : LX.State × List Int × Int × Int) (a : List cz) (c : Int) (x20 : Bool) : Option Bool :=
  bif x20 then some false else bif decide ((y2.1.status : Int) ≠ 0) then (Aj N a y2.1 c).bind fun y23 => some (decide ((y23.2.2.2 : Int) = 7)) else some true
def qz (N : Nat) (a : List cz) (b : LX.State) (c : Int) : Option Bool :=
  (Aj N a b c).bind fun y2 => (oo N).bind fun y13 => bif ((!y13) || decide ((y2.2.2.2 : Int) ≠ 0)) then (oo N).bind fun Cj => some Cj else (wu a y2.1).bind fun y34 => bif ((((decide ((y34 : Int) ≠ 0) || decide ((y2.2.2.1 : Int) < 0)) || decide ((c : Int) < y2.2.2.1)) || decide ((y2.2.2.1 : Int) < (y2.2.1.length : Int))) || decide ((40 : Int) < (y2.2.1.length : Int))) then iq N y2 a c true else bif decide ((y2.2.2.1 : Int) = 0) then (Fw y2.1 b).bind fun y39 => iq N y2 a c (!y39) else iq N y2 a c false
theorem zF (N : Nat) (w0 : World) (M : BS) (hM : ∀ b, M b → b < w0.heap.size) (hT : uh Tryz.prog 4 w0) (va : Value) (a : List cz) (ha : fo j4 w0 M va a) (b : LX.State) (vb0 vb1 : Value) (hb0 : gp gu w0 BE M vb0 b.frames) (hb1 : gp (qV aL) w0 BE M vb1 b.cells) (c : Int) (r : Bool) (hs : qz N a b c = some r) :
    Calls Tryz.prog 6 #[va, (.agg #[vb0, vb1, (.int .i64 (b.status)), (.int .i64 (b.aV))]), (.int .i64 (c))] w0 (fun e w' => Grow w0 w' ∧ e = .returned (.bool r)) := by
 refine aQ (args := [va, (.agg #[vb0, vb1, (.int .i64 (b.status)), (.int .i64 (b.aV))]), (.int .i64 (c))]) Tryz.func6 rfl Tryz.ntmps6 (Nat.le_of_ble_eq_true rfl) ?_
 have h := SH.init hM
 replace h := h.UU 1 ha bJ
 replace h := h.fC 2 hb0 (wK bJ)
 replace h := h.fC 3 hb1 (di (wK bJ))
 have uu := ha.bZ
 refine ai (ag (nX (cs := [vb0, vb1, (.int .i64 (b.status)), (.int .i64 (b.aV))]) h 4 rfl rfl fun w b1 h => ae (aj (v := (.bool (false))) rfl) (ah (aa (ai (ag (ae (au (v := va) rfl) (ae (dz (vs := [vb0, vb1, (.int .i64 (b.status)), (.int .i64 (b.aV))]) h 4 rfl cZ rfl rfl rfl) (ae (au (v := (.int .i64 (c))) rfl) ?_)))))))))
 obtain ⟨y2, e3, hs⟩ := aP hs
 refine bA FR rfl rfl (Ak N _ _ h.lt va a (h.gF 1 rfl) b vb0 vb1 (h.iw 2 rfl) (h.iw 3 rfl) c _ e3) ?_
 rintro _ w ⟨k11, u4, u6, u8, rfl, g5, g7, g9, g10⟩
 refine ⟨_, rfl, ?_⟩
 replace h := h.jM 7 k11 g9 g10
 replace h := h.cO 5 g5.Td
 replace h := h.cO 6 g7.Td.up
 refine ae (au (v := (.tuple #[(.agg #[u4, u6, (.int .i64 (y2.1.status)), (.int .i64 (y2.1.aV))]), u8, (.int .i64 (y2.2.2.1)), (.int .i64 (y2.2.2.2))])) rfl) (ae (bB rfl rfl) (ae (bB rfl rfl) (ae (bB rfl rfl) (ae (bB rfl rfl) (bW h 8 cZ fun w b12 h => dA (vs := [u4, u6, (.int .i64 (y2.1.status)), (.int .i64 (y2.1.aV))]) h 8 [u4, u6, (.int .i64 (y2.1.status)), (.int .i64 (y2.1.aV))] rfl cZ rfl rfl rfl rfl rfl (ax (h.gF 5 rfl).one (ax (h.gF 6 rfl).one (ax rfl (ax rfl bu)))) fun w h => ae (aj (v := u8) rfl) (ae (aj (v := (.int .i64 (y2.2.2.1))) rfl) (ae (aj (v := (.int .i64 (y2.2.2.2))) rfl) (ah (aa (ai (ai (ag ?_))))))))))))
 obtain ⟨y13, e14, hs⟩ := aP hs
 refine bA QN rfl rfl (wV N _ _ h.lt (hT.go h.keep)  _ e14) ?_
 rintro _ w ⟨k15, rfl⟩
 refine ⟨_, rfl, ?_⟩
 replace h := h.grow k15
 refine ae (gP rfl) (ae (au (v := (.bool ((!y13)))) rfl) (aD rfl rfl (fun q => au (v := (.int .i64 (y2.2.2.2))) rfl) (aD rfl rfl (fun q => iA (dx q) rfl) (ae (gK rfl rfl lQ) (ah (aa (aK hs rfl (fun c16 hs => ?_) (fun c16 hs => ?_))))))))
 refine ai (ag ?_)
 obtain ⟨Cj, e18, hs⟩ := aP hs
 refine bA QN rfl rfl (wV N _ _ h.lt (hT.go h.keep)  _ e18) ?_
 rintro _ w ⟨k19, rfl⟩
 refine ⟨_, rfl, ?_⟩
 replace h := h.grow k19
 refine ae (aj (v := (.bool (Cj))) rfl) (ah (aa (aI (aC (bV (v := (.bool (Cj))) Tryz.results6 rfl ?_)))))
 obtain rfl := Option.some.inj hs
 exact ⟨h.grown, rfl⟩
 refine aG (aa (ai (bY (σ := Bool) (inl [31, 32, 33, 34, 35, 36, 37, 38, 39, 40, 41, 42, 43, 44, 45, 46, 47, 48, 49, 50, 51, 52, 53, 54, 55, 56, 57, 58, 59, 60, 61, 62, 63, 64]) (fun x20 => [(64, (.bool (x20)))]) (fun x20 w => SH w0 M BE w (hset [(1, .rd j4 va a), (5, .rd gu u4 y2.1.frames), (6, .rd (qV aL) u6 y2.1.cells), (8, .blk b12 [u4, u6, (.int .i64 (y2.1.status)), (.int .i64 (y2.1.aV))])]) ∧ iq N y2 a c x20 = some r) ?_ ?_)))
 rintro x20 w dD ⟨h, hs⟩
 refine aK hs rfl (fun c21 hs => ?_) (fun c21 hs => ?_)
 refine ai (ag (ae (aj (v := (.bool (false))) rfl) (ah (aa (aI (aC (bV (v := (.bool (false))) Tryz.results6 rfl ?_)))))))
 obtain rfl := Option.some.inj hs
 exact ⟨h.grown, rfl⟩
 refine aG (aa (ai (ai (ag (ae (ak oM rfl) (ae (aF h 8 rfl bz rfl rfl) (ae (iA rfl rfl) (ah (aa (aK hs rfl (fun Zf hs => ?_) (fun Zf hs => ?_)))))))))))
 refine ai (ag (ae (au (v := va) rfl) (ae (dz (vs := [u4, u6, (.int .i64 (y2.1.status)), (.int .i64 (y2.1.aV))]) h 8 rfl cZ rfl rfl rfl) (ae (au (v := (.int .i64 (c))) rfl) ?_))))
 obtain ⟨y23, e24, hs⟩ := aP hs
 refine bA FR rfl rfl (Ak N _ _ h.lt va a (h.gF 1 rfl) y2.1 u4 u6 (h.lY 5 rfl) (h.lY 6 rfl) c _ e24) ?_
 rintro _ w ⟨k32, u25, u27, u29, rfl, WQ, Y7, g30, Zg⟩
 refine ⟨_, rfl, ?_⟩
 replace h := h.jM 11 k32 g30 Zg
 replace h := h.cO 9 WQ.Td
 replace h := h.cO 10 Y7.Td.up
 refine ae (au (v := (.tuple #[(.agg #[u25, u27, (.int .i64 (y23.1.status)), (.int .i64 (y23.1.aV))]), u29, (.int .i64 (y23.2.2.1)), (.int .i64 (y23.2.2.2))])) rfl) (ae (bB rfl rfl) (ae (bB rfl rfl) (ae (bB rfl rfl) (ae (bB rfl rfl) (bW h 12 cZ fun w Wt h => dA (vs := [u25, u27, (.int .i64 (y23.1.status)), (.int .i64 (y23.1.aV))]) h 12 [u25, u27, (.int .i64 (y23.1.status)), (.int .i64 (y23.1.aV))] rfl cZ rfl rfl rfl rfl rfl (ax (h.gF 9 rfl).one (ax (h.gF 10 rfl).one (ax rfl (ax rfl bu)))) fun w h => ae (aj (v := u29) rfl) (ae (aj (v := (.int .i64 (y23.2.2.1))) rfl) (ae (aj (v := (.int .i64 (y23.2.2.2))) rfl) (ah (aa (ai (ag (ae (au (v := (.int .i64 (y23.2.2.2))) rfl) (ae (bH rfl rfl) (ae (aj (v := (.bool (decide ((y23.2.2.2 : Int) = 7)))) rfl) (ah (aa (aI (aC (bV (v := (.bool (decide ((y23.2.2.2 : Int) = 7)))) Tryz.results6 rfl ?_)))))))))))))))))))
 obtain rfl := Option.some.inj hs
 exact ⟨h.grown, rfl⟩
 refine aG (aa (ai (ag (ae (aj (v := (.bool (true))) rfl) (ah (aa (aI (bV (v := (.bool (true))) Tryz.results6 rfl ?_))))))))
 obtain rfl := Option.some.inj hs
 exact ⟨h.grown, rfl⟩
 refine ag (ae (au (v := va) rfl) (ae (dz (vs := [u4, u6, (.int .i64 (y2.1.status)), (.int .i64 (y2.1.aV))]) h 8 rfl cZ rfl rfl rfl) ?_))
 obtain ⟨y34, e35, hs⟩ := aP hs
 refine bA Jv rfl rfl (za _ _ h.lt va a (h.lY 1 rfl) y2.1 u4 u6 (h.lY 5 rfl) (h.lY 6 rfl) _ e35) ?_
 rintro _ w ⟨Ti, rfl⟩
 refine ⟨_, rfl, ?_⟩
 replace h := h.grow Ti
 refine ae (iA rfl rfl) (ae (au (v := (.bool (decide ((y34 : Int) ≠ 0)))) rfl) (aD rfl rfl (fun q => au (v := (.int .i64 (y2.2.2.1))) rfl) (aD rfl rfl (fun q => dS (dx q) rfl) (ae (gK rfl rfl lQ) (ae (au (v := (.bool ((decide ((y34 : Int) ≠ 0) || decide ((y2.2.2.1 : Int) < 0))))) rfl) (aD rfl rfl (fun q => au (v := (.int .i64 (y2.2.2.1))) rfl) (aD rfl rfl (fun q => au (v := (.int .i64 (c))) rfl) (aD rfl rfl (fun q => jA (dx q) (dx q)) (ae (gK rfl rfl lQ) (ae (au (v := (.bool (((decide ((y34 : Int) ≠ 0) || decide ((y2.2.2.1 : Int) < 0)) || decide ((c : Int) < y2.2.2.1))))) rfl) (aD rfl rfl (fun q => au (v := u8) rfl) (aD rfl rfl (fun q => bU dh (dx q) (h.ed 7 rfl)) (aD rfl rfl (fun q => au (v := (.int .i64 (y2.2.2.1))) rfl) (aD rfl rfl (fun q => jA (dx q) (dx q)) (ae (gK rfl rfl lQ) (ae (au (v := (.bool ((((decide ((y34 : Int) ≠ 0) || decide ((y2.2.2.1 : Int) < 0)) || decide ((c : Int) < y2.2.2.1)) || decide ((y2.2.2.1 : Int) < (y2.2.1.length : Int)))))) rfl) (aD rfl rfl (fun q => au (v := u8) rfl) (aD rfl rfl (fun q => bU dh (dx q) (h.ed 7 rfl)) (aD rfl rfl (fun q => jA (dx q) rfl) (ae (gK rfl rfl lQ) (ae (au (v := (.bool (((((decide ((y34 : Int) ≠ 0) || decide ((y2.2.2.1 : Int) < 0)) || decide ((c : Int) < y2.2.2.1)) || decide ((y2.2.2.1 : Int) < (y2.2.1.length : Int))) || decide ((40 : Int) < (y2.2.1.length : Int)))))) rfl) (jH (b := ((((decide ((y34 : Int) ≠ 0) || decide ((y2.2.2.1 : Int) < 0)) || decide ((c : Int) < y2.2.2.1)) || decide ((y2.2.2.1 : Int) < (y2.2.1.length : Int))) || decide ((40 : Int) < (y2.2.1.length : Int)))) hs (fun c37 hs => ?_) (fun c37 hs => ?_)))))))))))))))))))))))
 refine bE (b' := true) rfl (congrArg Value.bool c37) rfl (bE (b' := true) rfl (congrArg Value.bool c37) rfl (bE (b' := true) rfl (congrArg Value.bool c37) rfl (Au rfl rfl (Au rfl rfl (Au rfl rfl (Au rfl rfl (bE (b' := true) rfl (congrArg Value.bool c37) rfl (ae (dL (b := true) (v := (.bool (true))) (congrArg Value.bool c37) rfl) (ah (az ?_))))))))))
 exact bS true ⟨h.cn _, hs⟩
 refine dn rfl (congrArg Value.bool c37) (ae (au (v := (.int .i64 (y2.2.2.1))) rfl) (dn rfl (congrArg Value.bool c37) (ae (bH rfl rfl) (dn rfl (congrArg Value.bool c37) (ae (au (v := (.bool (decide ((y2.2.2.1 : Int) = 0)))) rfl) (jH (b := decide ((y2.2.2.1 : Int) = 0)) hs (fun CJ hs => ?_) (fun CJ hs => ?_)))))))
 refine dn rfl (congrArg Value.bool CJ) (ae (dz (vs := [u4, u6, (.int .i64 (y2.1.status)), (.int .i64 (y2.1.aV))]) h 8 rfl cZ rfl rfl rfl) (dn rfl (congrArg Value.bool CJ) (ae (dz (vs := [vb0, vb1, (.int .i64 (b.status)), (.int .i64 (b.aV))]) h 4 rfl cZ rfl rfl rfl) (dn rfl (congrArg Value.bool CJ) ?_))))
 obtain ⟨y39, e40, hs⟩ := aP hs
 refine bA VP rfl rfl (PK _ _ h.lt y2.1 u4 u6 (h.lY 5 rfl) (h.lY 6 rfl) b vb0 vb1 (h.iw 2 rfl) (h.iw 3 rfl) _ e40) ?_
 rintro _ w ⟨YG, rfl⟩
 refine ⟨_, rfl, ?_⟩
 replace h := h.grow YG
 refine dn rfl (congrArg Value.bool CJ) (ae (gP rfl) (dn rfl (congrArg Value.bool c37) (ae (dL (b := true) (v := (.bool ((!y39)))) (congrArg Value.bool CJ) rfl) (ae (dL (b := false) (v := (.bool ((!y39)))) (congrArg Value.bool c37) rfl) (ah (az ?_))))))
 exact bS (!y39) ⟨h.cn _, hs⟩
 refine bE (b' := false) rfl (congrArg Value.bool CJ) rfl (bE (b' := false) rfl (congrArg Value.bool CJ) rfl (bE (b' := false) rfl (congrArg Value.bool CJ) rfl (bE (b' := false) rfl (congrArg Value.bool CJ) rfl (dn rfl (congrArg Value.bool c37) (ae (dL (b := false) (v := (.bool (false))) (congrArg Value.bool CJ) rfl) (ae (dL (b := false) (v := (.bool (false))) (congrArg Value.bool c37) rfl) (ah (az ?_))))))))
 exact bS false ⟨h.cn _, hs⟩
end
end Go.Proofs.YtfclkapelkhlpaaGreatDoor
namespace Go.Proofs.YtfclkapelkhlpaaGreatDoor
open Go Go.Proofs Go.LX
noncomputable section
def lL (a : Val) (b : Int) (x2 : Bool) : Int :=
  bif x2 then 4 else bif (decide ((a.kind : Int) = 1) && (!(eZ a.n))) then 3 else bif (decide ((a.kind : Int) = 2) && (!(aY a.n b))) then 5 else 0
def dN (a : Val) (b : Int) : Int :=
  bif (!(bC a.kind 0 2)) then lL a b (!(bC a.kind 0 2)) else lL a b (decide ((a.kind : Int) = 0) && decide ((a.n : Int) ≠ 0))
def ja (a : List (List Val)) (x20 : Val) (s : Unit) (Uj : Unit → Int) : Int :=
  bif decide (((dN x20 (a.length : Int)) : Int) ≠ 0) then (dN x20 (a.length : Int)) else Uj ()
def jb (EX : Unit → Int) (s : Unit) : Int :=
  EX ()
def jc (a : List (List Val)) (x4 : List Val) (s : Unit) (EX : Unit → Int) : Int :=
  bif (!(bC (x4.length : Int) 1 4)) then 2 else each (ja a) (jb EX) x4 ()
def jd (s : Unit) : Int :=
  0
def jX (a : List (List Val)) : Int :=
  bif decide ((24 : Int) < (a.length : Int)) then 2 else each (jc a) jd a ()
def kZ (b : LX.State) (XN : Val) (s : Unit) (nx46 : Unit → Option Int) : Option Int :=
  bif decide (((dN XN (b.cells.length : Int)) : Int) ≠ 0) then some (dN XN (b.cells.length : Int)) else nx46 ()
def lg (JN : Int → Option Int) (Dj : LX.Frame) (s : Unit) : Option Int :=
  JN (Dj.regs.length : Int)
def fO (a : List cz) (Dj : LX.Frame) (b : LX.State) (JN : Int → Option Int) (x30 : Bool) : Option Int :=
  bif x30 then some 3 else (idx a Dj.proc).bind fun x32 => bif decide (((Dj.regs.length : Int) : Int) ≠ x32.regs) then some 4 else each (kZ b) (lg JN Dj) Dj.regs ()
def eG (a : List cz) (b : LX.State) (Dj : LX.Frame) (vX : Int) (JN : Int → Option Int) : Option Int :=
  bif (!(aY Dj.proc (a.length : Int))) then some 5 else (idx a Dj.proc).bind fun Sz => bif (!(aY Dj.at_ (Sz.code.length : Int))) then fO a Dj b JN true else fO a Dj b JN (!(aY Dj.l6 vX))
def ig (vX : Int) : Option Int :=
  some 0
def nS (a : List cz) (b : LX.State) : Option Int :=
  bif ((!(bC b.status 0 3)) || (!(eZ b.aV))) then some 3 else bif (((decide ((b.aV : Int) ≠ 0) && decide ((b.status : Int) ≠ 3)) || (decide ((b.status : Int) = 1) && decide ((0 : Int) < (b.frames.length : Int)))) || (decide ((b.status : Int) ≠ 1) && decide (((b.frames.length : Int) : Int) = 0))) then some 4 else bif decide ((10 : Int) < (b.frames.length : Int)) then some 2 else bif decide (((jX b.cells) : Int) ≠ 0) then some (jX b.cells) else each (eG a b) ig b.frames 1
end
end Go.Proofs.YtfclkapelkhlpaaGreatDoor
namespace Go.Proofs.YtfclkapelkhlpaaGreatDoor
open Go Go.Proofs Go.LX
noncomputable section
abbrev M9 : List (Int × Str) := [(2, [118]), (4, [46]), (5, [110, 101, 119]), (6, [102]), (1, [])]
theorem bnd {α β : Type} (a : α) (f : α → Option β) : (some a).bind f = f a := rfl
theorem PL {α σ : Type} {g : α → Option σ} {l : List α} (hu : ∀ p ∈ l, ∀ q ∈ l, g p ≠ none → g q ≠ none → p = q) {p : α} (hp : p ∈ l) {t : σ} (h : g p = some t) : l.findSome? g = some t := by
  cases e : l.findSome? g with
  | none =>
    rw [List.findSome?_eq_none_iff] at e
    rw [e p hp] at h; cases h
  | some u =>
    obtain ⟨q, hq, hqu⟩ := List.exists_of_findSome?_eq_some e
    have := hu p hp q hq (by rw [h]; simp) (by rw [hqu]; simp)
    subst this
    rw [h] at hqu; exact hqu.symm
theorem IL {α σ : Type} {step : α → σ → Option σ} {g : α → Option σ} : ∀ {l : List α}, (∀ p ∈ l, ∀ s, step p s = some ((g p).getD s)) → (∀ p ∈ l, g p = none) → ∀ s, FO step l s = some s
  | [], _, _, s => rfl
  | p :: l, h, hn, s => by
    unfold FO
    rw [h p (by simp), hn p (by simp), Option.getD_none, bnd]
    exact IL (fun q hq => h q (List.mem_cons_of_mem _ hq)) (fun q hq => hn q (List.mem_cons_of_mem _ hq)) s
theorem IM {α σ : Type} {step : α → σ → Option σ} {g : α → Option σ} : ∀ {l : List α}, (∀ p ∈ l, ∀ s, step p s = some ((g p).getD s)) → (∀ p ∈ l, ∀ q ∈ l, g p ≠ none → g q ≠ none → p = q) → l.Nodup → ∀ s, FO step l s = some ((l.findSome? g).getD s)
  | [], _, _, _, s => rfl
  | p :: l, h, hu, hn, s => by
    unfold FO
    rw [h p (by simp), bnd]
    have hn' := List.nodup_cons.1 hn
    cases e : g p with
    | none =>
      rw [Option.getD_none, IM (fun q hq => h q (List.mem_cons_of_mem _ hq)) (fun a ha b hb => hu a (List.mem_cons_of_mem _ ha) b (List.mem_cons_of_mem _ hb)) hn'.2 s, List.findSome?_cons, e]
    | some t =>
      rw [Option.getD_some, IL (fun q hq => h q (List.mem_cons_of_mem _ hq)) (fun q hq => ?_) t, List.findSome?_cons, e]
      · rfl
      · cases e2 : g q with
        | none => rfl
        | some u =>
          have := hu p (by simp) q (List.mem_cons_of_mem _ hq) (by rw [e]; simp) (by rw [e2]; simp)
          subst this
          exact absurd hq hn'.1
theorem PM {α σ : Type} {step : α → σ → Option σ} {g : α → Option σ} {L : List α} (h : ∀ p ∈ L, ∀ s, step p s = some ((g p).getD s)) (hu : ∀ p ∈ L, ∀ q ∈ L, g p ≠ none → g q ≠ none → p = q) (hn : L.Nodup) (s : σ) : qK step L s ((L.findSome? g).getD s) := by
  intro l hl
  rw [IM (fun p hp => h p (hl.mem_iff.1 hp)) (fun p hp q hq => hu p (hl.mem_iff.1 hp) q (hl.mem_iff.1 hq)) (hl.nodup_iff.2 hn) s]
  congr 2
  cases e : L.findSome? g with
  | none =>
    rw [List.findSome?_eq_none_iff] at e ⊢
    exact fun x hx => e x (hl.mem_iff.1 hx)
  | some t =>
    obtain ⟨p, hp, ht⟩ := List.exists_of_findSome?_eq_some e
    exact PL (fun p hp q hq => hu p (hl.mem_iff.1 hp) q (hl.mem_iff.1 hq)) (hl.mem_iff.2 hp) ht
def joO (pe : Int × Str) (y : Int × Bool) (x : Bool) : Option (Int × Int) := bif x then some (pe.1, y.1) else none
def Lb (s : Str) (pe : Int × Str) : Option (Option (Int × Int)) :=
  (strings_TrimPrefix s pe.2).bind fun JC => (zN JC).bind fun CK => bif (!CK.2) then (jg (⟨pe.1, CK.1⟩ : Tok)).bind fun qA => some (joO pe CK (decide ((qA : Str) = s))) else some (joO pe CK false)
theorem Uy (pe : Int × Str) (y : Int × Bool) (a b : Int) (x : Bool) : rZ pe y a b x = some ((joO pe y x).getD (a, b)) := by
  unfold rZ joO; cases x <;> rfl
theorem Uz (s : Str) (pe : Int × Str) (st : Int × Int) : nK s pe st = (Lb s pe).bind fun o => some (o.getD st) := by
  obtain ⟨a, b⟩ := st
  unfold nK Lb
  simp only [Uy]
  cases strings_TrimPrefix s pe.2 with
  | none => rfl
  | some y =>
    simp only [bnd]
    cases zN y with
    | none => rfl
    | some z =>
      simp only [bnd]
      cases z.2 with
      | true => rfl
      | false =>
        simp only [Bool.not_false, cond_true]
        cases jg (⟨pe.1, z.1⟩ : Tok) <;> rfl
def gO (s : Str) (p : Int × Str) : Option (Int × Int) := (Lb s p).join
def okW (s : Str) : Bool := M9.all (fun p => (Lb s p).isSome) && M9.all (fun p => M9.all fun q => (gO s p).isNone || (gO s q).isNone || decide (p = q))
def aan (s : Str) : Int × Int := (M9.findSome? (gO s)).getD (0, 0)
theorem UA {s : Str} (h : okW s = true) : wP (nK s) M9 (0, 0) = some (aan s) := by
  unfold okW at h
  rw [Bool.and_eq_true, List.all_eq_true, List.all_eq_true] at h
  refine LU (PM (g := gO s) (fun p hp st => ?_) (fun p hp q hq h1 h2 => ?_) (by decide) (0, 0))
  · have h1 := h.1 p hp
    rw [Uz]
    unfold gO
    cases e : Lb s p with
    | none => rw [e] at h1; cases h1
    | some o => cases o <;> rfl
  · have := List.all_eq_true.1 (h.2 p hp) q hq
    rw [Bool.or_eq_true, Bool.or_eq_true] at this
    rcases this with (e | e) | e
    · exact absurd (Option.isNone_iff_eq_none.1 e) h1
    · exact absurd (Option.isNone_iff_eq_none.1 e) h2
    · exact of_decide_eq_true e
def SA (s : Str) : Option (Int × Int) := bif okW s then some (aan s) else wP (nK s) M9 (0, 0)
theorem SB (s : Str) : SA s = wP (nK s) M9 (0, 0) := by
  unfold SA
  cases e : okW s with
  | false => rfl
  | true => exact (UA e).symm
def tY (N : Nat) (xS : List Tok) (F : List eX) (yz : Int) (xO : (List Tok × Int × Bool × Int) → Option (List Tok × dJ)) (x29 : Str) (Fq : Bool) (y31 : Int) : Option (List Tok × dJ) :=
  (SA x29).bind fun KL => (CL N x29 xS F y31 yz xO Fq) KL
theorem Gy : @tY = @r9 := by
  funext a b c d e f g h
  unfold tY r9
  rw [SB]
def xn (N : Nat) (W : List Str) (F : List eX) (s : List Tok × Int × Bool × Int) (xO : List Tok × Int × Bool × Int → Option (List Tok × dJ)) : Option (List Tok × dJ) :=
  match s with | (xS, yz, Ml, y20) => bif (decide ((0 : Int) < yz) && Ml) then bif decide (((W.length : Int) : Int) ≤ y20) then tY N xS F yz xO [] false y20 else gQ (jB (y20 + 1)) (gQ (jB ((y20 + 1) - 1)) ((idx W ((y20 + 1) - 1)).bind fun x103 => tY N xS F yz xO x103 Ml (y20 + 1))) else some (xS, (⟨y20, Ml⟩ : dJ))
theorem Gz : @xn = @si := by
  unfold xn si
  rw [Gy]
def Da (N : Nat) (sx : dJ) (W : List Str) (F : List eX) : Option (List Tok × dJ) :=
  again (xn N W F) N ([], 1, sx.ok, sx.at_)
theorem IP : @Da = @CO := by
  unfold Da CO
  rw [Gz]
def tZ (N : Nat) (F0 : dJ → List Str → List eX → Int → Option (List bG × dJ)) (lq : Int) (W : List Str) (F : List eX) (a : Int) (l9 : List bG) (xz : Int) (kR : (List bG × Int × Bool) → Option (List bG × dJ)) (Mt : Int) (Mv : Bool) (sQ : List Tok) : Option (List bG × dJ) :=
  bif decide (((lq + 1) : Int) = 2) then (Da N (⟨Mt, Mv⟩ : dJ) W F).bind fun JC => sj F0 lq a W F l9 xz sQ kR JC.2.at_ JC.2.ok JC.1 else sj F0 lq a W F l9 xz sQ kR Mt Mv []
theorem GA : @tZ = @su := by
  unfold tZ su
  rw [IP]
def qG (N : Nat) (F0 : dJ → List Str → List eX → Int → Option (List bG × dJ)) (lq : Int) (W : List Str) (F : List eX) (a : Int) (l9 : List bG) (kR : (List bG × Int × Bool) → Option (List bG × dJ)) (vY : Int) (yT : Bool) (xz : Int) : Option (List bG × dJ) :=
  bif decide (((lq + 1) : Int) ≠ 4) then (Da N (⟨vY, yT⟩ : dJ) W F).bind fun y95 => tZ N F0 lq W F a l9 xz kR y95.2.at_ y95.2.ok y95.1 else tZ N F0 lq W F a l9 xz kR vY yT []
theorem GD : @qG = @qc := by
  unfold qG qc
  rw [IP, GA]
def uf (N : Nat) (F0 : dJ → List Str → List eX → Int → Option (List bG × dJ)) (l9 : List bG) (W : List Str) (F : List eX) (a : Int) (kR : (List bG × Int × Bool) → Option (List bG × dJ)) (x27 : Str) (y28 : Int) (y29 : Bool) : Option (List bG × dJ) :=
  bif decide ((x27 : Str) = [125]) then some (l9, (⟨y28, y29⟩ : dJ)) else (Cv [115, 101, 116, 32, 112, 117, 116, 32, 115, 97, 121, 32, 112, 97, 117, 115, 101, 32, 103, 111, 32, 105, 102, 32, 119, 104, 105, 108, 101, 32, 114, 101, 116, 117, 114, 110]).bind fun y31 => (slices_Index_string y31 x27).bind fun lq => gQ (jB (lq + 1)) (bif (!(y29 && decide ((0 : Int) < (lq + 1)))) then some ([], (⟨y28, (y29 && decide ((0 : Int) < (lq + 1)))⟩ : dJ)) else bif decide (((lq + 1) : Int) ≤ 2) then bif decide (((W.length : Int) : Int) ≤ y28) then (zN []).bind fun y104 => qG N F0 lq W F a l9 kR y28 false y104.1 else gQ (jB (y28 + 1)) (gQ (jB ((y28 + 1) - 1)) ((idx W ((y28 + 1) - 1)).bind fun Mw => (zN Mw).bind fun Mx => qG N F0 lq W F a l9 kR (y28 + 1) (y29 && decide ((0 : Int) < (lq + 1))) Mx.1)) else qG N F0 lq W F a l9 kR y28 (y29 && decide ((0 : Int) < (lq + 1))) 0)
theorem GG : @uf = @sD := by
  unfold uf sD
  rw [GD]
def xq (N : Nat) (F0 : dJ → List Str → List eX → Int → Option (List bG × dJ)) (W : List Str) (F : List eX) (a : Int) (s : List bG × Int × Bool) (kR : List bG × Int × Bool → Option (List bG × dJ)) : Option (List bG × dJ) :=
  match s with | (l9, Cj, G6) => bif G6 then bif decide (((W.length : Int) : Int) ≤ Cj) then uf N F0 l9 W F a kR [] Cj false else gQ (jB (Cj + 1)) (gQ (jB ((Cj + 1) - 1)) ((idx W ((Cj + 1) - 1)).bind fun F5 => uf N F0 l9 W F a kR F5 (Cj + 1) G6)) else some ([], (⟨Cj, G6⟩ : dJ))
theorem GH : @xq = @sF := by
  unfold xq sF
  rw [GG]
def vM (N : Nat) (F0 : dJ → List Str → List eX → Int → Option (List bG × dJ)) (W : List Str) (F : List eX) (a : Int) (y1 : Int) (y2 : Bool) : Option (List bG × dJ) :=
  again (xq N F0 W F a) N ([], y1, y2)
theorem Hr : @vM = @uB := by
  unfold vM uB
  rw [GH]
def ug (N : Nat) (F0 : dJ → List Str → List eX → Int → Option (List bG × dJ)) (W : List Str) (F : List eX) (a : Int) (BD : Bool) (EZ : Int) (JE : Bool) : Option (List bG × dJ) :=
  bif BD then vM N F0 W F a EZ false else vM N F0 W F a EZ JE
theorem GI : @ug = @sG := by
  unfold ug sG
  rw [Hr]
def wX (N : Nat) (F0 : dJ → List Str → List eX → Int → Option (List bG × dJ)) (sx : dJ) (W : List Str) (F : List eX) (a : Int) : Option (List bG × dJ) :=
  bif decide (((W.length : Int) : Int) ≤ sx.at_) then ug N F0 W F a true sx.at_ false else gQ (jB (sx.at_ + 1)) (gQ (jB ((sx.at_ + 1) - 1)) ((idx W ((sx.at_ + 1) - 1)).bind fun KM => ug N F0 W F a (decide ((KM : Str) ≠ [123]) || decide ((6 : Int) < a)) (sx.at_ + 1) sx.ok))
theorem JY : @wX = @vZ := by
  unfold wX vZ
  rw [GI]
def yu : Nat → dJ → List Str → List eX → Int → Option (List bG × dJ)
  | 0 => fun _ _ _ _ => none
  | N + 1 => wX N (yu N)
theorem GJ : ∀ N, yu N = uC N
  | 0 => rfl
  | N + 1 => by show wX N (yu N) = vZ N (uC N); rw [JY, GJ N]
def iM (N : Nat) (y1 : List Str) (qA : List eX) (i101 : Int) (j5 : (List eX × Int × Bool) → Option (List eX × Int)) (E5 : Int) (y112 : Bool) : Option (List eX × Int) :=
  (yu N (⟨E5, y112⟩ : dJ) y1 qA 1).bind fun jJ => (idx qA i101).bind fun vO => j5 ((qA.set (i101).toNat { vO with body := jJ.1 }), jJ.2.at_, jJ.2.ok)
theorem uU : @iM = @gV := by
  unfold iM gV
  rw [show @yu = @uC from funext GJ]
def iN (N : Nat) (y1 : List Str) (qA : List eX) (i101 : Int) (j5 : (List eX × Int × Bool) → Option (List eX × Int)) (xk : Int) (JG : Bool) : Option (List eX × Int) :=
  bif decide (((y1.length : Int) : Int) ≤ xk) then iM N y1 qA i101 j5 xk false else gQ (jB (xk + 1)) (gQ (jB ((xk + 1) - 1)) ((idx y1 ((xk + 1) - 1)).bind fun Ue => iM N y1 qA i101 j5 (xk + 1) JG))
theorem uV : @iN = @gW := by
  unfold iN gW
  rw [uU]
def iO (N : Nat) (y1 : List Str) (qA : List eX) (i101 : Int) (j5 : (List eX × Int × Bool) → Option (List eX × Int)) (om : Int) (JH : Bool) : Option (List eX × Int) :=
  bif decide (((y1.length : Int) : Int) ≤ om) then iN N y1 qA i101 j5 om false else gQ (jB (om + 1)) (gQ (jB ((om + 1) - 1)) ((idx y1 ((om + 1) - 1)).bind fun Uf => iN N y1 qA i101 j5 (om + 1) JH))
theorem uW : @iO = @gX := by
  unfold iO gX
  rw [uV]
def iP (N : Nat) (y1 : List Str) (qA : List eX) (i101 : Int) (j5 : (List eX × Int × Bool) → Option (List eX × Int)) (KN : Bool) (E8 : Int) (JI : Bool) : Option (List eX × Int) :=
  bif KN then iO N y1 qA i101 j5 E8 false else iO N y1 qA i101 j5 E8 JI
theorem uX : @iP = @gY := by
  unfold iP gY
  rw [uW]
def jY (N : Nat) (y1 : List Str) (i101 : Int) (s : List eX × Int × Bool) (j5 : List eX × Int × Bool → Option (List eX × Int)) : Option (List eX × Int) :=
  match s with | (qA, y98, y99) => bif decide (((y1.length : Int) : Int) ≤ y98) then iP N y1 qA i101 j5 true y98 false else gQ (jB (y98 + 1)) (gQ (jB ((y98 + 1) - 1)) ((idx y1 ((y98 + 1) - 1)).bind fun x152 => iP N y1 qA i101 j5 (decide ((x152 : Str) ≠ [102, 117, 110])) (y98 + 1) y99))
theorem uY : @jY = @gZ := by
  unfold jY gZ
  rw [uX]
def jZ (N : Nat) (y1 : List Str) (a : Str) (vE : List eX) (s : Unit) : Option (List eX × Int) :=
  upto (jY N y1) (iX N y1 a) 0 ((vE.length : Int)).toNat (vE, 0, true)
theorem uZ : @jZ = @ib := by
  unfold jZ ib
  rw [uY]
def j3 (N : Nat) (y1 : List Str) (a : Str) (vE : List eX) : Option (List eX × Int) :=
  bif (decide (((vE.length : Int) : Int) = 0) || decide ((4 : Int) < (vE.length : Int))) then some ([], 1) else upto (iY vE) (jZ N y1 a vE) 0 ((vE.length : Int)).toNat ()
theorem u7 : @j3 = @ic := by
  unfold j3 ic
  rw [uZ]
def mY (N : Nat) (a : Str) : Option (List eX × Int) :=
  (Jg a [32]).bind fun y1 => eO (iZ y1) (j3 N y1 a) 0 y1 []
theorem xu : @mY = @jW := by
  unfold mY jW
  rw [u7]
def pX (N : Nat) : Option (List eX) :=
  (mY N [102, 117, 110, 32, 48, 32, 49, 32, 123, 32, 115, 101, 116, 32, 48, 32, 51, 32, 119, 104, 105, 108, 101, 32, 118, 48, 32, 123, 32, 115, 97, 121, 32, 102, 49, 32, 118, 48, 32, 118, 48, 32, 103, 111, 32, 118, 48, 32, 112, 97, 117, 115, 101, 32, 115, 101, 116, 32, 48, 32, 45, 32, 118, 48, 32, 49, 32, 125, 32, 125, 32, 102, 117, 110, 32, 50, 32, 50, 32, 123, 32, 114, 101, 116, 117, 114, 110, 32, 42, 32, 118, 48, 32, 118, 49, 32, 125]).bind fun y1 => some y1.1
theorem zG : @pX = @jS := by
  unfold pX jS
  rw [xu]
abbrev NN : Nat := 70000
theorem PN : jS NN = pX NN := by rw [zG]
theorem Xo : oo NN = some true := by
  unfold oo
  rw [PN]
  kernel_rfl
end
end Go.Proofs.YtfclkapelkhlpaaGreatDoor
namespace Go.Proofs.YtfclkapelkhlpaaGreatDoor
open Go Go.Proofs Go.LX
theorem Db (a b : Int) : (decide (a < 0) || decide (b ≤ a)) = !aY a b := by
  unfold aY; rw [Bool.eq_iff_iff]; simp; try omega
theorem Xp {α : Type} (x : α) (l : List α) : idx (x :: l) 0 = some x := by simp [idx]
theorem NV {l : List Int} : l.length = 1 ↔ ∃ x, l = [x] := by
  match l with
  | [] => simp
  | [x] => simp
  | x :: y :: r => simp
def xw (i : Nat) (x : cz) : Int :=
  if (0 ≤ x.params ∧ x.params ≤ 3) ∧ (1 ≤ x.regs ∧ x.params ≤ x.regs ∧ x.regs ≤ 40) ∧ ¬ (i = 0 ∧ x.params ≠ 0) then (if 1 ≤ x.code.length ∧ x.code.length ≤ 2000 then 0 else 2) else 3
theorem Xq (i : Nat) (x : cz) (nx : Unit → Option Int) : iE (i : Int) x () nx = if xw i x ≠ 0 then some (xw i x) else nx () := by
  unfold iE xw
  by_cases h1 : (0 ≤ x.params ∧ x.params ≤ 3) ∧ (1 ≤ x.regs ∧ x.params ≤ x.regs ∧ x.regs ≤ 40) ∧ ¬ (i = 0 ∧ x.params ≠ 0)
  · have e : (((((decide ((x.params : Int) < 0) || decide ((3 : Int) < x.params)) || decide ((x.regs : Int) < 1)) || decide ((x.regs : Int) < x.params)) || decide ((40 : Int) < x.regs)) || (decide ((i : Int) = 0) && decide ((0 : Int) < x.params))) = false := by
      simp only [Bool.or_eq_false_iff, Bool.and_eq_false_iff, decide_eq_false_iff_not]; omega
    rw [e, if_pos h1]
    simp only [cond_false]
    by_cases h2 : 1 ≤ x.code.length ∧ x.code.length ≤ 2000
    · rw [if_pos h2, show (decide (((x.code.length : Int) : Int) = 0) || decide ((2000 : Int) < (x.code.length : Int))) = false by simp only [Bool.or_eq_false_iff, decide_eq_false_iff_not]; omega]
      rfl
    · rw [if_neg h2, show (decide (((x.code.length : Int) : Int) = 0) || decide ((2000 : Int) < (x.code.length : Int))) = true by simp only [Bool.or_eq_true, decide_eq_true_eq]; omega]
      rfl
  · have e : (((((decide ((x.params : Int) < 0) || decide ((3 : Int) < x.params)) || decide ((x.regs : Int) < 1)) || decide ((x.regs : Int) < x.params)) || decide ((40 : Int) < x.regs)) || (decide ((i : Int) = 0) && decide ((0 : Int) < x.params))) = true := by
      simp only [Bool.or_eq_true, Bool.and_eq_true, decide_eq_true_eq]; omega
    rw [e, if_neg h1]
    rfl
def heads : Nat → List cz → Int
  | _, [] => 0
  | i, x :: p => if xw i x ≠ 0 then xw i x else heads (i + 1) p
theorem GK (k : Unit → Option Int) : ∀ (p : List cz) (i : Nat), eO iE k (i : Int) p () = if heads i p ≠ 0 then some (heads i p) else k ()
  | [], i => by simp [heads, eO]
  | x :: p, i => by
    show iE (i : Int) x () (eO iE k ((i : Int) + 1) p) = _
    rw [Xq, show ((i : Int) + 1) = ((i + 1 : Nat) : Int) by omega, GK k p (i + 1), heads]
    by_cases h : xw i x = 0 <;> simp [h]
end Go.Proofs.YtfclkapelkhlpaaGreatDoor
namespace Go.Proofs.YtfclkapelkhlpaaGreatDoor
open Go Go.Proofs Go.LX
def qi (x : cz) : Prop := 1 ≤ x.code.length ∧ x.code.length ≤ 2000
theorem dP {α σ ρ : Type} {body : α → σ → (σ → ρ) → ρ} {k : σ → ρ} (x : α) (l : List α) (s : σ) : each body k (x :: l) s = body x s (each body k l) := rfl
theorem gU {α σ ρ : Type} {body : α → σ → (σ → ρ) → ρ} {k : σ → ρ} (s : σ) : each body k [] s = k s := rfl
theorem SC (d : Int) : ∀ l : List Int, ∃ y, each (l5 d) qF l () = some y
  | [] => ⟨0, rfl⟩
  | x :: l => by
    obtain ⟨y, hy⟩ := SC d l
    rw [dP]
    unfold l5
    cases (!(decide ((0 : Int) ≤ x) && decide ((x : Int) < d))) with
    | true => exact ⟨3, rfl⟩
    | false => exact ⟨y, hy⟩
theorem SE (x9 : Bool) (a : Ins) (b Fv : Int) (c : List cz) (y13 zB d P8 : Int) : ∃ y, dR x9 a b Fv c y13 zB d P8 = some y ∧ (y = 0 → (a.args.length : Int) = zB) := by
  unfold dR
  cases x9 with
  | false => exact ⟨3, rfl, fun h => absurd h (by decide)⟩
  | true =>
    simp only [Bool.not_true, cond_false]
    generalize hc : (((decide ((a.a : Int) ≠ P8) || decide ((a.b : Int) ≠ Fv)) || decide ((a.c : Int) ≠ y13)) || decide (((a.args.length : Int) : Int) ≠ zB)) = C
    cases C with
    | true => exact ⟨4, rfl, fun h => absurd h (by decide)⟩
    | false =>
      simp only [Bool.or_eq_false_iff, decide_eq_false_iff_not, Decidable.not_not] at hc
      simp only [cond_false]
      cases decide ((a.op : Int) = 7) with
      | true => obtain ⟨y, hy⟩ := SC d a.args; exact ⟨y, hy, fun _ => hc.2⟩
      | false => exact ⟨0, rfl, fun _ => hc.2⟩
theorem Xr (a : Ins) (b : Int) (c : List cz) (d : Int) (x9 : Bool) (zB O6 Fv y13 : Int) : ∃ y, cu a b c d x9 zB O6 Fv y13 = some y ∧ (y = 0 → (a.args.length : Int) = zB) := by
  unfold cu
  cases decide ((a.op : Int) = 12) with
  | true => exact SE x9 a b Fv c y13 zB d 0
  | false => exact SE x9 a b Fv c y13 zB d O6
def JZ (a : Ins) (r : Option Int) : Prop := ∃ y, r = some y ∧ (y = 0 → a.args.length ≤ 3)
theorem Ht (a : Ins) (b : Int) (c : List cz) (d : Int) (x9 : Bool) {zB : Int} (O6 Fv y13 : Int) (h : zB ≤ 3) : JZ a (cu a b c d x9 zB O6 Fv y13) := by
  obtain ⟨y, h1, h2⟩ := Xr a b c d x9 zB O6 Fv y13
  exact ⟨y, h1, fun h0 => by have := h2 h0; omega⟩
theorem oq {a : Ins} {c : Bool} {x y : Option Int} (h1 : JZ a x) (h2 : JZ a y) : JZ a (bif c then x else y) := by
  cases c
  · exact h2
  · exact h1
theorem GL {a : Ins} {e : Int} (h : e ≠ 0) : JZ a (some e) := ⟨e, rfl, fun h0 => absurd h0 h⟩
theorem PO (a : Ins) (b : Int) (c : List cz) (d e : Int) (hp : ∀ x ∈ c, x.params ≤ 3) : JZ a (gJ a b c d e) := by
  unfold gJ
  refine oq (GL (by decide)) (oq (GL (by decide)) (oq (Ht _ _ _ _ _ _ _ _ (by decide)) (oq (Ht _ _ _ _ _ _ _ _ (by decide)) ?_)))
  have k12 : ∀ x, JZ a (dB a b c d x) := fun x => by
    unfold dB
    exact oq (Ht _ _ _ _ _ _ _ _ (by decide)) (oq (Ht _ _ _ _ _ _ _ _ (by decide)) (Ht _ _ _ _ _ _ _ _ (by decide)))
  have k11 : ∀ x, JZ a (dH a b c d e x) := fun x => by
    unfold dH
    refine oq (Ht _ _ _ _ _ _ _ _ (by decide)) ?_
    cases decide ((a.op : Int) = 7) with
    | false =>
      rw [cond_false]
      exact oq (k12 _) (oq (k12 _) (k12 _))
    | true =>
      simp only [cond_true]
      rw [Db]
      cases hb : aY a.b (c.length : Int) with
      | false => exact GL (by decide)
      | true =>
        simp only [Bool.not_true, cond_false]
        unfold aY at hb
        simp only [Bool.and_eq_true, decide_eq_true_eq] at hb
        obtain ⟨n, hn⟩ := Int.eq_ofNat_of_zero_le hb.1
        rw [hn, wY (by omega), Option.bind_some]
        exact Ht _ _ _ _ _ _ _ _ (hp _ (List.getElem_mem _))
  have k10 : ∀ x, JZ a (dI a b c d e x) := fun x => by
    unfold dI
    refine oq (Ht _ _ _ _ _ _ _ _ (by decide)) ?_
    cases decide ((a.op : Int) = 3) with
    | false =>
      rw [cond_false]
      exact oq (k11 _) (k11 _)
    | true =>
      simp only [cond_true]
      by_cases h1 : a.args.length = 1
      · rw [dT (show ((a.args.length : Int) : Int) = 1 by omega)]
        obtain ⟨y, hy⟩ := NV.1 h1
        simp only [cond_true]
        rw [show idx a.args 0 = some y by rw [hy, Xp], Option.bind_some]
        exact Ht _ _ _ _ _ _ _ _ (by decide)
      · rw [dF (show ¬ ((a.args.length : Int) : Int) = 1 by omega)]
        exact Ht _ _ _ _ _ _ _ _ (by decide)
  exact oq (k10 _) (k10 _)
def Good (a : List cz) : Prop := a.length ≤ 4 ∧ ∀ x ∈ a, qi x ∧ ∀ c ∈ x.code, c.args.length ≤ 3
theorem Lc {i : Nat} {x : cz} (h : xw i x = 0) : x.params ≤ 3 ∧ qi x := by
  unfold xw at h
  split at h
  · split at h
    · exact ⟨by omega, by unfold qi; omega⟩
    · cases h
  · cases h
theorem GM : ∀ (p : List cz) (i : Nat), heads i p = 0 → ∀ x ∈ p, x.params ≤ 3 ∧ qi x
  | [], _, _, x, hx => by cases hx
  | y :: p, i, h, x, hx => by
    unfold heads at h
    split at h
    · rename_i h1; exact absurd h h1
    · rename_i h1
      rcases List.mem_cons.1 hx with rfl | hx
      · exact Lc (Decidable.not_not.1 h1)
      · exact GM p (i + 1) h x hx
theorem NW (a : List cz) (x : cz) (k : Unit → Option Int) (hp : ∀ x ∈ a, x.params ≤ 3) (Q : Prop) (hk : ∃ y, k () = some y ∧ (y = 0 → Q)) : ∀ (l : List Ins) (i : Int), ∃ y, eO (fK a x) k i l () = some y ∧ (y = 0 → Q ∧ ∀ c ∈ l, c.args.length ≤ 3)
  | [], i => by
    obtain ⟨y, h1, h2⟩ := hk
    exact ⟨y, h1, fun h => ⟨h2 h, by intro c hc; cases hc⟩⟩
  | c :: l, i => by
    obtain ⟨y, h1, h2⟩ := NW a x k hp Q hk l (i + 1)
    have e1 : eO (fK a x) k i (c :: l) () = fK a x i c () (eO (fK a x) k (i + 1) l) := rfl
    rw [e1]
    unfold fK
    obtain ⟨z, g1, g2⟩ := PO c i a x.regs (x.code.length : Int) hp
    rw [g1, Option.bind_some]
    by_cases hz : z = 0
    · rw [dF (by omega), cond_false]
      refine ⟨y, h1, fun h => ⟨(h2 h).1, fun d hd => ?_⟩⟩
      rcases List.mem_cons.1 hd with rfl | hd
      · exact g2 hz
      · exact (h2 h).2 d hd
    · rw [dT hz, cond_true]
      exact ⟨z, rfl, fun h => absurd h hz⟩
theorem NY (a : List cz) (hp : ∀ x ∈ a, x.params ≤ 3 ∧ qi x) : ∀ l : List cz, (∀ x ∈ l, x.params ≤ 3 ∧ qi x) → ∃ y, each (jD a) mG l () = some y ∧ (y = 0 → ∀ x ∈ l, ∀ c ∈ x.code, c.args.length ≤ 3)
  | [], _ => ⟨0, rfl, fun _ x hx => by cases hx⟩
  | x :: l, hl => by
    obtain ⟨y, h1, h2⟩ := NY a hp l (fun z hz => hl z (List.mem_cons_of_mem _ hz))
    rw [dP]
    unfold jD
    have hx := hl x (by simp)
    obtain ⟨z, g1, g2⟩ := NW a x (mF x (each (jD a) mG l)) (fun x hx => (hp x hx).1) (∀ x ∈ l, ∀ c ∈ x.code, c.args.length ≤ 3) (by
      unfold mF
      have h3 := hx.2
      unfold qi at h3
      rw [gI, show ((x.code.length : Int) - 1) = ((x.code.length - 1 : Nat) : Int) by omega, wY (by omega), Option.bind_some]
      cases (decide ((x.code[x.code.length - 1].op : Int) ≠ 8) && decide ((x.code[x.code.length - 1].op : Int) ≠ 12)) with
      | true => exact ⟨4, rfl, fun h => absurd h (by decide)⟩
      | false => exact ⟨y, h1, h2⟩) x.code 0
    refine ⟨z, g1, fun h => ?_⟩
    intro w hw
    rcases List.mem_cons.1 hw with rfl | hw
    · exact (g2 h).2
    · exact (g2 h).1 w hw
theorem PQ (a : List cz) : ∃ y, pE a = some y ∧ (y = 0 → Good a) := by
  unfold pE
  generalize hc : (decide (((a.length : Int) : Int) = 0) || decide ((4 : Int) < (a.length : Int))) = C
  cases C with
  | true => exact ⟨2, rfl, fun h => absurd h (by decide)⟩
  | false =>
    simp only [Bool.or_eq_false_iff, decide_eq_false_iff_not] at hc
    have h1 : eO iE (kV a) 0 a () = _ := GK (kV a) a 0
    rw [cond_false, h1]
    by_cases hz : heads 0 a = 0
    · rw [if_neg (by omega)]
      have hp := GM a 0 hz
      obtain ⟨y, g1, g2⟩ := NY a hp a hp
      exact ⟨y, g1, fun h => ⟨by omega, fun x hx => ⟨(hp x hx).2, g2 h x hx⟩⟩⟩
    · rw [if_pos hz]
      exact ⟨_, rfl, fun h => absurd h hz⟩
def SF (a : List cz) : Int := (pE a).getD 0
theorem SG (a : List cz) : pE a = some (SF a) := by
  obtain ⟨y, h, _⟩ := PQ a
  unfold SF
  rw [h]; rfl
def wF (R x : Int) : Prop := 0 ≤ x ∧ x < R
def zH (a : List cz) (R L : Int) (c : Ins) : Prop :=
  (c.op = 1 ∧ wF R c.a ∧ (-1000000000 ≤ c.b ∧ c.b ≤ 1000000000)) ∨
  (c.op = 2 ∧ wF R c.a ∧ wF R c.b) ∨
  (c.op = 3 ∧ wF R c.a ∧ wF R c.b ∧ wF R c.c ∧ ∃ n, c.args = [n] ∧ 1 ≤ n ∧ n ≤ 5) ∨
  ((c.op = 4 ∨ c.op = 6) ∧ wF R c.a ∧ wF R c.b ∧ (0 ≤ c.c ∧ c.c < 4)) ∨
  (c.op = 5 ∧ wF R c.a ∧ (1 ≤ c.b ∧ c.b ≤ 4)) ∨
  (c.op = 7 ∧ wF R c.a ∧ (∃ p, idx a c.b = some p ∧ (c.args.length : Int) = p.params) ∧ ∀ x ∈ c.args, wF R x) ∨
  ((c.op = 8 ∨ c.op = 9 ∨ c.op = 11) ∧ wF R c.a) ∨
  c.op = 10 ∨
  (c.op = 12 ∧ (0 ≤ c.b ∧ c.b < L)) ∨
  (c.op = 13 ∧ wF R c.a ∧ (0 ≤ c.b ∧ c.b < L))
theorem NZ (R : Int) : ∀ l : List Int, each (l5 R) qF l () = some 0 → ∀ x ∈ l, wF R x
  | [], _, x, hx => by cases hx
  | y :: l, h, x, hx => by
    rw [dP] at h
    unfold l5 at h
    cases e : (!(decide ((0 : Int) ≤ y) && decide ((y : Int) < R))) with
    | true => rw [e, cond_true] at h; cases h
    | false =>
      rw [e, cond_false] at h
      rcases List.mem_cons.1 hx with rfl | hx
      · simp at e; exact e
      · exact NZ R l h x hx
theorem UB {c : Ins} {i : Int} {a : List cz} {R L : Int} (h : gJ c i a R L = some 0) : zH a R L c := by
  obtain ⟨op, ca, cb, cc, args⟩ := c
  by_cases h1 : op = 1
  · subst h1
    simp [gJ, bO, dM, fe, fG, dZ, cu, dR, dI, dH, dB, Bool.cond_eq_ite] at h
    simp [zH, wF]
    (repeat (split at h; · simp at h))
    omega
  by_cases h2 : op = 2
  · subst h2
    simp [gJ, bO, dM, fe, fG, dZ, cu, dR, dI, dH, dB, Bool.cond_eq_ite] at h
    simp [zH, wF]
    (repeat (split at h; · simp at h))
    omega
  by_cases h3 : op = 3
  · subst h3
    simp [gJ, bO, dM, fe, fG, dZ, cu, dR, dI, dH, dB, Bool.cond_eq_ite] at h
    simp [zH, wF]
    by_cases hl : args.length = 1
    · obtain ⟨y, rfl⟩ := NV.1 hl
      simp [Xp] at h
      split at h
      · simp at h
      split at h
      · simp at h
      refine ⟨by omega, by omega, by omega, y, rfl, by omega, by omega⟩
    · exfalso
      rw [if_neg (show ¬ ((args.length : Int) = 1) by omega)] at h
      split at h <;> simp at h
  by_cases h4 : op = 4
  · subst h4
    simp [gJ, bO, dM, fe, fG, dZ, cu, dR, dI, dH, dB, Bool.cond_eq_ite] at h
    simp [zH, wF]
    (repeat (split at h; · simp at h))
    omega
  by_cases h5 : op = 5
  · subst h5
    simp [gJ, bO, dM, fe, fG, dZ, cu, dR, dI, dH, dB, Bool.cond_eq_ite] at h
    simp [zH, wF]
    (repeat (split at h; · simp at h))
    omega
  by_cases h6 : op = 6
  · subst h6
    simp [gJ, bO, dM, fe, fG, dZ, cu, dR, dI, dH, dB, Bool.cond_eq_ite] at h
    simp [zH, wF]
    (repeat (split at h; · simp at h))
    omega
  by_cases h7 : op = 7
  · subst h7
    simp [gJ, bO, dM, fe, fG, dZ, cu, dR, dI, dH, dB, Bool.cond_eq_ite] at h
    simp [zH, wF]
    split at h
    · simp at h
    split at h
    · simp at h
    obtain ⟨p, hp, h⟩ := aP h
    (repeat (split at h; · simp at h))
    refine ⟨by omega, ⟨p, hp, by omega⟩, fun x hx => NZ R args h x hx⟩
  by_cases h8 : op = 8
  · subst h8
    simp [gJ, bO, dM, fe, fG, dZ, cu, dR, dI, dH, dB, Bool.cond_eq_ite] at h
    simp [zH, wF]
    (repeat (split at h; · simp at h))
    omega
  by_cases h9 : op = 9
  · subst h9
    simp [gJ, bO, dM, fe, fG, dZ, cu, dR, dI, dH, dB, Bool.cond_eq_ite] at h
    simp [zH, wF]
    (repeat (split at h; · simp at h))
    omega
  by_cases h10 : op = 10
  · subst h10
    simp [zH, wF]
  by_cases h11 : op = 11
  · subst h11
    simp [gJ, bO, dM, fe, fG, dZ, cu, dR, dI, dH, dB, Bool.cond_eq_ite] at h
    simp [zH, wF]
    (repeat (split at h; · simp at h))
    omega
  by_cases h12 : op = 12
  · subst h12
    simp [gJ, bO, dM, fe, fG, dZ, cu, dR, dI, dH, dB, Bool.cond_eq_ite] at h
    simp [zH, wF]
    (repeat (split at h; · simp at h))
    omega
  by_cases h13 : op = 13
  · subst h13
    simp [gJ, bO, dM, fe, fG, dZ, cu, dR, dI, dH, dB, Bool.cond_eq_ite] at h
    simp [zH, wF]
    (repeat (split at h; · simp at h))
    omega
  · exfalso
    simp [gJ, bO, dM, fe, fG, dZ, cu, dR, dI, dH, dB, Bool.cond_eq_ite, *] at h
structure nT (a : List cz) : Prop where
  many : 1 ≤ a.length ∧ a.length ≤ 4
  head : ∀ (i : Nat) x, a[i]? = some x → (0 ≤ x.params ∧ x.params ≤ 3) ∧ (1 ≤ x.regs ∧ x.params ≤ x.regs ∧ x.regs ≤ 40) ∧ ¬ (i = 0 ∧ x.params ≠ 0) ∧ qi x
  last : ∀ x ∈ a, ∃ c, idx x.code ((x.code.length : Int) - 1) = some c ∧ (c.op = 8 ∨ c.op = 12)
  ins : ∀ x ∈ a, ∀ c ∈ x.code, zH a x.regs x.code.length c
theorem IQ : ∀ (p : List cz) (j : Nat), heads j p = 0 → ∀ (i : Nat) x, p[i]? = some x → xw (j + i) x = 0
  | [], j, _, i, x, hx => by simp at hx
  | y :: p, j, h, i, x, hx => by
    unfold heads at h
    split at h
    · rename_i h1; exact absurd h h1
    · rename_i h1
      cases i with
      | zero => simp at hx; subst hx; exact Decidable.not_not.1 h1
      | succ i => rw [show j + (i + 1) = (j + 1) + i by omega]; exact IQ p (j + 1) h i x (by simpa using hx)
theorem N7 (a : List cz) (x : cz) (k : Unit → Option Int) : ∀ (l : List Ins) (i : Int), eO (fK a x) k i l () = some 0 → k () = some 0 ∧ ∀ c ∈ l, zH a x.regs x.code.length c
  | [], i, h => ⟨h, fun c hc => by cases hc⟩
  | y :: l, i, h => by
    have e1 : eO (fK a x) k i (y :: l) () = fK a x i y () (eO (fK a x) k (i + 1) l) := rfl
    rw [e1] at h
    unfold fK at h
    obtain ⟨z, hz, h⟩ := aP h
    by_cases z0 : z = 0
    · subst z0
      rw [dF (by simp), cond_false] at h
      obtain ⟨h1, h2⟩ := N7 a x k l (i + 1) h
      refine ⟨h1, fun c hc => ?_⟩
      rcases List.mem_cons.1 hc with rfl | hc
      · exact UB hz
      · exact h2 c hc
    · rw [dT z0, cond_true] at h
      exact absurd (Option.some.inj h) z0
theorem N8 (a : List cz) : ∀ l : List cz, each (jD a) mG l () = some 0 → ∀ x ∈ l, (∃ c, idx x.code ((x.code.length : Int) - 1) = some c ∧ (c.op = 8 ∨ c.op = 12)) ∧ ∀ c ∈ x.code, zH a x.regs x.code.length c
  | [], _, x, hx => by cases hx
  | y :: l, h, x, hx => by
    rw [dP] at h
    unfold jD at h
    obtain ⟨h1, h2⟩ := N7 a y _ y.code 0 h
    unfold mF at h1
    obtain ⟨_, h1⟩ := bI h1
    obtain ⟨c, hc, h1⟩ := aP h1
    cases e : (decide ((c.op : Int) ≠ 8) && decide ((c.op : Int) ≠ 12)) with
    | true => rw [e, cond_true] at h1; cases h1
    | false =>
      rw [e, cond_false] at h1
      rcases List.mem_cons.1 hx with rfl | hx
      · exact ⟨⟨c, hc, by simp only [Bool.and_eq_false_iff, decide_eq_false_iff_not, Decidable.not_not] at e; exact e⟩, h2⟩
      · exact N8 a l h1 x hx
theorem Ld {a : List cz} (h : SF a = 0) : nT a := by
  have h0 := SG a
  rw [h] at h0
  unfold pE at h0
  generalize hc : (decide (((a.length : Int) : Int) = 0) || decide ((4 : Int) < (a.length : Int))) = C at h0
  cases C with
  | true => cases h0
  | false =>
    simp only [Bool.or_eq_false_iff, decide_eq_false_iff_not] at hc
    have h1 : eO iE (kV a) 0 a () = _ := GK (kV a) a 0
    rw [cond_false, h1] at h0
    by_cases hz : heads 0 a = 0
    · rw [if_neg (by omega)] at h0
      have hb := N8 a a h0
      refine ⟨by omega, fun i x hx => ?_, fun x hx => (hb x hx).1, fun x hx => (hb x hx).2⟩
      have := IQ a 0 hz i x hx
      rw [Nat.zero_add] at this
      unfold xw at this
      split at this
      · rename_i g
        split at this
        · rename_i g2; exact ⟨g.1, g.2.1, g.2.2, g2⟩
        · cases this
      · cases this
    · rw [if_pos hz] at h0
      exact absurd (Option.some.inj h0) hz
end Go.Proofs.YtfclkapelkhlpaaGreatDoor
namespace Go.Proofs.YtfclkapelkhlpaaGreatDoor
open Go Go.Proofs Go.LX
theorem iG {α σ ρ : Type} {body : Int → α → σ → (σ → ρ) → ρ} {k : σ → ρ} (i : Int) (x : α) (l : List α) (s : σ) : eO body k i (x :: l) s = body i x s (eO body k (i + 1) l) := rfl
theorem IU {σ ρ : Type} {body : Int → σ → (σ → ρ) → ρ} {k : σ → ρ} (i : Int) (m : Nat) (s : σ) : upto body k i (m + 1) s = body i s (upto body k (i + 1) m) := rfl
theorem J2 {σ β : Type} {body : σ → (σ → Option β) → Option β} {m : Nat} {s : σ} : again body (m + 1) s = body s (again body m) := rfl
def gT (n : Nat) (v : Val) : Prop := (v.kind = 0 ∧ v.n = 0) ∨ (v.kind = 1 ∧ -1000000000 ≤ v.n ∧ v.n ≤ 1000000000) ∨ (v.kind = 2 ∧ 0 ≤ v.n ∧ v.n < n)
instance (n : Nat) (v : Val) : Decidable (gT n v) := inferInstanceAs (Decidable (_ ∨ _))
theorem Am (n : Nat) (v : Val) : cK v (n : Int) = 0 ↔ gT n v := by
  obtain ⟨k, m⟩ := v
  simp only [cK, gT, Bool.cond_eq_ite, Bool.or_eq_true, decide_eq_true_eq]
  constructor
  · intro h
    (repeat' split at h) <;> first | omega | (exfalso; omega)
  · intro h
    rcases h with ⟨h1, h2⟩ | ⟨h1, h2⟩ | ⟨h1, h2⟩
    · rw [if_pos h1, if_neg (by omega)]
    · rw [if_neg (by omega), if_pos h1, if_neg (by omega)]
    · rw [if_neg (by omega), if_neg (by omega), if_pos h1, if_neg (by omega)]
theorem Le (v : Val) (n : Int) : dN v n = cK v n := by
  obtain ⟨k, m⟩ := v
  simp only [cK, dN, lL, bC, eZ, aY, Bool.cond_eq_ite, Bool.or_eq_true, Bool.and_eq_true, Bool.not_eq_true', decide_eq_true_eq, decide_eq_false_iff_not, Bool.and_eq_false_iff]
  (repeat' split) <;> first | rfl | (exfalso; omega)
def ma (l : List (List Val)) : Prop := l.length ≤ 24 ∧ ∀ c ∈ l, (1 ≤ c.length ∧ c.length ≤ 4) ∧ ∀ v ∈ c, gT l.length v
theorem Lf (a : List (List Val)) : jX a = dE a := by
  unfold jX dE
  have k1 : ∀ (l : List Val) (f : Unit → Int), each (ja a) (jb f) l () = each (gM a) (fQ f) l () := by
    intro l f
    induction l with
    | nil => rfl
    | cons x l ih =>
      show (bif decide ((dN x (a.length : Int) : Int) ≠ 0) then dN x (a.length : Int) else each (ja a) (jb f) l ()) = (bif decide ((cK x (a.length : Int) : Int) ≠ 0) then cK x (a.length : Int) else each (gM a) (fQ f) l ())
      rw [Le, ih]
  have k2 : ∀ l : List (List Val), each (jc a) jd l () = each (iC a) gN l () := by
    intro l
    induction l with
    | nil => rfl
    | cons x l ih =>
      show (bif (!(bC (x.length : Int) 1 4)) then 2 else each (ja a) (jb (each (jc a) jd l)) x ()) = (bif (decide (((x.length : Int) : Int) = 0) || decide ((4 : Int) < (x.length : Int))) then 2 else each (gM a) (fQ (each (iC a) gN l)) x ())
      have e : (!(bC (x.length : Int) 1 4)) = (decide (((x.length : Int) : Int) = 0) || decide ((4 : Int) < (x.length : Int))) := by
        unfold bC; rw [Bool.eq_iff_iff]; simp only [Bool.or_eq_true, Bool.not_eq_true', Bool.and_eq_false_iff, decide_eq_true_eq, decide_eq_false_iff_not]; omega
      rw [e, k1]
      have : each (jc a) jd l = each (iC a) gN l := by funext u; exact ih
      rw [this]
  rw [k2]
theorem Na (a : List (List Val)) : dE a = 0 ↔ ma a := by
  have k1 : ∀ (l : List Val) (f : Unit → Int), each (gM a) (fQ f) l () = 0 ↔ (∀ v ∈ l, gT a.length v) ∧ f () = 0 := by
    intro l f
    induction l with
    | nil => simp [gU, fQ]
    | cons x l ih =>
      show (bif decide ((cK x (a.length : Int) : Int) ≠ 0) then cK x (a.length : Int) else each (gM a) (fQ f) l ()) = 0 ↔ _
      by_cases h : cK x (a.length : Int) = 0
      · rw [dF (by omega), cond_false, ih]
        have := (Am _ _).1 h
        simp [this]
      · rw [dT h, cond_true]
        have h2 : ¬ gT a.length x := fun e => h ((Am _ _).2 e)
        simp [h, h2]
  have k2 : ∀ l : List (List Val), each (iC a) gN l () = 0 ↔ ∀ c ∈ l, (1 ≤ c.length ∧ c.length ≤ 4) ∧ ∀ v ∈ c, gT a.length v := by
    intro l
    induction l with
    | nil => simp [gU, gN]
    | cons x l ih =>
      show (bif (decide (((x.length : Int) : Int) = 0) || decide ((4 : Int) < (x.length : Int))) then 2 else each (gM a) (fQ (each (iC a) gN l)) x ()) = 0 ↔ _
      by_cases h : 1 ≤ x.length ∧ x.length ≤ 4
      · rw [show (decide (((x.length : Int) : Int) = 0) || decide ((4 : Int) < (x.length : Int))) = false by simp only [Bool.or_eq_false_iff, decide_eq_false_iff_not]; omega, cond_false, k1, ih]
        simp [h]
      · rw [show (decide (((x.length : Int) : Int) = 0) || decide ((4 : Int) < (x.length : Int))) = true by simp only [Bool.or_eq_true, decide_eq_true_eq]; omega, cond_true]
        simp [h]
  unfold dE ma
  by_cases h : a.length ≤ 24
  · rw [dF (by omega), cond_false, k2]; simp [h]
  · rw [dT (by omega), cond_true]; simp [h]
structure xx (a : List cz) (n : Nat) (f : LX.Frame) (x : cz) : Prop where
  proc : idx a f.proc = some x
  at_ : 0 ≤ f.at_ ∧ f.at_ < x.code.length
  regs : (f.regs.length : Int) = x.regs
  vals : ∀ v ∈ f.regs, gT n v
def je (a : List cz) (n : Nat) : Int → List LX.Frame → Prop
  | _, [] => True
  | ahead, f :: l => (∃ x, xx a n f x) ∧ (0 ≤ f.l6 ∧ f.l6 < ahead) ∧ je a n f.regs.length l
structure uQ (a : List cz) (s : LX.State) : Prop where
  status : 0 ≤ s.status ∧ s.status ≤ 3
  aV : -1000000000 ≤ s.aV ∧ s.aV ≤ 1000000000
  stay : s.status ≠ 3 → s.aV = 0
  ended : s.status = 1 ↔ s.frames = []
  many : s.frames.length ≤ 10
  cells : ma s.cells
  frames : je a s.cells.length 1 s.frames
end Go.Proofs.YtfclkapelkhlpaaGreatDoor
namespace Go.Proofs.YtfclkapelkhlpaaGreatDoor
open Go Go.Proofs Go.LX
def ahead (pre : List LX.Frame) : Int := match pre.getLast? with | none => 1 | some f => f.regs.length
theorem IV : ahead [] = 1 := rfl
theorem Ch (pre : List LX.Frame) (f : LX.Frame) : ahead (pre ++ [f]) = f.regs.length := by simp [ahead]
theorem Ez (b : LX.State) (f : LX.Frame) (n1 : Unit → Option Int) (n2 : Int → Option Int) (hn : n1 () = n2 f.regs.length) : ∀ l : List Val, each (lV b) (lW n1) l () = each (kZ b) (lg n2 f) l ()
  | [] => hn
  | x :: l => by
    show (bif decide ((cK x (b.cells.length : Int) : Int) ≠ 0) then some (cK x (b.cells.length : Int)) else each (lV b) (lW n1) l ()) = (bif decide ((dN x (b.cells.length : Int) : Int) ≠ 0) then some (dN x (b.cells.length : Int)) else each (kZ b) (lg n2 f) l ())
    rw [Le, Ez b f n1 n2 hn l]
theorem Lg (b : LX.State) (n1 : Unit → Option Int) (Q : Prop) (hn : ∃ y, n1 () = some y ∧ (y = 0 ↔ Q)) : ∀ l : List Val, ∃ y, each (lV b) (lW n1) l () = some y ∧ (y = 0 ↔ (∀ v ∈ l, gT b.cells.length v) ∧ Q)
  | [] => by obtain ⟨y, h1, h2⟩ := hn; exact ⟨y, h1, by simp [h2]⟩
  | x :: l => by
    obtain ⟨y, h1, h2⟩ := Lg b n1 Q hn l
    have e : each (lV b) (lW n1) (x :: l) () = (bif decide ((cK x (b.cells.length : Int) : Int) ≠ 0) then some (cK x (b.cells.length : Int)) else each (lV b) (lW n1) l ()) := rfl
    rw [e]
    by_cases h : cK x (b.cells.length : Int) = 0
    · rw [dF (by omega), cond_false]
      have := (Am _ _).1 h
      exact ⟨y, h1, by rw [h2]; simp [this]⟩
    · rw [dT h, cond_true]
      refine ⟨_, rfl, ?_⟩
      have h3 : ¬ gT b.cells.length x := fun e => h ((Am _ _).2 e)
      simp [h, h3]
theorem EM (a : List cz) (b : LX.State) (hm : b.frames.length ≤ 10) : ∀ (l pre : List LX.Frame), b.frames = pre ++ l →
    eO (qf a b) sH (pre.length : Int) l () = each (eG a b) ig l (ahead pre)
  | [], pre, h => rfl
  | f :: l, pre, h => by
    have ih := EM a b hm l (pre ++ [f]) (by simpa using h)
    rw [Ch] at ih
    have hi : (((pre ++ [f]).length : Nat) : Int) = (pre.length : Int) + 1 := by simp
    rw [hi] at ih
    rw [iG, dP]
    generalize eO (qf a b) sH ((pre.length : Int) + 1) l = K1 at ih ⊢
    generalize each (eG a b) ig l = K2 at ih ⊢
    unfold qf eG
    have hl : pre.length ≤ 10 := by have := congrArg List.length h; simp at this; omega
    have e1 : (decide ((f.proc : Int) < 0) || decide (((a.length : Int) : Int) ≤ f.proc)) = !aY f.proc (a.length : Int) := Db _ _
    rw [e1]
    cases hp : aY f.proc (a.length : Int) with
    | false => rfl
    | true =>
      simp only [Bool.not_true, cond_false]
      cases hx : idx a f.proc with
      | none => rfl
      | some x =>
        simp only [bnd]
        cases ha : aY f.at_ (x.code.length : Int) with
        | false =>
          rw [show (((decide ((f.at_ : Int) < 0) || decide (((x.code.length : Int) : Int) ≤ f.at_)) || decide ((f.l6 : Int) < 0)) || (decide ((pre.length : Int) = 0) && decide ((f.l6 : Int) ≠ 0))) = true by
            have := Db f.at_ (x.code.length : Int)
            rw [ha] at this
            rw [this]; rfl]
          rfl
        | true =>
          have h3 := Db f.at_ (x.code.length : Int)
          rw [ha] at h3
          rw [h3]
          simp only [Bool.not_true, Bool.false_or, cond_false]
          have key : ∀ t, qd f x b K1 t = fO a f b K2 t := by
            intro t
            unfold qd fO
            rw [hx, bnd, Ez b f _ _ ih]
          simp only [key]
          rcases List.eq_nil_or_concat pre with rfl | ⟨q, g, rfl⟩
          · rw [IV]
            by_cases ht : f.l6 = 0
            · rw [show (decide ((f.l6 : Int) < 0) || (decide ((([] : List LX.Frame).length : Int) = 0) && decide ((f.l6 : Int) ≠ 0))) = false by simp [ht], cond_false, dF (by simp), cond_false, show (!aY f.l6 1) = false by simp [ht, aY]]
            · rw [show (decide ((f.l6 : Int) < 0) || (decide ((([] : List LX.Frame).length : Int) = 0) && decide ((f.l6 : Int) ≠ 0))) = true by simp [ht], cond_true, show (!aY f.l6 1) = true by simp [aY]; omega]
          · rw [List.concat_eq_append] at *
            rw [Ch]
            have hlen : ((q ++ [g]).length : Int) = (q.length : Int) + 1 := by simp
            rw [hlen, show (decide ((q.length : Int) + 1 = 0)) = false from dF (by omega), Bool.false_and, Bool.or_false]
            by_cases ht : f.l6 < 0
            · rw [dT ht, cond_true, show (!aY f.l6 (g.regs.length : Int)) = true by simp [aY]; omega]
            · rw [dF ht, cond_false, dT (by omega), cond_true, gI (by omega) (by simp at hl; omega), show (q.length : Int) + 1 - 1 = ((q.length : Nat) : Int) by omega, tT, h]
              simp only [List.append_assoc, List.getElem?_append_right (Nat.le_refl _), Nat.sub_self, List.cons_append, List.nil_append, List.getElem?_cons_zero, bnd]
              congr 1
              rw [Bool.eq_iff_iff]; simp [aY]; omega
theorem GN (a : List cz) (b : LX.State) : wo a b = nS a b := by
  unfold wo nS
  have e1 : (((decide ((b.status : Int) < 0) || decide ((3 : Int) < b.status)) || decide ((b.aV : Int) < -1000000000)) || decide ((1000000000 : Int) < b.aV)) = ((!(bC b.status 0 3)) || (!(eZ b.aV))) := by
    unfold eZ bC; rw [Bool.eq_iff_iff]; simp only [Bool.or_eq_true, Bool.not_eq_true', Bool.and_eq_false_iff, decide_eq_true_eq, decide_eq_false_iff_not]; omega
  have e2 : ((decide ((b.status : Int) ≠ 3) && decide ((b.aV : Int) ≠ 0)) || (decide ((b.status : Int) = 1) != decide (((b.frames.length : Int) : Int) = 0))) = (((decide ((b.aV : Int) ≠ 0) && decide ((b.status : Int) ≠ 3)) || (decide ((b.status : Int) = 1) && decide ((0 : Int) < (b.frames.length : Int)))) || (decide ((b.status : Int) ≠ 1) && decide (((b.frames.length : Int) : Int) = 0))) := by
    by_cases h1 : b.status = 1 <;> by_cases h2 : b.frames.length = 0 <;> by_cases h3 : b.status = 3 <;> by_cases h4 : b.aV = 0 <;> simp [h1, h2, h3, h4] <;> omega
  rw [e1, e2, Lf]
  by_cases h : b.frames.length ≤ 10
  · have := EM a b h b.frames [] rfl
    rw [IV] at this
    rw [← this]; rfl
  · rw [show (decide ((10 : Int) < (b.frames.length : Int))) = true from dT (by omega)]
    rfl
theorem GQ (a : List cz) (b : LX.State) : ∀ (l : List LX.Frame) (t : Int), ∃ y, each (eG a b) ig l t = some y ∧ (y = 0 ↔ je a b.cells.length t l)
  | [], t => ⟨0, rfl, by simp [je]⟩
  | f :: l, t => by
    obtain ⟨y, h1, h2⟩ := GQ a b l f.regs.length
    rw [dP]
    generalize each (eG a b) ig l = K2 at h1 ⊢
    unfold eG
    cases hp : aY f.proc (a.length : Int) with
    | false =>
      refine ⟨5, rfl, ?_⟩
      have : ¬ je a b.cells.length t (f :: l) := by
        rintro ⟨⟨x, g⟩, -, -⟩
        have := aJ g.proc
        have h3 := (List.getElem?_eq_some_iff.1 this.2).1
        unfold aY at hp
        simp only [Bool.and_eq_false_iff, decide_eq_false_iff_not] at hp
        omega
      simp [this]
    | true =>
      unfold aY at hp
      simp only [Bool.and_eq_true, decide_eq_true_eq] at hp
      simp only [Bool.not_true, cond_false]
      obtain ⟨n, hn⟩ := Int.eq_ofNat_of_zero_le hp.1
      have hx : idx a f.proc = some (a[n]'(by omega)) := by rw [hn, wY (by omega)]
      generalize a[n]'(by omega) = x at hx
      rw [hx, bnd]
      have kB : ∃ y, fO a f b K2 true = some y ∧ y ≠ 0 := ⟨3, rfl, by decide⟩
      have uniq : ∀ z, xx a b.cells.length f z → z = x := fun z g => by have := g.proc; rw [hx] at this; exact (Option.some.inj this).symm
      cases ha : aY f.at_ (x.code.length : Int) with
      | false =>
        obtain ⟨y, g1, g2⟩ := kB
        refine ⟨y, g1, ?_⟩
        have : ¬ je a b.cells.length t (f :: l) := by
          rintro ⟨⟨z, g⟩, -, -⟩
          have := uniq z g; subst this
          have := g.at_
          unfold aY at ha
          simp only [Bool.and_eq_false_iff, decide_eq_false_iff_not] at ha
          omega
        simp [this, g2]
      | true =>
        simp only [Bool.not_true, cond_false]
        cases ht : aY f.l6 t with
        | false =>
          obtain ⟨y, g1, g2⟩ := kB
          refine ⟨y, g1, ?_⟩
          have : ¬ je a b.cells.length t (f :: l) := by
            rintro ⟨⟨z, g⟩, h3, -⟩
            unfold aY at ht
            simp only [Bool.and_eq_false_iff, decide_eq_false_iff_not] at ht
            omega
          simp [this, g2]
        | true =>
          simp only [Bool.not_true]
          unfold fO
          rw [hx, cond_false, bnd]
          unfold aY at ha ht
          simp only [Bool.and_eq_true, decide_eq_true_eq] at ha ht
          by_cases hr : (f.regs.length : Int) = x.regs
          · rw [dF (by omega), cond_false, ← Ez b f (fun _ => K2 f.regs.length) _ rfl]
            obtain ⟨z, g1, g2⟩ := Lg b (fun _ => K2 f.regs.length) _ ⟨y, h1, h2⟩ f.regs
            refine ⟨z, g1, g2.trans ⟨fun h => ⟨⟨x, hx, ha, hr, h.1⟩, ht, h.2⟩, ?_⟩⟩
            rintro ⟨⟨z, g⟩, h3, h4⟩
            exact ⟨g.vals, h4⟩
          · rw [dT (by omega), cond_true]
            refine ⟨4, rfl, ?_⟩
            have : ¬ je a b.cells.length t (f :: l) := by
              rintro ⟨⟨z, g⟩, -, -⟩
              have := uniq z g; subst this
              exact hr g.regs
            simp [this]
theorem GR (a : List cz) (b : LX.State) : ∃ y, wo a b = some y ∧ (y = 0 ↔ uQ a b) := by
  rw [GN]
  unfold nS
  cases c1 : ((!(bC b.status 0 3)) || (!(eZ b.aV))) with
  | true =>
    refine ⟨3, rfl, ⟨fun h => absurd h (by decide), fun h => ?_⟩⟩
    unfold eZ bC at c1
    simp only [Bool.or_eq_true, Bool.not_eq_true', Bool.and_eq_false_iff, decide_eq_false_iff_not] at c1
    have := h.status; have := h.aV; omega
  | false =>
    unfold eZ bC at c1
    simp only [Bool.or_eq_false_iff, Bool.not_eq_false', Bool.and_eq_true, decide_eq_true_eq] at c1
    rw [cond_false]
    cases c2 : (((decide ((b.aV : Int) ≠ 0) && decide ((b.status : Int) ≠ 3)) || (decide ((b.status : Int) = 1) && decide ((0 : Int) < (b.frames.length : Int)))) || (decide ((b.status : Int) ≠ 1) && decide (((b.frames.length : Int) : Int) = 0))) with
    | true =>
      refine ⟨4, rfl, ⟨fun h => absurd h (by decide), fun h => ?_⟩⟩
      simp only [Bool.or_eq_true, Bool.and_eq_true, decide_eq_true_eq] at c2
      rcases c2 with (c2 | c2) | c2
      · exact absurd (h.stay c2.2) c2.1
      · have := h.ended.1 c2.1; rw [this] at c2; simp at c2
      · exact absurd (h.ended.2 (List.eq_nil_of_length_eq_zero (by omega))) c2.1
    | false =>
      simp only [Bool.or_eq_false_iff, Bool.and_eq_false_iff, decide_eq_false_iff_not] at c2
      rw [cond_false]
      by_cases hm : b.frames.length ≤ 10
      · rw [dF (by omega), cond_false, Lf]
        by_cases hc : dE b.cells = 0
        · rw [dF (by omega), cond_false]
          obtain ⟨y, h1, h2⟩ := GQ a b b.frames 1
          refine ⟨y, h1, h2.trans ⟨fun h => ⟨by omega, by omega, fun h3 => by omega, ⟨fun h3 => ?_, fun h3 => ?_⟩, hm, (Na _).1 hc, h⟩, fun h => h.frames⟩⟩
          · exact List.eq_nil_of_length_eq_zero (by omega)
          · rw [h3] at c2; simp at c2; omega
        · rw [dT hc, cond_true]
          exact ⟨_, rfl, ⟨fun h => absurd h hc, fun h => absurd ((Na _).2 h.cells) hc⟩⟩
      · rw [dT (by omega), cond_true]
        exact ⟨2, rfl, ⟨fun h => absurd h (by decide), fun h => absurd h.many hm⟩⟩
def Tm (a : List cz) (s : LX.State) : Int := (wo a s).getD 0
theorem Xt (a : List cz) (s : LX.State) : wo a s = some (Tm a s) := by obtain ⟨y, h, -⟩ := GR a s; unfold Tm; rw [h]; rfl
theorem J3 {a : List cz} {s : LX.State} : Tm a s = 0 ↔ uQ a s := by obtain ⟨y, h, h2⟩ := GR a s; unfold Tm; rw [h]; exact h2
theorem EN (a : List cz) (s : LX.State) : wu a s = some (if SF a ≠ 0 then SF a else Tm a s) := by
  unfold wu
  rw [SG, bnd]
  by_cases h : SF a = 0
  · rw [dF (by omega), cond_false, Xt, bnd, if_neg (by omega)]
  · rw [dT h, cond_true, if_pos h]
end Go.Proofs.YtfclkapelkhlpaaGreatDoor
namespace Go.Proofs.YtfclkapelkhlpaaGreatDoor
open Go Go.Proofs Go.LX
theorem SI (a b : List Val) : jw a b = some (decide (a = b)) := by
  unfold jw
  by_cases h : a.length = b.length
  · rw [dF (by omega)]
    simp only [cond_false, Int.toNat_natCast]
    rw [Ot (fun x y => decide (x = y)) a b h rfl (fun i x y nx h1 h2 => by
      unfold lu
      rw [tT, tT, h1, h2]
      obtain ⟨k, n⟩ := x; obtain ⟨k2, n2⟩ := y
      by_cases e : k = k2 <;> by_cases e2 : n = n2 <;> simp [e, e2]), Fb (fun _ _ => rfl)]
  · rw [dT (by omega)]
    have : a ≠ b := fun e => h (by rw [e])
    rw [dF this]; rfl
theorem UC (a b : List (List Val)) : Bg a b = some (decide (a = b)) := by
  unfold Bg
  by_cases h : a.length = b.length
  · rw [dF (by omega), cond_false, FH (fun x y => decide (x = y)) a b h rfl (fun i x y nx h2 => by
      unfold vL
      rw [tT, h2, bnd, SI, bnd]
      by_cases e : x = y <;> simp [e]), Fb (fun _ _ => rfl)]
  · rw [dT (by omega)]
    have : a ≠ b := fun e => h (by rw [e])
    rw [dF this]; rfl
theorem aao (x y : LX.Frame) (nx : Unit → Option Bool) : (bif ((decide ((x.proc : Int) = y.proc) && decide ((x.at_ : Int) = y.at_)) && decide ((x.l6 : Int) = y.l6)) then (jw x.regs y.regs).bind fun y39 => rD nx (!y39) else rD nx true) = bif decide (x = y) then nx () else some false := by
  obtain ⟨p, t, r, o⟩ := x; obtain ⟨p2, t2, r2, o2⟩ := y
  simp only [SI, bnd, rD]
  by_cases e1 : p = p2 <;> by_cases e2 : t = t2 <;> by_cases e3 : r = r2 <;> by_cases e4 : o = o2 <;> simp [e1, e2, e3, e4]
theorem aap (a b : LX.State) : decide (a = b) = ((decide (a.status = b.status) && decide (a.aV = b.aV)) && (decide (a.cells = b.cells) && decide (a.frames = b.frames))) := by
  obtain ⟨f, c, s, w⟩ := a; obtain ⟨f2, c2, s2, w2⟩ := b
  rw [Bool.eq_iff_iff]; simp; constructor <;> (intro h; simp [h])
theorem UD (a b : LX.State) : Fw a b = some (decide (a = b)) := by
  rw [aap]
  unfold Fw
  cases (decide ((a.status : Int) = b.status) && decide ((a.aV : Int) = b.aV)) with
  | false => rfl
  | true =>
    rw [cond_true, UC, bnd]
    cases decide (a.cells = b.cells) with
    | false => rfl
    | true =>
      rw [cond_true]
      by_cases h : a.frames.length = b.frames.length
      · rw [dF (by omega), cond_false, FH (fun x y => decide (x = y)) a.frames b.frames h rfl (fun i x y nx h2 => by
          unfold wW
          rw [tT, h2, bnd]
          exact aao x y nx), Fb (fun _ _ => rfl)]; rfl
      · rw [dT (by omega)]
        have : a.frames ≠ b.frames := fun e => h (by rw [e])
        rw [dF this]; rfl
structure Small (s : LX.State) : Prop where
  frames : s.frames.length ≤ 10
  regs : ∀ f ∈ s.frames, f.regs.length ≤ 40
  cells : s.cells.length ≤ 24
  fields : ∀ c ∈ s.cells, c.length ≤ 4
theorem sN {a : List cz} {n : Nat} : ∀ {l : List LX.Frame} {t : Int}, je a n t l → ∀ f ∈ l, ∃ x, xx a n f x
  | [], _, _, f, hf => by cases hf
  | g :: l, t, h, f, hf => by
    rcases List.mem_cons.1 hf with rfl | hf
    · exact h.1
    · exact sN h.2.2 f hf
theorem nT.mem {a : List cz} (h : nT a) {k : Int} {x : cz} (hx : idx a k = some x) : x ∈ a ∧ (0 ≤ x.params ∧ x.params ≤ 3) ∧ (1 ≤ x.regs ∧ x.params ≤ x.regs ∧ x.regs ≤ 40) ∧ qi x := by
  have h1 := (aJ hx).2
  have := h.head _ x h1
  exact ⟨List.mem_of_getElem? h1, this.1, this.2.1, this.2.2.2⟩
theorem uQ.small {a : List cz} {s : LX.State} (h : uQ a s) (ha : nT a) : Small s where
  frames := h.many
  regs f hf := by
    obtain ⟨x, g⟩ := sN h.frames f hf
    have := (ha.mem g.proc).2.2.1
    have := g.regs
    omega
  cells := h.cells.1
  fields c hc := (h.cells.2 c hc).1.2
theorem Dc {α : Type} {bytes : Nat} {a : List α} (h : a.length ≤ 400) (hb : bytes ≤ 48) : clone bytes a = some a := by
  have : a.length * bytes ≤ 400 * 48 := Nat.mul_le_mul h hb
  unfold clone
  exact zo ⟨by simp; omega, by simp; omega⟩
theorem EA {ρ : Type} {body : Int → Unit → (Unit → ρ) → ρ} {k : Unit → ρ} : ∀ (m : Nat) (i : Nat), (∀ j : Nat, i ≤ j → j < i + m → ∀ nx, body (j : Int) () nx = nx ()) → upto body k (i : Int) m () = k ()
  | 0, i, _ => rfl
  | m + 1, i, h => by
    rw [IU, h i (Nat.le_refl _) (by omega), show ((i : Int) + 1) = ((i + 1 : Nat) : Int) by omega]
    exact EA m (i + 1) (fun j h1 h2 => h j (by omega) (by omega))
theorem Lh {l : List (List Val)} (h : l.length ≤ 24) (hf : ∀ c ∈ l, c.length ≤ 4) : AX l = some l := by
  unfold AX
  rw [Dc (by omega) (by decide), bnd, Int.toNat_natCast]
  exact EA (k := vH l) l.length 0 (fun j h1 h2 nx => by
    unfold vG
    rw [wY (by omega), bnd, Dc (by have := hf _ (List.getElem_mem (by omega : j < l.length)); omega) (by decide), bnd])
theorem copy_eq {s : LX.State} (h : Small s) : zf s = some s := by
  unfold zf
  rw [Dc (by have := h.frames; omega) (by decide), bnd, Lh h.cells h.fields, bnd]
  unfold BO
  rw [Int.toNat_natCast]
  exact EA (k := ze s s.cells) s.frames.length 0 (fun j h1 h2 nx => by
    unfold zb
    rw [wY (by omega), bnd, Dc (by have := h.regs _ (List.getElem_mem (by omega : j < s.frames.length)); omega) (by decide), bnd])
theorem room_le {α : Type} {bytes : Nat} {l m : List α} (h : l.length + m.length ≤ 100000) (hb : bytes ≤ 48) : Room bytes l m := by
  have : (l.length + m.length) * bytes ≤ 100000 * 48 := Nat.mul_le_mul h hb
  exact ⟨by omega, by omega⟩
end Go.Proofs.YtfclkapelkhlpaaGreatDoor
namespace Go.Proofs.YtfclkapelkhlpaaGreatDoor
open Go Go.Proofs Go.LX
def Hu (l : List Int) (v : Val) : List Int := if v.kind = 2 ∧ v.n ∉ l then l ++ [v.n] else l
def GU (l : List Int) (vs : List Val) : List Int := vs.foldl Hu l
def cellAt (cells : List (List Val)) (k : Int) : List Val := (idx cells k).getD []
def N9 (cells : List (List Val)) : Nat → Nat → List Int → List Int
  | 0, _, l => l
  | m + 1, k, l => if h : k < l.length then N9 cells m (k + 1) (GU l (cellAt cells l[k])) else l
def Ci (cells : List (List Val)) (vs : List Val) : List Int := N9 cells 25 0 (GU [] vs)
theorem IW (l : List Int) (v : Val) (vs : List Val) : GU l (v :: vs) = GU (Hu l v) vs := rfl
theorem SK (l : List Int) (v : Val) : l <+: Hu l v := by
  unfold Hu; split
  · exact List.prefix_append _ _
  · exact List.prefix_refl _
theorem Ao : ∀ (vs : List Val) (l : List Int), l <+: GU l vs
  | [], l => List.prefix_refl _
  | v :: vs, l => (SK l v).trans (Ao vs _)
theorem Oa (cells : List (List Val)) : ∀ (m k : Nat) (l : List Int), l <+: N9 cells m k l
  | 0, _, l => List.prefix_refl _
  | m + 1, k, l => by
    unfold N9; split
    · exact (Ao _ _).trans (Oa cells m _ _)
    · exact List.prefix_refl _
theorem IX : ∀ (n : Nat) (l : List Int), l.Nodup → (∀ x ∈ l, 0 ≤ x ∧ x < n) → l.length ≤ n
  | 0, l, _, h => by
    cases l with
    | nil => simp
    | cons x l => have := h x (by simp); omega
  | n + 1, l, hn, h => by
    have h1 := IX n (l.erase (n : Int)) (hn.erase _) (fun x hx => by
      have h2 := (hn.mem_erase_iff).1 hx
      have := h x h2.2
      have h3 := h2.1
      constructor
      · omega
      · push_cast at this; omega)
    have h4 : l.length ≤ (l.erase (n : Int)).length + 1 := by rw [List.length_erase]; split <;> omega
    omega
def oP (n : Nat) (l : List Int) : Prop := l.Nodup ∧ ∀ x ∈ l, 0 ≤ x ∧ x < n
theorem oP.len {n : Nat} {l : List Int} (h : oP n l) : l.length ≤ n := IX n l h.1 h.2
theorem oP.nil {n : Nat} : oP n [] := ⟨List.nodup_nil, fun x hx => by cases hx⟩
theorem gT.ref {n : Nat} {v : Val} (h : gT n v) (hk : v.kind = 2) : 0 ≤ v.n ∧ v.n < n := by unfold gT at h; omega
theorem oP.v {n : Nat} {l : List Int} (h : oP n l) {v : Val} (hv : gT n v) : oP n (Hu l v) := by
  unfold Hu; split
  · rename_i hc
    refine ⟨List.nodup_append.2 ⟨h.1, by simp, fun a ha b hb => ?_⟩, fun x hx => ?_⟩
    · simp at hb; subst hb; intro e; subst e; exact hc.2 ha
    · rcases List.mem_append.1 hx with hx | hx
      · exact h.2 x hx
      · simp at hx; subst hx; exact hv.ref hc.1
  · exact h
theorem oP.l {n : Nat} : ∀ {vs : List Val} {l : List Int}, oP n l → (∀ v ∈ vs, gT n v) → oP n (GU l vs)
  | [], l, h, _ => h
  | v :: vs, l, h, hv => oP.l (vs := vs) (l := Hu l v) (h.v (hv v (by simp))) (fun w hw => hv w (List.mem_cons_of_mem _ hw))
theorem zk {cells : List (List Val)} {k : Int} (h : 0 ≤ k ∧ k < cells.length) : idx cells k = some (cellAt cells k) ∧ cellAt cells k ∈ cells := by
  obtain ⟨n, rfl⟩ := Int.eq_ofNat_of_zero_le h.1
  unfold cellAt
  rw [wY (by omega)]
  exact ⟨rfl, List.getElem_mem _⟩
theorem ma.at {cells : List (List Val)} (h : ma cells) {k : Int} (hk : 0 ≤ k ∧ k < cells.length) : (1 ≤ (cellAt cells k).length ∧ (cellAt cells k).length ≤ 4) ∧ ∀ v ∈ cellAt cells k, gT cells.length v := h.2 _ (zk hk).2
theorem oP.N9 {cells : List (List Val)} (hc : ma cells) : ∀ {m k : Nat} {l : List Int}, oP cells.length l → oP cells.length (N9 cells m k l)
  | 0, _, l, h => h
  | m + 1, k, l, h => by
    unfold Proofs.YtfclkapelkhlpaaGreatDoor.N9; split
    · rename_i hk
      exact oP.N9 hc (h.l (hc.at (h.2 _ (List.getElem_mem hk))).2)
    · exact h
def nU (vs : List Val) (l : List Int) : Prop := ∀ v ∈ vs, v.kind = 2 → v.n ∈ l
theorem nU.pre {vs : List Val} {l m : List Int} (h : nU vs l) (hp : l <+: m) : nU vs m := fun v hv hk => hp.subset (h v hv hk)
theorem UE (l : List Int) (v : Val) (hk : v.kind = 2) : v.n ∈ Hu l v := by
  unfold Hu; split
  · simp
  · rename_i hc
    exact Decidable.not_not.1 (fun h => hc ⟨hk, h⟩)
theorem J4 : ∀ (vs : List Val) (l : List Int), nU vs (GU l vs)
  | [], l, v, hv, _ => by cases hv
  | w :: vs, l, v, hv, hk => by
    rw [IW]
    rcases List.mem_cons.1 hv with rfl | hv
    · exact (Ao vs _).subset (UE l v hk)
    · exact J4 vs _ v hv hk
theorem SL {cells : List (List Val)} (hc : ma cells) : ∀ {m k : Nat} {l : List Int}, oP cells.length l → cells.length < k + m → (∀ j (hj : j < l.length), j < k → nU (cellAt cells l[j]) l) → ∀ x ∈ N9 cells m k l, nU (cellAt cells x) (N9 cells m k l)
  | 0, k, l, h, hm, hj, x, hx => by
    have := h.len
    obtain ⟨j, h1, rfl⟩ := List.getElem_of_mem hx
    exact hj j h1 (by have h1' : j < l.length := h1; omega)
  | m + 1, k, l, h, hm, hj, x, hx => by
    unfold Proofs.YtfclkapelkhlpaaGreatDoor.N9 at hx ⊢
    split at hx
    · rename_i hk
      rw [dif_pos hk]
      have hv := (hc.at (h.2 _ (List.getElem_mem hk))).2
      have hp := Ao (cellAt cells l[k]) l
      refine SL hc (h.l hv) (by omega) (fun j h1 h2 => ?_) x hx
      by_cases e : j < l.length
      · have e1 : (GU l (cellAt cells l[k]))[j] = l[j] := (hp.getElem e).symm
        rw [e1]
        by_cases e2 : j < k
        · exact (hj j e e2).pre hp
        · have : j = k := by omega
          subst this
          exact J4 _ _
      · omega
    · rename_i hk
      rw [dif_neg hk]
      obtain ⟨j, h1, rfl⟩ := List.getElem_of_mem hx
      exact hj j h1 (by omega)
theorem SN {cells : List (List Val)} (hc : ma cells) {vs : List Val} (hv : ∀ v ∈ vs, gT cells.length v) : oP cells.length (Ci cells vs) ∧ nU vs (Ci cells vs) ∧ ∀ x ∈ Ci cells vs, nU (cellAt cells x) (Ci cells vs) := by
  have h0 : oP cells.length (GU [] vs) := oP.nil.l hv
  refine ⟨oP.N9 hc h0, (J4 vs []).pre (Oa _ _ _ _), SL hc h0 (by have := hc.1; omega) (fun j h1 h2 => absurd h2 (Nat.not_lt_zero _))⟩
theorem J5 {α : Type} (k k' : Int) (v : α) : ∀ l : List (Int × α), lk k (yN k' v l) = if k = k' then some v else lk k l
  | [] => by unfold yN lk; by_cases h : k = k' <;> simp [h, lk]
  | p :: l => by
    unfold yN
    by_cases h : k' = p.1
    · rw [if_pos h]
      show (if k = p.1 then some v else lk k l) = if k = k' then some v else (if k = p.1 then some p.2 else lk k l)
      by_cases e : k = p.1
      · rw [if_pos e, if_pos (by omega)]
      · rw [if_neg e, if_neg (by omega), if_neg e]
    · rw [if_neg h]
      show (if k = p.1 then some p.2 else lk k (yN k' v l)) = if k = k' then some v else (if k = p.1 then some p.2 else lk k l)
      by_cases e : k = p.1
      · rw [if_pos e, if_pos e, if_neg (by omega)]
      · rw [if_neg e, if_neg e, J5 k k' v l]
def Seen (l : List Int) (m : List (Int × Bool)) : Prop := ∀ k, (lk k m).getD false = decide (k ∈ l)
theorem Seen.nil : Seen [] [] := fun k => rfl
theorem Seen.put {l : List Int} {m : List (Int × Bool)} (h : Seen l m) (n : Int) : Seen (l ++ [n]) (yN n true m) := by
  intro k
  rw [J5]
  by_cases e : k = n
  · simp [e]
  · rw [if_neg e, h k, Bool.eq_iff_iff]; simp [e]
theorem De {ρ : Type} {body : Val → List Int × List (Int × Bool) → (List Int × List (Int × Bool) → Option ρ) → Option ρ} {K : List Int × List (Int × Bool) → Option ρ}
    (hb : ∀ x l m nx, l.length ≤ 1000 → body x (l, m) nx = bif (decide (x.kind = 2) && (!((lk x.n m).getD false))) then nx (l ++ [x.n], yN x.n true m) else nx (l, m)) :
    ∀ (vs : List Val) (l : List Int) (m : List (Int × Bool)), Seen l m → l.length + vs.length ≤ 1000 → ∃ m', Seen (GU l vs) m' ∧ each body K vs (l, m) = K (GU l vs, m')
  | [], l, m, h, _ => ⟨m, h, rfl⟩
  | v :: vs, l, m, h, hl => by
    simp only [List.length_cons] at hl
    rw [dP, hb v l m _ (by omega), h v.n, IW]
    unfold Hu
    by_cases hc : v.kind = 2 ∧ v.n ∉ l
    · rw [if_pos hc, dT hc.1, dF hc.2, Bool.true_and, Bool.not_false, cond_true]
      exact De hb vs _ _ (h.put v.n) (by simp; omega)
    · rw [if_neg hc, show (decide (v.kind = 2) && !decide (v.n ∈ l)) = false by rw [Bool.and_eq_false_iff]; simp; simp only [not_and, Decidable.not_not] at hc; by_cases e : v.kind = 2 <;> simp [e, hc], cond_false]
      exact De hb vs _ _ h (by omega)
theorem Li {cells : List (List Val)} (hc : ma cells) : ∀ (m N k : Nat) (l : List Int) (s : List (Int × Bool)), oP cells.length l → Seen l s → cells.length < k + m → m < N → k ≤ l.length → again (kW cells) N ((k : Int), l, s) = some (N9 cells m k l, 0)
  | m, 0, k, l, s, h, hs, hm, hN, hk => by omega
  | 0, N + 1, k, l, s, h, hs, hm, hN, hk => by have := h.len; omega
  | m + 1, N + 1, k, l, s, h, hs, hm, hN, hk => by
    rw [J2]
    unfold kW Proofs.YtfclkapelkhlpaaGreatDoor.N9
    simp only
    have hl := h.len
    have hn := hc.1
    by_cases hlt : k < l.length
    · rw [dT (by omega), cond_true, wY hlt, bnd, dif_pos hlt]
      have hr := h.2 _ (List.getElem_mem hlt)
      have hv := hc.at hr
      rw [(zk hr).1, bnd]
      have e0 : (fun (s : Int × List Int × List (Int × Bool)) (KY : Int × List Int × List (Int × Bool) → Option (List Int × Int)) => match s with | (Gf, AQ, wH) => bif decide ((Gf : Int) < (AQ.length : Int)) then (idx AQ Gf).bind fun x79 => (idx cells x79).bind fun x87 => each mI (mJ Gf KY) x87 (AQ, wH) else some (AQ, 0)) = kW cells := rfl
      rw [e0]
      obtain ⟨s', h1, h2⟩ := De (body := mI) (K := mJ (k : Int) (again (kW cells) N)) (fun x l m nx hl => by
        unfold mI
        simp only [sJ]
        cases (decide (x.kind = 2) && (!((lk x.n m).getD false))) with
        | false => rfl
        | true => rw [cond_true, cond_true, zo (room_le (by simp; omega) (by decide))]) (cellAt cells l[k]) l s hs (by have := hv.1.2; omega)
      rw [h2]
      unfold mJ
      simp only
      rw [gI (by omega) (by omega)]
      have hp := (Ao (cellAt cells l[k]) l).length_le
      exact Li hc m N (k + 1) _ s' (h.l hv.2) h1 (by omega) (by omega) (by omega)
    · rw [dF (by omega), cond_false, dif_neg hlt]
theorem SQ {N : Nat} (hN : 100 ≤ N) {cells : List (List Val)} (hc : ma cells) {vs : List Val} (hv : ∀ v ∈ vs, gT cells.length v) (hl : vs.length ≤ 400) : zg N cells vs = some (Ci cells vs, 0) := by
  unfold zg
  rw [(Na cells).2 hc, dF (by simp), cond_false, dF (by omega), cond_false]
  have k1 : ∀ l : List Val, (∀ v ∈ l, gT cells.length v) → each (pK cells) (mK N cells vs) l () = mK N cells vs () := by
    intro l
    induction l with
    | nil => intro _; rfl
    | cons x l ih =>
      intro h
      rw [dP]
      unfold pK
      rw [(Am _ _).2 (h x (by simp)), dF (by simp), cond_false]
      exact ih (fun v hv => h v (List.mem_cons_of_mem _ hv))
  rw [k1 vs hv]
  unfold mK
  obtain ⟨s', h1, h2⟩ := De (body := pJ) (K := sK N cells) (fun x l m nx hl => by
    unfold pJ
    simp only [sI]
    cases (decide (x.kind = 2) && (!((lk x.n m).getD false))) with
    | false => rfl
    | true => rw [cond_true, cond_true, zo (room_le (by simp; omega) (by decide))]) vs [] [] Seen.nil (by simp; omega)
  rw [h2]
  exact Li hc 25 N 0 _ s' (oP.nil.l hv) h1 (by have := hc.1; omega) (by omega) (by omega)
end Go.Proofs.YtfclkapelkhlpaaGreatDoor
