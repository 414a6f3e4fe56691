/-
  What the law SoloBegins needs of our own library and of the walks, no more.
-/
import Derived.Test.YtfclkapelkhlpaaGreatDoorProg
import Derived.Test.YtfclkapelkhlpaaGreatDoorSoloBeginsTe
set_option linter.unusedSimpArgs false
set_option linter.unusedVariables false
set_option maxRecDepth 10000
namespace Go.Proofs.YtfclkapelkhlpaaGreatDoor
open Go Go.Proofs Go.LX
noncomputable section
theorem P7 (N : Nat) (w0 : World) (M : BS) (hM : ∀ b, M b → b < w0.heap.size) (sb : Nat) (sx : LX.State) (eH vs1 : Value) (eZ eD : List Value) (hC : Chunk.holds w0 M (Chunk.own' (.two (.two (.two (.two (.blk sb [eH, vs1, (.int .i64 (sx.status)), (.int .i64 (sx.aW))]) (.own aB.raw 49 eH (List.zip sx.frames eZ))) (.bJ (aR aM 51 hn eZ (List.map aB.sub sx.frames)))) (.own (aT Val).raw 47 vs1 (List.zip sx.cells eD))) (.bJ (aR aM 51 hn eD (List.map (aT Val).sub sx.cells))) : Chunk)) (.two (.two (.two (.two (.blk sb [eH, vs1, (.int .i64 (sx.status)), (.int .i64 (sx.aW))]) (.own aB.raw 49 eH (List.zip sx.frames eZ))) (.bJ (aR aM 51 hn eZ (List.map aB.sub sx.frames)))) (.own (aT Val).raw 47 vs1 (List.zip sx.cells eD))) (.bJ (aR aM 51 hn eD (List.map (aT Val).sub sx.cells))) : Chunk)) (hap : ∀ b, Chunk.own' (.two (.two (.two (.two (.blk sb [eH, vs1, (.int .i64 (sx.status)), (.int .i64 (sx.aW))]) (.own aB.raw 49 eH (List.zip sx.frames eZ))) (.bJ (aR aM 51 hn eZ (List.map aB.sub sx.frames)))) (.own (aT Val).raw 47 vs1 (List.zip sx.cells eD))) (.bJ (aR aM 51 hn eD (List.map (aT Val).sub sx.cells))) : Chunk) b → ¬ M b) (va : Value) (a : List bP) (ha : fo jI w0 (fun b => M b ∨ (.two (.two (.two (.two (.blk sb [eH, vs1, (.int .i64 (sx.status)), (.int .i64 (sx.aW))]) (.own aB.raw 49 eH (List.zip sx.frames eZ))) (.bJ (aR aM 51 hn eZ (List.map aB.sub sx.frames)))) (.own (aT Val).raw 47 vs1 (List.zip sx.cells eD))) (.bJ (aR aM 51 hn eD (List.map (aT Val).sub sx.cells))) : Chunk).own' b) va a) (r : BM × Bool × LX.State) (hs : nW N sx a = some r) :
    Calls Tryz.prog 65 #[va, (.pointer (some ⟨sb, 0, none⟩))] w0 (fun e w' => aP (Chunk.own' (.two (.two (.two (.two (.blk sb [eH, vs1, (.int .i64 (sx.status)), (.int .i64 (sx.aW))]) (.own aB.raw 49 eH (List.zip sx.frames eZ))) (.bJ (aR aM 51 hn eZ (List.map aB.sub sx.frames)))) (.own (aT Val).raw 47 vs1 (List.zip sx.cells eD))) (.bJ (aR aM 51 hn eD (List.map (aT Val).sub sx.cells))) : Chunk)) w0 w' ∧ ∃ Be, ∃ Bf, ∃ Bg, ∃ Bh, e = .returned (.tuple #[.agg #[.bool r.1.said, .int .i64 r.1.n, .bool r.1.DX], .bool r.2.1]) ∧ Chunk.holds w' M (Chunk.own' (.two (.two (.two (.two (.blk sb [Be, Bf, .int .i64 r.2.2.status, .int .i64 r.2.2.aW]) (.own aB.raw 49 Be (List.zip r.2.2.frames Bg))) (.bJ (aR aM 51 hn Bg (List.map aB.sub r.2.2.frames)))) (.own (aT Val).raw 47 Bf (List.zip r.2.2.cells Bh))) (.bJ (aR aM 51 hn Bh (List.map (aT Val).sub r.2.2.cells))) : Chunk)) (.two (.two (.two (.two (.blk sb [Be, Bf, .int .i64 r.2.2.status, .int .i64 r.2.2.aW]) (.own aB.raw 49 Be (List.zip r.2.2.frames Bg))) (.bJ (aR aM 51 hn Bg (List.map aB.sub r.2.2.frames)))) (.own (aT Val).raw 47 Bf (List.zip r.2.2.cells Bh))) (.bJ (aR aM 51 hn Bh (List.map (aT Val).sub r.2.2.cells))) : Chunk) ∧ (∀ b, Chunk.own' (.two (.two (.two (.two (.blk sb [Be, Bf, .int .i64 r.2.2.status, .int .i64 r.2.2.aW]) (.own aB.raw 49 Be (List.zip r.2.2.frames Bg))) (.bJ (aR aM 51 hn Bg (List.map aB.sub r.2.2.frames)))) (.own (aT Val).raw 47 Bf (List.zip r.2.2.cells Bh))) (.bJ (aR aM 51 hn Bh (List.map (aT Val).sub r.2.2.cells))) : Chunk) b → b < w0.heap.size → Chunk.own' (.two (.two (.two (.two (.blk sb [eH, vs1, (.int .i64 (sx.status)), (.int .i64 (sx.aW))]) (.own aB.raw 49 eH (List.zip sx.frames eZ))) (.bJ (aR aM 51 hn eZ (List.map aB.sub sx.frames)))) (.own (aT Val).raw 47 vs1 (List.zip sx.cells eD))) (.bJ (aR aM 51 hn eD (List.map (aT Val).sub sx.cells))) : Chunk) b)) := by
 refine aS (args := [va, (.pointer (some ⟨sb, 0, none⟩))]) Tryz.func65 rfl Tryz.ntmps65 (Nat.le_of_ble_eq_true rfl) ?_
 have h := SH.E5 hM hC hap
 replace h := h.BL 6 ha zG
 generalize zJ : (.two (.two (.two (.two (.blk sb [eH, vs1, (.int .i64 (sx.status)), (.int .i64 (sx.aW))]) (.own aB.raw 49 eH (List.zip sx.frames eZ))) (.bJ (aR aM 51 hn eZ (List.map aB.sub sx.frames)))) (.own (aT Val).raw 47 vs1 (List.zip sx.cells eD))) (.bJ (aR aM 51 hn eD (List.map (aT Val).sub sx.cells))) : Chunk).own' = K0 at h
 replace h := h.bU 1 5 (by decide) rfl rfl
 replace h := h.bU 1 4 (by decide) rfl rfl
 replace h := h.bU 1 3 (by decide) rfl rfl
 replace h := h.bU 1 2 (by decide) rfl rfl
 have u7 := ha.cO
 refine ai (ag (bT h 7 fM fun w b1 h => ae (aj (v := (.bool (false))) rfl) (ah (aa (ai (ag (ae (au (v := (.pointer (some ⟨sb, 0, none⟩))) rfl) (ae (bO rfl) (ae (ak eU rfl) (ae (aF h 1 rfl ji rfl rfl) (ae (qG (N := aB) dQ rfl (h.dM 2 rfl) (h.iB 3 rfl)) ?_)))))))))))
 obtain ⟨a2, hs⟩ := bG hs
 refine ae (oh rfl rfl a2) (ae (aj (v := (.int .i64 (((sx.frames.length : Int) - 1)))) rfl) (ah (aa (ai (ag (ae (au (v := (.pointer (some ⟨sb, 0, none⟩))) rfl) (ae (bO rfl) (ae (ak eU rfl) (ae (aF h 1 rfl ji rfl rfl) (ae (au (v := (.int .i64 (((sx.frames.length : Int) - 1)))) rfl) ?_))))))))))
 obtain ⟨x3, e4, hs⟩ := aQ hs
 obtain ⟨u8, e9, h⟩ := h.q8 3 8 x3.regs rfl rfl (by decide) (aJ e4).2 rfl
 obtain ⟨b6, q7, i5⟩ := h.wo 2 rfl dQ rfl (aJ e4).1 (fA (aJ e4).2 e9)
 refine ae (i5 _ _ _ _ _ _ _ _ _ rfl rfl) (ae (aj (v := (.pointer (some ⟨b6, (((sx.frames.length : Int) - 1)).toNat * 4, none⟩))) rfl) (ah (aa (ai (CP mixed h fun w h => dA 0 (aP.refl BE _) rfl ay (by kernel_rfl) (by kernel_rfl) (by kernel_rfl) (fun w hk => au (v := va) rfl) (dA 1 (aP.refl BE _) rfl ay (by kernel_rfl) (by kernel_rfl) (by kernel_rfl) (fun w hk => au (v := (.pointer (some ⟨b6, (((sx.frames.length : Int) - 1)).toNat * 4, none⟩))) rfl) (dA 2 (aP.refl BE _) rfl ay (by kernel_rfl) (by kernel_rfl) (by kernel_rfl) (fun w hk => bO rfl) (dA 3 (aP.refl BE _) rfl ay (by kernel_rfl) (by kernel_rfl) (by kernel_rfl) (fun w hk => ak A7 rfl) ?_))))))))
 obtain ⟨YK, Tq, Tt⟩ := h.yN 2 rfl q7 (fA (aJ e4).2 e9)
 obtain ⟨rfl, -⟩ := Tt
 refine dA 4 (aP.refl BE _) rfl ay (by kernel_rfl) (by kernel_rfl) (by kernel_rfl) (fun w hk => have h := h.grow hk; oL (k := 0) (Tq.grow hk) bz rfl rfl) ?_
 obtain ⟨aU, Dp, hs⟩ := aQ hs
 obtain ⟨bq10x5_4, oq10x5_5, YL, h, Tu, Tv⟩ := h.DI 6 69 rfl jv rfl (aJ Dp).1 (aJ Dp).2
 obtain ⟨uq10x5_8, rfl, Tw⟩ := nG Tu
 replace h := h.cZ 70 Tw.up
 refine dA 5 (aP.refl BE _) rfl ay (by kernel_rfl) (by kernel_rfl) (by kernel_rfl) (fun w hk => Tv _ _ _ _ _ _ _ _ _ rfl rfl) (dA 6 (aP.refl BE _) rfl ay (by kernel_rfl) (by kernel_rfl) (by kernel_rfl) (fun w hk => ak rf rfl) (dA 7 (aP.refl BE _) rfl ay (by kernel_rfl) (by kernel_rfl) (by kernel_rfl) (fun w hk => have h := h.grow hk; eF (k := 2) h 69 rfl zC rfl rfl) (dA 8 (aP.refl BE _) rfl ay (by kernel_rfl) (by kernel_rfl) (by kernel_rfl) (fun w hk => au (v := (.pointer (some ⟨b6, (((sx.frames.length : Int) - 1)).toNat * 4, none⟩))) rfl) (dA 9 (aP.refl BE _) rfl ay (by kernel_rfl) (by kernel_rfl) (by kernel_rfl) (fun w hk => bO rfl) (dA 10 (aP.refl BE _) rfl ay (by kernel_rfl) (by kernel_rfl) (by kernel_rfl) (fun w hk => ak xe rfl) ?_)))))
 obtain ⟨X7, P8, P9⟩ := h.yN 2 rfl q7 (fA (aJ e4).2 e9)
 obtain ⟨rfl, -⟩ := P9
 refine dA 11 (aP.refl BE _) rfl ay (by kernel_rfl) (by kernel_rfl) (by kernel_rfl) (fun w hk => have h := h.grow hk; oL (k := 1) (P8.grow hk) bz rfl rfl) ?_
 obtain ⟨aL, I8, hs⟩ := aQ hs
 obtain ⟨YM, YN, X8, h, Qa, Qb⟩ := h.DI 70 153 rfl jg rfl (aJ I8).1 (aJ I8).2
 obtain ⟨jL, rfl, Qc⟩ := AV Qa
 replace h := h.cZ 154 Qc.up
 refine dA 12 (aP.refl BE _) rfl ay (by kernel_rfl) (by kernel_rfl) (by kernel_rfl) (fun w hk => Qb _ _ _ _ _ _ _ _ _ rfl rfl) (dA 13 (aP.refl BE _) rfl ay (by kernel_rfl) (by kernel_rfl) (by kernel_rfl) (fun w hk => have h := h.grow hk; jW (k := 0) (vs := [(.int .i64 (aL.op)), (.int .i64 (aL.a)), (.int .i64 (aL.b)), (.int .i64 (aL.c)), jL]) h 153 rfl pq rfl rfl rfl (Nat.le_of_ble_eq_true rfl)) ?_)
 obtain ⟨ws11, Wo⟩ : ∃ x, x = w := ⟨_, rfl⟩
 have Ns : Grow ws11 w := Wo ▸ aP.refl BE w
 refine KP Wo.symm (xn 14 (by kernel_rfl) rfl ay (DT h 177 pq fun w I9 h Nt Nu => ?_))
 have Nv : ws11.heap.size ≤ I9 := Nat.le_trans Ns.size Nu
 replace Ns := Ns.trans Nt
 refine ah (qW Ns (xn 15 (by kernel_rfl) rfl ay (xu (vs := [(.int .i64 (aL.op)), (.int .i64 (aL.a)), (.int .i64 (aL.b)), (.int .i64 (aL.c)), jL]) h 177 [(.int .i64 (aL.op)), (.int .i64 (aL.a)), (.int .i64 (aL.b)), (.int .i64 (aL.c)), jL] rfl pq rfl rfl rfl rfl rfl (ax rfl (ax rfl (ax rfl (ax rfl (ax (h.gB 154 rfl).one aZ))))) fun w h Qd => ?_)))
 replace Ns := Ns.fresh Qd (fun x hx => hx ▸ Nv)
 refine ah (qW Ns (vQ (by kernel_rfl) (aa (ai (qj 19 mixed (by kernel_rfl) h fun w h => aO (au (v := (.pointer (some ⟨b6, (((sx.frames.length : Int) - 1)).toNat * 4, none⟩))) rfl) (aO (au (v := (.pointer (some ⟨b6, (((sx.frames.length : Int) - 1)).toNat * 4, none⟩))) rfl) (aO (bO rfl) (aO (ak xe rfl) ?_))))))))
 obtain ⟨Zw, m14, r15⟩ := h.yN 2 rfl q7 (fA (aJ e4).2 e9)
 obtain ⟨rfl, -⟩ := r15
 refine aO (oL (k := 1) m14 bz rfl rfl) ?_
 obtain ⟨a16, hs⟩ := bG hs
 refine aO (dw rfl rfl a16) (aO (au (v := va) rfl) (aO (au (v := (.pointer (some ⟨b6, (((sx.frames.length : Int) - 1)).toNat * 4, none⟩))) rfl) (aO (bO rfl) (aO (ak A7 rfl) ?_))))
 obtain ⟨cs17, m18, r19⟩ := h.yN 2 rfl q7 (fA (aJ e4).2 e9)
 obtain ⟨rfl, -⟩ := r19
 refine aO (oL (k := 0) m18 bz rfl rfl) ?_
 obtain ⟨Ig, o22, cs23, h, r24, i20⟩ := h.DI 6 213 rfl jv rfl (aJ Dp).1 (aJ Dp).2
 obtain ⟨u25, rfl, g26⟩ := nG r24
 replace h := h.cZ 214 g26.up
 refine aO (i20 _ _ _ _ _ _ _ _ _ rfl rfl) (aO (ak rf rfl) (aO (eF (k := 2) h 213 rfl zC rfl rfl) (aO (bY jg rfl (h.oZ 214 rfl)) ?_)))
 obtain ⟨a27, hs⟩ := bG hs
 refine aO (oh rfl rfl a27) (aO (VT rfl rfl) (aO (bO rfl) (aO (ak xe rfl) (xP (IA (a' := (({ x3 with at_ := (min (x3.at_ + 1) ((aU.code.length : Int) - 1)) }), u8)) h 2 rfl q7 rfl (fA (aJ e4).2 e9) bz rfl rfl rfl rfl (by rintro _ ⟨rfl, hq⟩; exact ⟨rfl, hq⟩) fun w h => ?_)))))
 rw [F9 e9] at h
 replace h := h.WT 3 ({ x3 with at_ := (min (x3.at_ + 1) ((aU.code.length : Int) - 1)) }) rfl
 refine ah (aa (ai (ag (ae (au (v := (.pointer (some ⟨b6, (((sx.frames.length : Int) - 1)).toNat * 4, none⟩))) rfl) (ae (bO rfl) (ae (ak oO rfl) ?_))))))
 obtain ⟨Vk, m29, Z7⟩ := h.yN 2 rfl q7 (fA (jO (aJ e4).2) e9)
 obtain ⟨rfl, -⟩ := Z7
 refine ae (oL (k := 2) m29 pE rfl rfl) (ae (aj (v := u8) rfl) (ah (aa (bV (σ := Bool × Value × List Value × List LX.Frame × Value × List Value × List (List Val) × Int × Int) (inl [5, 10, 60, 61, 62, 63, 64, 65, 66, 67, 68, 69, 70, 71, 72, 73, 74, 75, 76, 77, 78, 79, 80, 81, 82, 83, 84, 85, 86, 87, 88, 89, 90, 91, 92, 93, 94, 95, 96, 97, 98, 99, 100, 101, 102, 103, 104, 105, 106, 107, 108, 109, 110, 111, 112, 113, 114, 115, 116, 117, 118, 119, 120, 121, 122, 123, 124, 125, 126, 127, 128, 129, 130, 131, 132, 133, 134, 135, 136, 137, 138, 139, 140, 141, 142, 143, 144, 145, 146, 147, 148, 149, 150, 151, 152, 153, 154, 155, 156, 157, 158, 159, 160, 161, 162, 163, 164, 165, 166, 167, 168, 169, 170, 171, 172, 173, 174, 175, 176, 177, 178, 179, 180, 181, 182, 183, 184, 185, 186, 187, 188, 189, 190, 191, 192, 193, 194, 195, 196, 197, 198, 199, 200, 201, 202, 203, 204, 205, 206, 207, 208, 209, 210, 211, 212, 213, 214, 215]) (fun ⟨y31, v32, Nw, y34, v35, Ny, Vt, y38, y39⟩ => []) (fun ⟨y31, v32, Nw, y34, v35, Ny, Vt, y38, y39⟩ w => SH w0 M K0 w (hset [(1, .blk sb [v32, v35, (.int .i64 (y38)), (.int .i64 (y39))]), (2, .own aB.raw 49 v32 (List.zip y34 Nw)), (3, .bJ (aR aM 51 hn Nw (List.map aB.sub y34))), (4, .own (aT Val).raw 47 v35 (List.zip Vt Ny)), (5, .bJ (aR aM 51 hn Ny (List.map (aT Val).sub Vt))), (7, .blk b1 [(.bool (false)), (.int .i64 (0)), (.bool (y31))])]) ∧ jQ y31 y34 Vt y38 y39 = some r) ?_ ?_))))
 rintro ⟨y31, v32, Nw, y34, v35, Ny, Vt, y38, y39⟩ w dz ⟨h, hs⟩
 refine ai (ag (ae (dS (vs := [(.bool (false)), (.int .i64 (0)), (.bool (y31))]) h 7 rfl fM rfl rfl rfl) (dm (vs := [(.bool (false)), (.int .i64 (0)), (.bool (y31))]) h 7 [(.bool (false)), (.int .i64 (0)), (.bool (y31))] rfl fM rfl rfl rfl rfl rfl (ax rfl (ax rfl (ax rfl aZ))) fun w h => ae (aj (v := (.bool (true))) rfl) (ah (aa (aK (jN (vs := [(.bool (false)), (.int .i64 (0)), (.bool (y31))]) (v2 := (.bool (true))) Tryz.results65 rfl rfl h 7 rfl fM rfl ?_)))))))
 replace h := h.pair 1 2 (by decide)
 replace h := h.pair 1 3 (by decide)
 replace h := h.pair 1 4 (by decide)
 replace h := h.pair 1 5 (by decide)
 obtain rfl := Option.some.inj hs
 subst zJ
 obtain ⟨o1, o2, o3⟩ := h.qH 1 (C := (.two (.two (.two (.two (.blk sb [v32, v35, (.int .i64 (y38)), (.int .i64 (y39))]) (.own aB.raw 49 v32 (List.zip y34 Nw))) (.bJ (aR aM 51 hn Nw (List.map aB.sub y34)))) (.own (aT Val).raw 47 v35 (List.zip Vt Ny))) (.bJ (aR aM 51 hn Ny (List.map (aT Val).sub Vt))) : Chunk)) rfl ⟨⟨⟨⟨trivial, trivial⟩, trivial⟩, trivial⟩, trivial⟩
 exact ⟨o2, v32, v35, Nw, Ny, rfl, o1, o3⟩
 refine ai (ag (ae (ak oP rfl) (ae (aF h 177 rfl bz rfl rfl) (ah (aa (aV (ai (ag (ae (bI rfl rfl) (ae (aj (v := (.bool (decide ((aL.op : Int) = 1)))) rfl) (ah (aa (aI hs rfl (fun c40 hs => ?_) (fun c40 hs => ?_))))))))))))))
 refine ag (ae (au (v := u8) rfl) (ae (ak j3 rfl) (ae (aF h 177 rfl bz rfl rfl) (ae (ak iG rfl) (ae (aF h 177 rfl bz rfl rfl) (ae (dC (pv := [(0, (.int .i64 (1))), (1, (.int .i64 (aL.b)))]) (out := [(.int .i64 (1)), (.int .i64 (aL.b))]) uD rfl ⟨0, 1, [(.int .i64 (1))], rfl, rfl, rfl, Nat.le_of_ble_eq_true rfl, ⟨1, 1, [(.int .i64 (aL.b))], rfl, rfl, rfl, Nat.le_of_ble_eq_true rfl, rfl⟩⟩) ?_))))))
 obtain ⟨x41, e42, hs⟩ := aQ hs
 obtain ⟨PU, q45, i43⟩ := h.wo 8 rfl bX rfl (aJ e42).1 (aJ e42).2
 refine ae (i43 _ _ _ _ _ _ _ _ _ rfl rfl) (xw (a' := (⟨1, aL.b⟩ : Val)) (vs := [(.int .i64 (1)), (.int .i64 (aL.b))]) h 8 rfl q45 rfl (aJ e42).2 bS rfl rfl rfl rfl rfl fun w h k46 => ah (aA ?_))
 replace h := h.qX 2 3 8 ({ x3 with at_ := (min (x3.at_ + 1) ((aU.code.length : Int) - 1)), regs := (x3.regs.set (aL.a).toNat (⟨1, aL.b⟩ : Val)) }) rfl rfl rfl (by decide) (by decide) (by decide) (jO (aJ e4).2) e9 rfl
 refine az ?_
 exact bQ (false, eH, eZ, ((sx.frames.set (((sx.frames.length : Int) - 1)).toNat ({ x3 with at_ := (min (x3.at_ + 1) ((aU.code.length : Int) - 1)) })).set (((sx.frames.length : Int) - 1)).toNat ({ x3 with at_ := (min (x3.at_ + 1) ((aU.code.length : Int) - 1)), regs := (x3.regs.set (aL.a).toNat (⟨1, aL.b⟩ : Val)) })), vs1, eD, sx.cells, sx.status, sx.aW) ⟨h.cn _, hs⟩
 refine ai (ag (ae (bI rfl rfl) (ae (aj (v := (.bool (decide ((aL.op : Int) = 2)))) rfl) (ah (aa (aI hs rfl (fun Zt hs => ?_) (fun Zt hs => ?_)))))))
 refine qj 9 mixed (by kernel_rfl) h fun w h => aO (au (v := u8) rfl) (aO (ak j3 rfl) (aO (aF h 177 rfl bz rfl rfl) (aO (au (v := u8) rfl) (aO (ak iG rfl) (aO (aF h 177 rfl bz rfl rfl) ?_)))))
 obtain ⟨Cz, e49, hs⟩ := aQ hs
 obtain ⟨b51, q52, i50⟩ := h.wo 8 rfl bX rfl (aJ e49).1 (aJ e49).2
 refine aO (i50 _ _ _ _ _ _ _ _ _ rfl rfl) ?_
 obtain ⟨cs53, m54, r55⟩ := h.yN 8 rfl q52 (aJ e49).2
 obtain rfl := r55
 refine aO (oC (k := 0) (vs := [(.int .i64 (Cz.kind)), (.int .i64 (Cz.n))]) m54 bS rfl rfl rfl (Nat.le_of_ble_eq_true rfl)) ?_
 obtain ⟨Vu, e57, hs⟩ := aQ hs
 obtain ⟨b59, q60, i58⟩ := h.wo 8 rfl bX rfl (aJ e57).1 (aJ e57).2
 refine aO (i58 _ _ _ _ _ _ _ _ _ rfl rfl) (xP (xw (a' := Cz) (vs := [(.int .i64 (Cz.kind)), (.int .i64 (Cz.n))]) h 8 rfl q60 rfl (aJ e57).2 bS rfl rfl rfl rfl rfl fun w h Vs => ah (aA ?_)))
 replace h := h.qX 2 3 8 ({ x3 with at_ := (min (x3.at_ + 1) ((aU.code.length : Int) - 1)), regs := (x3.regs.set (aL.a).toNat Cz) }) rfl rfl rfl (by decide) (by decide) (by decide) (jO (aJ e4).2) e9 rfl
 refine az ?_
 exact bQ (false, eH, eZ, ((sx.frames.set (((sx.frames.length : Int) - 1)).toNat ({ x3 with at_ := (min (x3.at_ + 1) ((aU.code.length : Int) - 1)) })).set (((sx.frames.length : Int) - 1)).toNat ({ x3 with at_ := (min (x3.at_ + 1) ((aU.code.length : Int) - 1)), regs := (x3.regs.set (aL.a).toNat Cz) })), vs1, eD, sx.cells, sx.status, sx.aW) ⟨h.cn _, hs⟩
 refine ai (ag (ae (bI rfl rfl) (ae (aj (v := (.bool (decide ((aL.op : Int) = 3)))) rfl) (ah (aa (aI hs rfl (fun Ke hs => ?_) (fun Ke hs => ?_)))))))
 refine bV (σ := Bool × List LX.Frame) (inl [5, 84, 85, 86, 87, 88, 89, 90, 91, 92, 93, 94, 95, 96, 97, 98, 99, 100, 101, 102, 103, 104, 105]) (fun ⟨pO, H9⟩ => [(5, (.bool (pO)))]) (fun ⟨pO, H9⟩ w => SH w0 M K0 w (hset [(1, .blk sb [eH, vs1, (.int .i64 (sx.status)), (.int .i64 (sx.aW))]), (2, .own aB.raw 49 eH (List.zip H9 eZ)), (3, .bJ (aR aM 51 hn eZ (List.map aB.sub H9))), (4, .own (aT Val).raw 47 vs1 (List.zip sx.cells eD)), (5, .bJ (aR aM 51 hn eD (List.map (aT Val).sub sx.cells))), (7, .blk b1 [(.bool (false)), (.int .i64 (0)), (.bool (false))])]) ∧ zu sx pO H9 = some r) ?_ ?_
 rintro ⟨pO, H9⟩ w dz ⟨h, hs⟩
 refine ai (ag (ae (dS (vs := [(.bool (false)), (.int .i64 (0)), (.bool (false))]) h 7 rfl fM rfl rfl rfl) (ae (au (v := (.bool (pO))) rfl) (dm (vs := [(.bool (false)), (.int .i64 (0)), (.bool (false))]) h 7 [(.bool (false)), (.int .i64 (0)), (.bool (false))] rfl fM rfl rfl rfl rfl rfl (ax rfl (ax rfl (ax rfl aZ))) fun w h => ae (aj (v := (.bool (pO))) rfl) (ah (aa (aK (aH (aC (jN (vs := [(.bool (false)), (.int .i64 (0)), (.bool (false))]) (v2 := (.bool (pO))) Tryz.results65 rfl rfl h 7 rfl fM rfl ?_))))))))))
 replace h := h.pair 1 2 (by decide)
 replace h := h.pair 1 3 (by decide)
 replace h := h.pair 1 4 (by decide)
 replace h := h.pair 1 5 (by decide)
 obtain rfl := Option.some.inj hs
 subst zJ
 obtain ⟨o1, o2, o3⟩ := h.qH 1 (C := (.two (.two (.two (.two (.blk sb [eH, vs1, (.int .i64 (sx.status)), (.int .i64 (sx.aW))]) (.own aB.raw 49 eH (List.zip H9 eZ))) (.bJ (aR aM 51 hn eZ (List.map aB.sub H9)))) (.own (aT Val).raw 47 vs1 (List.zip sx.cells eD))) (.bJ (aR aM 51 hn eD (List.map (aT Val).sub sx.cells))) : Chunk)) rfl ⟨⟨⟨⟨trivial, trivial⟩, trivial⟩, trivial⟩, trivial⟩
 exact ⟨o2, eH, vs1, eZ, eD, rfl, o1, o3⟩
 refine lY (L := (ob u8)) mixed h fun w h => bg 0 (aP.refl _ _) rfl ay (by kernel_rfl) (by kernel_rfl) (by kernel_rfl) (fun w hk => au (v := u8) rfl) (bg 1 (aP.refl _ _) rfl ay (by kernel_rfl) (by kernel_rfl) (by kernel_rfl) (fun w hk => ak j3 rfl) (bg 2 (aP.refl _ _) rfl ay (by kernel_rfl) (by kernel_rfl) (by kernel_rfl) (fun w hk => have h := h.qN 8 rfl hk; aF h 177 rfl bz rfl rfl) (bg 3 (aP.refl _ _) rfl ay (by kernel_rfl) (by kernel_rfl) (by kernel_rfl) (fun w hk => ak vT rfl) (bg 4 (aP.refl _ _) rfl ay (by kernel_rfl) (by kernel_rfl) (by kernel_rfl) (fun w hk => have h := h.qN 8 rfl hk; aF h 177 rfl uC rfl rfl) ?_))))
 obtain ⟨Dn, LF, hs⟩ := aQ hs
 obtain ⟨bq70x5_4, oq70x5_5, YO, h, Tx, Ty⟩ := h.DI 154 275 rfl bW rfl (aJ LF).1 (aJ LF).2
 obtain rfl := Tx
 refine bg 5 (aP.refl _ _) rfl ay (by kernel_rfl) (by kernel_rfl) (by kernel_rfl) (fun w hk => Ty _ _ _ _ _ _ _ _ _ rfl rfl) (bg 6 (aP.refl _ _) rfl ay (by kernel_rfl) (by kernel_rfl) (by kernel_rfl) (fun w hk => have h := h.qN 8 rfl hk; eF (k := 0) h 275 rfl bz rfl rfl) (bg 7 (aP.refl _ _) rfl ay (by kernel_rfl) (by kernel_rfl) (by kernel_rfl) (fun w hk => au (v := u8) rfl) (bg 8 (aP.refl _ _) rfl ay (by kernel_rfl) (by kernel_rfl) (by kernel_rfl) (fun w hk => ak iG rfl) (bg 9 (aP.refl _ _) rfl ay (by kernel_rfl) (by kernel_rfl) (by kernel_rfl) (fun w hk => have h := h.qN 8 rfl hk; aF h 177 rfl bz rfl rfl) ?_))))
 obtain ⟨rR, Bo, hs⟩ := aQ hs
 obtain ⟨YP, Ja, Qe⟩ := h.wo 8 rfl bX rfl (aJ Bo).1 (aJ Bo).2
 refine bg 10 (aP.refl _ _) rfl ay (by kernel_rfl) (by kernel_rfl) (by kernel_rfl) (fun w hk => Qe _ _ _ _ _ _ _ _ _ rfl rfl) (bg 12 (aP.refl _ _) rfl ay (by kernel_rfl) (by kernel_rfl) (by kernel_rfl) (fun w hk => au (v := u8) rfl) (bg 13 (aP.refl _ _) rfl ay (by kernel_rfl) (by kernel_rfl) (by kernel_rfl) (fun w hk => ak qp rfl) (bg 14 (aP.refl _ _) rfl ay (by kernel_rfl) (by kernel_rfl) (by kernel_rfl) (fun w hk => have h := h.qN 8 rfl hk; aF h 177 rfl bz rfl rfl) ?_)))
 obtain ⟨rT, Bp, hs⟩ := aQ hs
 obtain ⟨YQ, Jb, Qf⟩ := h.wo 8 rfl bX rfl (aJ Bp).1 (aJ Bp).2
 refine bg 15 (aP.refl _ _) rfl ay (by kernel_rfl) (by kernel_rfl) (by kernel_rfl) (fun w hk => Qf _ _ _ _ _ _ _ _ _ rfl rfl) ?_
 obtain ⟨fJ, Jc, hs⟩ := aQ hs
 obtain ⟨P6, wy, hs⟩ := aQ hs
 obtain ⟨ws71, Wp⟩ : ∃ x, x = w := ⟨_, rfl⟩
 have uV : aP (ob u8) ws71 w := Wp ▸ aP.refl (ob u8) w
 refine sj Wp.symm (om 11 16 (by kernel_rfl) rfl ay rfl ay ?_ ?_)
 obtain ⟨Nz, Ez, EA⟩ := h.yN 8 rfl Ja (aJ Bo).2
 obtain rfl := EA
 refine ae (oC (k := 0) (vs := [(.int .i64 (rR.kind)), (.int .i64 (rR.n))]) Ez bS rfl rfl rfl (Nat.le_of_ble_eq_true rfl)) (ah (aX uV (bN 16 (by kernel_rfl) rfl ay ?_)))
 obtain ⟨NA, EB, EC⟩ := h.yN 8 rfl Jb (aJ Bp).2
 obtain rfl := EC
 refine ae (oC (k := 0) (vs := [(.int .i64 (rT.kind)), (.int .i64 (rT.n))]) EB bS rfl rfl rfl (Nat.le_of_ble_eq_true rfl)) (ah (aX uV (bN 17 (by kernel_rfl) rfl ay (bA RI rfl rfl (OD _ _ h.lt Dn rR rT _ Jc) ?_))))
 rintro _ w ⟨yI, rfl⟩
 refine ⟨_, rfl, ?_⟩
 replace h := h.grow yI
 replace uV := uV.grow yI
 refine ah (aX uV (bg 18 uV rfl ay (by kernel_rfl) (by kernel_rfl) (by kernel_rfl) (fun w hk => au (v := (.tuple #[(.agg #[(.int .i64 (fJ.1.kind)), (.int .i64 (fJ.1.n))]), (.bool (fJ.2))])) rfl) (bg 19 uV rfl ay (by kernel_rfl) (by kernel_rfl) (by kernel_rfl) (fun w hk => bC rfl rfl) (bg 20 uV rfl ay (by kernel_rfl) (by kernel_rfl) (by kernel_rfl) (fun w hk => bC rfl rfl) ?_))))
 obtain ⟨Qg, ED, EE⟩ := h.wo 8 rfl bX rfl (aJ wy).1 (aJ wy).2
 refine bg 21 uV rfl ay (by kernel_rfl) (by kernel_rfl) (by kernel_rfl) (fun w hk => EE _ _ _ _ _ _ _ _ _ rfl rfl) (bN 22 (by kernel_rfl) rfl ay (xw (a' := fJ.1) (vs := [(.int .i64 (fJ.1.kind)), (.int .i64 (fJ.1.n))]) h 8 rfl ED rfl (aJ wy).2 bS rfl rfl rfl rfl rfl fun w h EF => ?_))
 replace uV := uV.same EF
 refine ah (aX uV (bg 23 uV rfl ay (by kernel_rfl) (by kernel_rfl) (by kernel_rfl) (fun w hk => aj (v := (.bool (fJ.2))) rfl) (fU (by kernel_rfl) ?_)))
 replace h := h.qX 2 3 8 ({ x3 with at_ := (min (x3.at_ + 1) ((aU.code.length : Int) - 1)), regs := (x3.regs.set (aL.a).toNat fJ.1) }) rfl rfl rfl (by decide) (by decide) (by decide) (jO (aJ e4).2) e9 rfl
 refine az ?_
 exact bQ (fJ.2, ((sx.frames.set (((sx.frames.length : Int) - 1)).toNat ({ x3 with at_ := (min (x3.at_ + 1) ((aU.code.length : Int) - 1)) })).set (((sx.frames.length : Int) - 1)).toNat ({ x3 with at_ := (min (x3.at_ + 1) ((aU.code.length : Int) - 1)), regs := (x3.regs.set (aL.a).toNat fJ.1) }))) ⟨h.cn _, hs⟩
 obtain ⟨NA, EB, EC⟩ := h.yN 8 rfl Jb (aJ Bp).2
 obtain rfl := EC
 refine ae (oC (k := 0) (vs := [(.int .i64 (rT.kind)), (.int .i64 (rT.n))]) EB bS rfl rfl rfl (Nat.le_of_ble_eq_true rfl)) (ah (aX uV (bN 11 (by kernel_rfl) rfl ay ?_)))
 obtain ⟨Nz, Ez, EA⟩ := h.yN 8 rfl Ja (aJ Bo).2
 obtain rfl := EA
 refine ae (oC (k := 0) (vs := [(.int .i64 (rR.kind)), (.int .i64 (rR.n))]) Ez bS rfl rfl rfl (Nat.le_of_ble_eq_true rfl)) (ah (aX uV (bN 17 (by kernel_rfl) rfl ay (bA RI rfl rfl (OD _ _ h.lt Dn rR rT _ Jc) ?_))))
 rintro _ w ⟨yI, rfl⟩
 refine ⟨_, rfl, ?_⟩
 replace h := h.grow yI
 replace uV := uV.grow yI
 refine ah (aX uV (bg 18 uV rfl ay (by kernel_rfl) (by kernel_rfl) (by kernel_rfl) (fun w hk => au (v := (.tuple #[(.agg #[(.int .i64 (fJ.1.kind)), (.int .i64 (fJ.1.n))]), (.bool (fJ.2))])) rfl) (bg 19 uV rfl ay (by kernel_rfl) (by kernel_rfl) (by kernel_rfl) (fun w hk => bC rfl rfl) (bg 20 uV rfl ay (by kernel_rfl) (by kernel_rfl) (by kernel_rfl) (fun w hk => bC rfl rfl) ?_))))
 obtain ⟨Qg, ED, EE⟩ := h.wo 8 rfl bX rfl (aJ wy).1 (aJ wy).2
 refine bg 21 uV rfl ay (by kernel_rfl) (by kernel_rfl) (by kernel_rfl) (fun w hk => EE _ _ _ _ _ _ _ _ _ rfl rfl) (bN 22 (by kernel_rfl) rfl ay (xw (a' := fJ.1) (vs := [(.int .i64 (fJ.1.kind)), (.int .i64 (fJ.1.n))]) h 8 rfl ED rfl (aJ wy).2 bS rfl rfl rfl rfl rfl fun w h EF => ?_))
 replace uV := uV.same EF
 refine ah (aX uV (bg 23 uV rfl ay (by kernel_rfl) (by kernel_rfl) (by kernel_rfl) (fun w hk => aj (v := (.bool (fJ.2))) rfl) (fU (by kernel_rfl) ?_)))
 replace h := h.qX 2 3 8 ({ x3 with at_ := (min (x3.at_ + 1) ((aU.code.length : Int) - 1)), regs := (x3.regs.set (aL.a).toNat fJ.1) }) rfl rfl rfl (by decide) (by decide) (by decide) (jO (aJ e4).2) e9 rfl
 refine az ?_
 exact bQ (fJ.2, ((sx.frames.set (((sx.frames.length : Int) - 1)).toNat ({ x3 with at_ := (min (x3.at_ + 1) ((aU.code.length : Int) - 1)) })).set (((sx.frames.length : Int) - 1)).toNat ({ x3 with at_ := (min (x3.at_ + 1) ((aU.code.length : Int) - 1)), regs := (x3.regs.set (aL.a).toNat fJ.1) }))) ⟨h.cn _, hs⟩
 refine bV (σ := Bool) (inl [108, 109, 110]) (fun YJ => [(108, (.bool (YJ)))]) (fun YJ w => SH w0 M K0 w (hset [(1, .blk sb [eH, vs1, (.int .i64 (sx.status)), (.int .i64 (sx.aW))]), (2, .own aB.raw 49 eH (List.zip (sx.frames.set (((sx.frames.length : Int) - 1)).toNat ({ x3 with at_ := (min (x3.at_ + 1) ((aU.code.length : Int) - 1)) })) eZ)), (3, .bJ (aR aM 51 (hat (((sx.frames.length : Int) - 1)).toNat) eZ (List.map aB.sub (sx.frames.set (((sx.frames.length : Int) - 1)).toNat ({ x3 with at_ := (min (x3.at_ + 1) ((aU.code.length : Int) - 1)) }))))), (4, .own (aT Val).raw 47 vs1 (List.zip sx.cells eD)), (5, .bJ (aR aM 51 hn eD (List.map (aT Val).sub sx.cells))), (6, .rd jI va a), (7, .blk b1 [(.bool (false)), (.int .i64 (0)), (.bool (false))]), (8, .own aM 51 u8 x3.regs), (154, .rd fF jL aL.args), (177, .blk I9 [(.int .i64 (aL.op)), (.int .i64 (aL.a)), (.int .i64 (aL.b)), (.int .i64 (aL.c)), jL])]) ∧ iI N sx x3 aU aL a YJ = some r) ?_ ?_
 rintro YJ w dz ⟨h, hs⟩
 refine aI hs rfl (fun ZL hs => ?_) (fun ZL hs => ?_)
 refine ai ?_
 replace h := h.iM 3 8 rfl rfl (by decide) (jO (aJ e4).2) e9 rfl
 refine lY (L := (fun b => Chunk.own' (.two (.two (.two (.two (.blk sb [eH, vs1, (.int .i64 (sx.status)), (.int .i64 (sx.aW))]) (.own aB.raw 49 eH (List.zip (sx.frames.set (((sx.frames.length : Int) - 1)).toNat ({ x3 with at_ := (min (x3.at_ + 1) ((aU.code.length : Int) - 1)) })) eZ))) (.bJ (aR aM 51 hn eZ (List.map aB.sub (sx.frames.set (((sx.frames.length : Int) - 1)).toNat ({ x3 with at_ := (min (x3.at_ + 1) ((aU.code.length : Int) - 1)) })))))) (.own (aT Val).raw 47 vs1 (List.zip sx.cells eD))) (.bJ (aR aM 51 hn eD (List.map (aT Val).sub sx.cells))) : Chunk) b ∨ b = b1)) mixed h fun w h => bg 1 (aP.refl _ _) rfl ay (by kernel_rfl) (by kernel_rfl) (by kernel_rfl) (fun w hk => au (v := (.pointer (some ⟨sb, 0, none⟩))) rfl) (bg 2 (aP.refl _ _) rfl ay (by kernel_rfl) (by kernel_rfl) (by kernel_rfl) (fun w hk => have h := ((((h.pair 1 2 (by decide)).pair 1 3 (by decide)).pair 1 4 (by decide)).pair 1 5 (by decide)).DR 1 7 (by decide) rfl rfl hk; dS (vs := [(.int .i64 (aL.op)), (.int .i64 (aL.a)), (.int .i64 (aL.b)), (.int .i64 (aL.c)), jL]) h 177 rfl pq rfl rfl rfl) (bg 3 (aP.refl _ _) rfl ay (by kernel_rfl) (by kernel_rfl) (by kernel_rfl) (fun w hk => au (v := u8) rfl) ?_))
 obtain ⟨ed, LG, hs⟩ := aQ hs
 obtain ⟨ws86, Wq⟩ : ∃ x, x = w := ⟨_, rfl⟩
 have BA : aP (fun b => Chunk.own' (.two (.two (.two (.two (.blk sb [eH, vs1, (.int .i64 (sx.status)), (.int .i64 (sx.aW))]) (.own aB.raw 49 eH (List.zip (sx.frames.set (((sx.frames.length : Int) - 1)).toNat ({ x3 with at_ := (min (x3.at_ + 1) ((aU.code.length : Int) - 1)) })) eZ))) (.bJ (aR aM 51 hn eZ (List.map aB.sub (sx.frames.set (((sx.frames.length : Int) - 1)).toNat ({ x3 with at_ := (min (x3.at_ + 1) ((aU.code.length : Int) - 1)) })))))) (.own (aT Val).raw 47 vs1 (List.zip sx.cells eD))) (.bJ (aR aM 51 hn eD (List.map (aT Val).sub sx.cells))) : Chunk) b ∨ b = b1) ws86 w := Wq ▸ aP.refl (fun b => Chunk.own' (.two (.two (.two (.two (.blk sb [eH, vs1, (.int .i64 (sx.status)), (.int .i64 (sx.aW))]) (.own aB.raw 49 eH (List.zip (sx.frames.set (((sx.frames.length : Int) - 1)).toNat ({ x3 with at_ := (min (x3.at_ + 1) ((aU.code.length : Int) - 1)) })) eZ))) (.bJ (aR aM 51 hn eZ (List.map aB.sub (sx.frames.set (((sx.frames.length : Int) - 1)).toNat ({ x3 with at_ := (min (x3.at_ + 1) ((aU.code.length : Int) - 1)) })))))) (.own (aT Val).raw 47 vs1 (List.zip sx.cells eD))) (.bJ (aR aM 51 hn eD (List.map (aT Val).sub sx.cells))) : Chunk) b ∨ b = b1) w
 refine sj Wq.symm (om 0 4 (by kernel_rfl) rfl ay rfl ay ?_ ?_)
 refine ae (dS (vs := [(.bool (false)), (.int .i64 (0)), (.bool (false))]) h 7 rfl fM rfl rfl rfl) (ah (aX BA (bN 4 (by kernel_rfl) rfl ay ?_)))
 replace h := h.pair 1 2 (by decide)
 replace h := h.pair 1 3 (by decide)
 replace h := h.pair 1 4 (by decide)
 replace h := h.pair 1 5 (by decide)
 obtain ⟨EG, EH, EI⟩ := h.wC 1 (C := (.two (.two (.two (.two (.blk sb [eH, vs1, (.int .i64 (sx.status)), (.int .i64 (sx.aW))]) (.own aB.raw 49 eH (List.zip (sx.frames.set (((sx.frames.length : Int) - 1)).toNat ({ x3 with at_ := (min (x3.at_ + 1) ((aU.code.length : Int) - 1)) })) eZ))) (.bJ (aR aM 51 hn eZ (List.map aB.sub (sx.frames.set (((sx.frames.length : Int) - 1)).toNat ({ x3 with at_ := (min (x3.at_ + 1) ((aU.code.length : Int) - 1)) })))))) (.own (aT Val).raw 47 vs1 (List.zip sx.cells eD))) (.bJ (aR aM 51 hn eD (List.map (aT Val).sub sx.cells))) : Chunk)) rfl ⟨⟨⟨⟨trivial, trivial⟩, trivial⟩, trivial⟩, trivial⟩
 refine bA RJ rfl rfl (GA _ _ EI sb (⟨(sx.frames.set (((sx.frames.length : Int) - 1)).toNat ({ x3 with at_ := (min (x3.at_ + 1) ((aU.code.length : Int) - 1)) })), sx.cells, sx.status, sx.aW⟩ : LX.State) eH vs1 eZ eD EG EH aL jL (h.Ol 1 154 rfl rfl) ((sx.frames.length : Int) - 1) ({ x3 with at_ := (min (x3.at_ + 1) ((aU.code.length : Int) - 1)) }) (aJ e4).1 (jO (aJ e4).2) u8 e9 _ LG) ?_
 rintro _ w ⟨Aw, qa, qb, mX, mY, rfl, GU, EJ⟩
 refine ⟨_, rfl, ?_⟩
 replace h := h.back 1 (C := (.two (.two (.two (.two (.blk sb [eH, vs1, (.int .i64 (sx.status)), (.int .i64 (sx.aW))]) (.own aB.raw 49 eH (List.zip (sx.frames.set (((sx.frames.length : Int) - 1)).toNat ({ x3 with at_ := (min (x3.at_ + 1) ((aU.code.length : Int) - 1)) })) eZ))) (.bJ (aR aM 51 hn eZ (List.map aB.sub (sx.frames.set (((sx.frames.length : Int) - 1)).toNat ({ x3 with at_ := (min (x3.at_ + 1) ((aU.code.length : Int) - 1)) })))))) (.own (aT Val).raw 47 vs1 (List.zip sx.cells eD))) (.bJ (aR aM 51 hn eD (List.map (aT Val).sub sx.cells))) : Chunk)) (C' := (.two (.two (.two (.two (.blk sb [qa, qb, (.int .i64 (ed.2.status)), (.int .i64 (ed.2.aW))]) (.own aB.raw 49 qa (List.zip ed.2.frames mX))) (.bJ (aR aM 51 hn mX (List.map aB.sub ed.2.frames)))) (.own (aT Val).raw 47 qb (List.zip ed.2.cells mY))) (.bJ (aR aM 51 hn mY (List.map (aT Val).sub ed.2.cells))) : Chunk)) rfl ⟨⟨⟨⟨trivial, trivial⟩, trivial⟩, trivial⟩, trivial⟩ GU Aw EJ
 replace h := h.bU 1 5 (by decide) rfl rfl
 replace h := h.bU 1 4 (by decide) rfl rfl
 replace h := h.bU 1 3 (by decide) rfl rfl
 replace h := h.bU 1 2 (by decide) rfl rfl
 replace BA := aP.step BA Aw (fun _ hx _ => .inl (hx))
 refine ah (aX BA (bN 5 (by kernel_rfl) rfl ay (xu (vs := [(.bool (false)), (.int .i64 (0)), (.bool (false))]) h 7 [(.bool (false)), (.int .i64 (0)), (.bool (false))] rfl fM rfl rfl rfl rfl rfl (ax rfl (ax rfl (ax rfl aZ))) fun w h GV => ?_)))
 replace BA := aP.step BA GV (fun _ hx _ => .inr (hx))
 refine ah (aX BA (bg 6 BA rfl ay (by kernel_rfl) (by kernel_rfl) (by kernel_rfl) (fun w hk => aj (v := (.bool (ed.1))) rfl) (fU (by kernel_rfl) (aa (aK (aH (aC (jN (vs := [(.bool (false)), (.int .i64 (0)), (.bool (false))]) (v2 := (.bool (ed.1))) Tryz.results65 rfl rfl h 7 rfl fM rfl ?_))))))))
 replace h := h.pair 1 2 (by decide)
 replace h := h.pair 1 3 (by decide)
 replace h := h.pair 1 4 (by decide)
 replace h := h.pair 1 5 (by decide)
 obtain rfl := Option.some.inj hs
 subst zJ
 obtain ⟨o1, o2, o3⟩ := h.qH 1 (C := (.two (.two (.two (.two (.blk sb [qa, qb, (.int .i64 (ed.2.status)), (.int .i64 (ed.2.aW))]) (.own aB.raw 49 qa (List.zip ed.2.frames mX))) (.bJ (aR aM 51 hn mX (List.map aB.sub ed.2.frames)))) (.own (aT Val).raw 47 qb (List.zip ed.2.cells mY))) (.bJ (aR aM 51 hn mY (List.map (aT Val).sub ed.2.cells))) : Chunk)) rfl ⟨⟨⟨⟨trivial, trivial⟩, trivial⟩, trivial⟩, trivial⟩
 exact ⟨o2, qa, qb, mX, mY, rfl, o1, o3⟩
 replace h := h.pair 1 2 (by decide)
 replace h := h.pair 1 3 (by decide)
 replace h := h.pair 1 4 (by decide)
 replace h := h.pair 1 5 (by decide)
 obtain ⟨EG, EH, EI⟩ := h.wC 1 (C := (.two (.two (.two (.two (.blk sb [eH, vs1, (.int .i64 (sx.status)), (.int .i64 (sx.aW))]) (.own aB.raw 49 eH (List.zip (sx.frames.set (((sx.frames.length : Int) - 1)).toNat ({ x3 with at_ := (min (x3.at_ + 1) ((aU.code.length : Int) - 1)) })) eZ))) (.bJ (aR aM 51 hn eZ (List.map aB.sub (sx.frames.set (((sx.frames.length : Int) - 1)).toNat ({ x3 with at_ := (min (x3.at_ + 1) ((aU.code.length : Int) - 1)) })))))) (.own (aT Val).raw 47 vs1 (List.zip sx.cells eD))) (.bJ (aR aM 51 hn eD (List.map (aT Val).sub sx.cells))) : Chunk)) rfl ⟨⟨⟨⟨trivial, trivial⟩, trivial⟩, trivial⟩, trivial⟩
 refine bA RJ rfl rfl (GA _ _ EI sb (⟨(sx.frames.set (((sx.frames.length : Int) - 1)).toNat ({ x3 with at_ := (min (x3.at_ + 1) ((aU.code.length : Int) - 1)) })), sx.cells, sx.status, sx.aW⟩ : LX.State) eH vs1 eZ eD EG EH aL jL (h.Ol 1 154 rfl rfl) ((sx.frames.length : Int) - 1) ({ x3 with at_ := (min (x3.at_ + 1) ((aU.code.length : Int) - 1)) }) (aJ e4).1 (jO (aJ e4).2) u8 e9 _ LG) ?_
 rintro _ w ⟨Aw, qa, qb, mX, mY, rfl, GU, EJ⟩
 refine ⟨_, rfl, ?_⟩
 replace h := h.back 1 (C := (.two (.two (.two (.two (.blk sb [eH, vs1, (.int .i64 (sx.status)), (.int .i64 (sx.aW))]) (.own aB.raw 49 eH (List.zip (sx.frames.set (((sx.frames.length : Int) - 1)).toNat ({ x3 with at_ := (min (x3.at_ + 1) ((aU.code.length : Int) - 1)) })) eZ))) (.bJ (aR aM 51 hn eZ (List.map aB.sub (sx.frames.set (((sx.frames.length : Int) - 1)).toNat ({ x3 with at_ := (min (x3.at_ + 1) ((aU.code.length : Int) - 1)) })))))) (.own (aT Val).raw 47 vs1 (List.zip sx.cells eD))) (.bJ (aR aM 51 hn eD (List.map (aT Val).sub sx.cells))) : Chunk)) (C' := (.two (.two (.two (.two (.blk sb [qa, qb, (.int .i64 (ed.2.status)), (.int .i64 (ed.2.aW))]) (.own aB.raw 49 qa (List.zip ed.2.frames mX))) (.bJ (aR aM 51 hn mX (List.map aB.sub ed.2.frames)))) (.own (aT Val).raw 47 qb (List.zip ed.2.cells mY))) (.bJ (aR aM 51 hn mY (List.map (aT Val).sub ed.2.cells))) : Chunk)) rfl ⟨⟨⟨⟨trivial, trivial⟩, trivial⟩, trivial⟩, trivial⟩ GU Aw EJ
 replace h := h.bU 1 5 (by decide) rfl rfl
 replace h := h.bU 1 4 (by decide) rfl rfl
 replace h := h.bU 1 3 (by decide) rfl rfl
 replace h := h.bU 1 2 (by decide) rfl rfl
 replace BA := aP.step BA Aw (fun _ hx _ => .inl (hx))
 refine ah (aX BA (bN 0 (by kernel_rfl) rfl ay (ae (dS (vs := [(.bool (false)), (.int .i64 (0)), (.bool (false))]) h 7 rfl fM rfl rfl rfl) (ah (aX BA (bN 5 (by kernel_rfl) rfl ay (xu (vs := [(.bool (false)), (.int .i64 (0)), (.bool (false))]) h 7 [(.bool (false)), (.int .i64 (0)), (.bool (false))] rfl fM rfl rfl rfl rfl rfl (ax rfl (ax rfl (ax rfl aZ))) fun w h GV => ?_)))))))
 replace BA := aP.step BA GV (fun _ hx _ => .inr (hx))
 refine ah (aX BA (bg 6 BA rfl ay (by kernel_rfl) (by kernel_rfl) (by kernel_rfl) (fun w hk => aj (v := (.bool (ed.1))) rfl) (fU (by kernel_rfl) (aa (aK (aH (aC (jN (vs := [(.bool (false)), (.int .i64 (0)), (.bool (false))]) (v2 := (.bool (ed.1))) Tryz.results65 rfl rfl h 7 rfl fM rfl ?_))))))))
 replace h := h.pair 1 2 (by decide)
 replace h := h.pair 1 3 (by decide)
 replace h := h.pair 1 4 (by decide)
 replace h := h.pair 1 5 (by decide)
 obtain rfl := Option.some.inj hs
 subst zJ
 obtain ⟨o1, o2, o3⟩ := h.qH 1 (C := (.two (.two (.two (.two (.blk sb [qa, qb, (.int .i64 (ed.2.status)), (.int .i64 (ed.2.aW))]) (.own aB.raw 49 qa (List.zip ed.2.frames mX))) (.bJ (aR aM 51 hn mX (List.map aB.sub ed.2.frames)))) (.own (aT Val).raw 47 qb (List.zip ed.2.cells mY))) (.bJ (aR aM 51 hn mY (List.map (aT Val).sub ed.2.cells))) : Chunk)) rfl ⟨⟨⟨⟨trivial, trivial⟩, trivial⟩, trivial⟩, trivial⟩
 exact ⟨o2, qa, qb, mX, mY, rfl, o1, o3⟩
 refine ai (ag (ae (bI rfl rfl) (ae (aj (v := (.bool (decide ((aL.op : Int) = 5)))) rfl) (ah (aa (aI hs rfl (fun c88 hs => ?_) (fun c88 hs => ?_)))))))
 refine ai ?_
 replace h := h.iM 3 8 rfl rfl (by decide) (jO (aJ e4).2) e9 rfl
 refine lY (L := (fun b => Chunk.own' (.two (.two (.two (.two (.blk sb [eH, vs1, (.int .i64 (sx.status)), (.int .i64 (sx.aW))]) (.own aB.raw 49 eH (List.zip (sx.frames.set (((sx.frames.length : Int) - 1)).toNat ({ x3 with at_ := (min (x3.at_ + 1) ((aU.code.length : Int) - 1)) })) eZ))) (.bJ (aR aM 51 hn eZ (List.map aB.sub (sx.frames.set (((sx.frames.length : Int) - 1)).toNat ({ x3 with at_ := (min (x3.at_ + 1) ((aU.code.length : Int) - 1)) })))))) (.own (aT Val).raw 47 vs1 (List.zip sx.cells eD))) (.bJ (aR aM 51 hn eD (List.map (aT Val).sub sx.cells))) : Chunk) b ∨ b = b1)) mixed h fun w h => bg 1 (aP.refl _ _) rfl ay (by kernel_rfl) (by kernel_rfl) (by kernel_rfl) (fun w hk => au (v := (.pointer (some ⟨sb, 0, none⟩))) rfl) (bg 2 (aP.refl _ _) rfl ay (by kernel_rfl) (by kernel_rfl) (by kernel_rfl) (fun w hk => have h := ((((h.pair 1 2 (by decide)).pair 1 3 (by decide)).pair 1 4 (by decide)).pair 1 5 (by decide)).DR 1 7 (by decide) rfl rfl hk; dS (vs := [(.int .i64 (aL.op)), (.int .i64 (aL.a)), (.int .i64 (aL.b)), (.int .i64 (aL.c)), jL]) h 177 rfl pq rfl rfl rfl) ?_)
 obtain ⟨ek, LH, hs⟩ := aQ hs
 obtain ⟨ws100, Tz⟩ : ∃ x, x = w := ⟨_, rfl⟩
 have vK : aP (fun b => Chunk.own' (.two (.two (.two (.two (.blk sb [eH, vs1, (.int .i64 (sx.status)), (.int .i64 (sx.aW))]) (.own aB.raw 49 eH (List.zip (sx.frames.set (((sx.frames.length : Int) - 1)).toNat ({ x3 with at_ := (min (x3.at_ + 1) ((aU.code.length : Int) - 1)) })) eZ))) (.bJ (aR aM 51 hn eZ (List.map aB.sub (sx.frames.set (((sx.frames.length : Int) - 1)).toNat ({ x3 with at_ := (min (x3.at_ + 1) ((aU.code.length : Int) - 1)) })))))) (.own (aT Val).raw 47 vs1 (List.zip sx.cells eD))) (.bJ (aR aM 51 hn eD (List.map (aT Val).sub sx.cells))) : Chunk) b ∨ b = b1) ws100 w := Tz ▸ aP.refl (fun b => Chunk.own' (.two (.two (.two (.two (.blk sb [eH, vs1, (.int .i64 (sx.status)), (.int .i64 (sx.aW))]) (.own aB.raw 49 eH (List.zip (sx.frames.set (((sx.frames.length : Int) - 1)).toNat ({ x3 with at_ := (min (x3.at_ + 1) ((aU.code.length : Int) - 1)) })) eZ))) (.bJ (aR aM 51 hn eZ (List.map aB.sub (sx.frames.set (((sx.frames.length : Int) - 1)).toNat ({ x3 with at_ := (min (x3.at_ + 1) ((aU.code.length : Int) - 1)) })))))) (.own (aT Val).raw 47 vs1 (List.zip sx.cells eD))) (.bJ (aR aM 51 hn eD (List.map (aT Val).sub sx.cells))) : Chunk) b ∨ b = b1) w
 refine sj Tz.symm (om 0 3 (by kernel_rfl) rfl ay rfl ay ?_ ?_)
 refine ae (dS (vs := [(.bool (false)), (.int .i64 (0)), (.bool (false))]) h 7 rfl fM rfl rfl rfl) (ah (aX vK (bN 3 (by kernel_rfl) rfl ay ?_)))
 replace h := h.pair 1 2 (by decide)
 replace h := h.pair 1 3 (by decide)
 replace h := h.pair 1 4 (by decide)
 replace h := h.pair 1 5 (by decide)
 obtain ⟨EK, EL, EM⟩ := h.wC 1 (C := (.two (.two (.two (.two (.blk sb [eH, vs1, (.int .i64 (sx.status)), (.int .i64 (sx.aW))]) (.own aB.raw 49 eH (List.zip (sx.frames.set (((sx.frames.length : Int) - 1)).toNat ({ x3 with at_ := (min (x3.at_ + 1) ((aU.code.length : Int) - 1)) })) eZ))) (.bJ (aR aM 51 hn eZ (List.map aB.sub (sx.frames.set (((sx.frames.length : Int) - 1)).toNat ({ x3 with at_ := (min (x3.at_ + 1) ((aU.code.length : Int) - 1)) })))))) (.own (aT Val).raw 47 vs1 (List.zip sx.cells eD))) (.bJ (aR aM 51 hn eD (List.map (aT Val).sub sx.cells))) : Chunk)) rfl ⟨⟨⟨⟨trivial, trivial⟩, trivial⟩, trivial⟩, trivial⟩
 refine bA RL rfl rfl (GJ N _ _ EM sb (⟨(sx.frames.set (((sx.frames.length : Int) - 1)).toNat ({ x3 with at_ := (min (x3.at_ + 1) ((aU.code.length : Int) - 1)) })), sx.cells, sx.status, sx.aW⟩ : LX.State) eH vs1 eZ eD EK EL aL jL (h.Ol 1 154 rfl rfl) _ LH) ?_
 rintro _ w ⟨Ay, qc, qd, mZ, ng, rfl, GX, EN⟩
 refine ⟨_, rfl, ?_⟩
 replace h := h.back 1 (C := (.two (.two (.two (.two (.blk sb [eH, vs1, (.int .i64 (sx.status)), (.int .i64 (sx.aW))]) (.own aB.raw 49 eH (List.zip (sx.frames.set (((sx.frames.length : Int) - 1)).toNat ({ x3 with at_ := (min (x3.at_ + 1) ((aU.code.length : Int) - 1)) })) eZ))) (.bJ (aR aM 51 hn eZ (List.map aB.sub (sx.frames.set (((sx.frames.length : Int) - 1)).toNat ({ x3 with at_ := (min (x3.at_ + 1) ((aU.code.length : Int) - 1)) })))))) (.own (aT Val).raw 47 vs1 (List.zip sx.cells eD))) (.bJ (aR aM 51 hn eD (List.map (aT Val).sub sx.cells))) : Chunk)) (C' := (.two (.two (.two (.two (.blk sb [qc, qd, (.int .i64 (ek.2.status)), (.int .i64 (ek.2.aW))]) (.own aB.raw 49 qc (List.zip ek.2.frames mZ))) (.bJ (aR aM 51 hn mZ (List.map aB.sub ek.2.frames)))) (.own (aT Val).raw 47 qd (List.zip ek.2.cells ng))) (.bJ (aR aM 51 hn ng (List.map (aT Val).sub ek.2.cells))) : Chunk)) rfl ⟨⟨⟨⟨trivial, trivial⟩, trivial⟩, trivial⟩, trivial⟩ GX Ay EN
 replace h := h.bU 1 5 (by decide) rfl rfl
 replace h := h.bU 1 4 (by decide) rfl rfl
 replace h := h.bU 1 3 (by decide) rfl rfl
 replace h := h.bU 1 2 (by decide) rfl rfl
 replace vK := aP.step vK Ay (fun _ hx _ => .inl (hx))
 refine ah (aX vK (bN 4 (by kernel_rfl) rfl ay (xu (vs := [(.bool (false)), (.int .i64 (0)), (.bool (false))]) h 7 [(.bool (false)), (.int .i64 (0)), (.bool (false))] rfl fM rfl rfl rfl rfl rfl (ax rfl (ax rfl (ax rfl aZ))) fun w h GY => ?_)))
 replace vK := aP.step vK GY (fun _ hx _ => .inr (hx))
 refine ah (aX vK (bg 5 vK rfl ay (by kernel_rfl) (by kernel_rfl) (by kernel_rfl) (fun w hk => aj (v := (.bool (ek.1))) rfl) (fU (by kernel_rfl) (aa (aK (aH (aC (jN (vs := [(.bool (false)), (.int .i64 (0)), (.bool (false))]) (v2 := (.bool (ek.1))) Tryz.results65 rfl rfl h 7 rfl fM rfl ?_))))))))
 replace h := h.pair 1 2 (by decide)
 replace h := h.pair 1 3 (by decide)
 replace h := h.pair 1 4 (by decide)
 replace h := h.pair 1 5 (by decide)
 obtain rfl := Option.some.inj hs
 subst zJ
 obtain ⟨o1, o2, o3⟩ := h.qH 1 (C := (.two (.two (.two (.two (.blk sb [qc, qd, (.int .i64 (ek.2.status)), (.int .i64 (ek.2.aW))]) (.own aB.raw 49 qc (List.zip ek.2.frames mZ))) (.bJ (aR aM 51 hn mZ (List.map aB.sub ek.2.frames)))) (.own (aT Val).raw 47 qd (List.zip ek.2.cells ng))) (.bJ (aR aM 51 hn ng (List.map (aT Val).sub ek.2.cells))) : Chunk)) rfl ⟨⟨⟨⟨trivial, trivial⟩, trivial⟩, trivial⟩, trivial⟩
 exact ⟨o2, qc, qd, mZ, ng, rfl, o1, o3⟩
 replace h := h.pair 1 2 (by decide)
 replace h := h.pair 1 3 (by decide)
 replace h := h.pair 1 4 (by decide)
 replace h := h.pair 1 5 (by decide)
 obtain ⟨EK, EL, EM⟩ := h.wC 1 (C := (.two (.two (.two (.two (.blk sb [eH, vs1, (.int .i64 (sx.status)), (.int .i64 (sx.aW))]) (.own aB.raw 49 eH (List.zip (sx.frames.set (((sx.frames.length : Int) - 1)).toNat ({ x3 with at_ := (min (x3.at_ + 1) ((aU.code.length : Int) - 1)) })) eZ))) (.bJ (aR aM 51 hn eZ (List.map aB.sub (sx.frames.set (((sx.frames.length : Int) - 1)).toNat ({ x3 with at_ := (min (x3.at_ + 1) ((aU.code.length : Int) - 1)) })))))) (.own (aT Val).raw 47 vs1 (List.zip sx.cells eD))) (.bJ (aR aM 51 hn eD (List.map (aT Val).sub sx.cells))) : Chunk)) rfl ⟨⟨⟨⟨trivial, trivial⟩, trivial⟩, trivial⟩, trivial⟩
 refine bA RL rfl rfl (GJ N _ _ EM sb (⟨(sx.frames.set (((sx.frames.length : Int) - 1)).toNat ({ x3 with at_ := (min (x3.at_ + 1) ((aU.code.length : Int) - 1)) })), sx.cells, sx.status, sx.aW⟩ : LX.State) eH vs1 eZ eD EK EL aL jL (h.Ol 1 154 rfl rfl) _ LH) ?_
 rintro _ w ⟨Ay, qc, qd, mZ, ng, rfl, GX, EN⟩
 refine ⟨_, rfl, ?_⟩
 replace h := h.back 1 (C := (.two (.two (.two (.two (.blk sb [eH, vs1, (.int .i64 (sx.status)), (.int .i64 (sx.aW))]) (.own aB.raw 49 eH (List.zip (sx.frames.set (((sx.frames.length : Int) - 1)).toNat ({ x3 with at_ := (min (x3.at_ + 1) ((aU.code.length : Int) - 1)) })) eZ))) (.bJ (aR aM 51 hn eZ (List.map aB.sub (sx.frames.set (((sx.frames.length : Int) - 1)).toNat ({ x3 with at_ := (min (x3.at_ + 1) ((aU.code.length : Int) - 1)) })))))) (.own (aT Val).raw 47 vs1 (List.zip sx.cells eD))) (.bJ (aR aM 51 hn eD (List.map (aT Val).sub sx.cells))) : Chunk)) (C' := (.two (.two (.two (.two (.blk sb [qc, qd, (.int .i64 (ek.2.status)), (.int .i64 (ek.2.aW))]) (.own aB.raw 49 qc (List.zip ek.2.frames mZ))) (.bJ (aR aM 51 hn mZ (List.map aB.sub ek.2.frames)))) (.own (aT Val).raw 47 qd (List.zip ek.2.cells ng))) (.bJ (aR aM 51 hn ng (List.map (aT Val).sub ek.2.cells))) : Chunk)) rfl ⟨⟨⟨⟨trivial, trivial⟩, trivial⟩, trivial⟩, trivial⟩ GX Ay EN
 replace h := h.bU 1 5 (by decide) rfl rfl
 replace h := h.bU 1 4 (by decide) rfl rfl
 replace h := h.bU 1 3 (by decide) rfl rfl
 replace h := h.bU 1 2 (by decide) rfl rfl
 replace vK := aP.step vK Ay (fun _ hx _ => .inl (hx))
 refine ah (aX vK (bN 0 (by kernel_rfl) rfl ay (ae (dS (vs := [(.bool (false)), (.int .i64 (0)), (.bool (false))]) h 7 rfl fM rfl rfl rfl) (ah (aX vK (bN 4 (by kernel_rfl) rfl ay (xu (vs := [(.bool (false)), (.int .i64 (0)), (.bool (false))]) h 7 [(.bool (false)), (.int .i64 (0)), (.bool (false))] rfl fM rfl rfl rfl rfl rfl (ax rfl (ax rfl (ax rfl aZ))) fun w h GY => ?_)))))))
 replace vK := aP.step vK GY (fun _ hx _ => .inr (hx))
 refine ah (aX vK (bg 5 vK rfl ay (by kernel_rfl) (by kernel_rfl) (by kernel_rfl) (fun w hk => aj (v := (.bool (ek.1))) rfl) (fU (by kernel_rfl) (aa (aK (aH (aC (jN (vs := [(.bool (false)), (.int .i64 (0)), (.bool (false))]) (v2 := (.bool (ek.1))) Tryz.results65 rfl rfl h 7 rfl fM rfl ?_))))))))
 replace h := h.pair 1 2 (by decide)
 replace h := h.pair 1 3 (by decide)
 replace h := h.pair 1 4 (by decide)
 replace h := h.pair 1 5 (by decide)
 obtain rfl := Option.some.inj hs
 subst zJ
 obtain ⟨o1, o2, o3⟩ := h.qH 1 (C := (.two (.two (.two (.two (.blk sb [qc, qd, (.int .i64 (ek.2.status)), (.int .i64 (ek.2.aW))]) (.own aB.raw 49 qc (List.zip ek.2.frames mZ))) (.bJ (aR aM 51 hn mZ (List.map aB.sub ek.2.frames)))) (.own (aT Val).raw 47 qd (List.zip ek.2.cells ng))) (.bJ (aR aM 51 hn ng (List.map (aT Val).sub ek.2.cells))) : Chunk)) rfl ⟨⟨⟨⟨trivial, trivial⟩, trivial⟩, trivial⟩, trivial⟩
 exact ⟨o2, qc, qd, mZ, ng, rfl, o1, o3⟩
 refine ai (ag (ae (bI rfl rfl) (ae (aj (v := (.bool (decide ((aL.op : Int) = 7)))) rfl) (ah (aa (aI hs rfl (fun Sw hs => ?_) (fun Sw hs => ?_)))))))
 refine ai ?_
 replace h := h.iM 3 8 rfl rfl (by decide) (jO (aJ e4).2) e9 rfl
 refine lY (L := (fun b => Chunk.own' (.two (.two (.two (.two (.blk sb [eH, vs1, (.int .i64 (sx.status)), (.int .i64 (sx.aW))]) (.own aB.raw 49 eH (List.zip (sx.frames.set (((sx.frames.length : Int) - 1)).toNat ({ x3 with at_ := (min (x3.at_ + 1) ((aU.code.length : Int) - 1)) })) eZ))) (.bJ (aR aM 51 hn eZ (List.map aB.sub (sx.frames.set (((sx.frames.length : Int) - 1)).toNat ({ x3 with at_ := (min (x3.at_ + 1) ((aU.code.length : Int) - 1)) })))))) (.own (aT Val).raw 47 vs1 (List.zip sx.cells eD))) (.bJ (aR aM 51 hn eD (List.map (aT Val).sub sx.cells))) : Chunk) b ∨ b = b1)) mixed h fun w h => bg 1 (aP.refl _ _) rfl ay (by kernel_rfl) (by kernel_rfl) (by kernel_rfl) (fun w hk => au (v := va) rfl) (bg 2 (aP.refl _ _) rfl ay (by kernel_rfl) (by kernel_rfl) (by kernel_rfl) (fun w hk => au (v := (.pointer (some ⟨sb, 0, none⟩))) rfl) (bg 3 (aP.refl _ _) rfl ay (by kernel_rfl) (by kernel_rfl) (by kernel_rfl) (fun w hk => have h := ((((h.pair 1 2 (by decide)).pair 1 3 (by decide)).pair 1 4 (by decide)).pair 1 5 (by decide)).DR 1 7 (by decide) rfl rfl hk; dS (vs := [(.int .i64 (aL.op)), (.int .i64 (aL.a)), (.int .i64 (aL.b)), (.int .i64 (aL.c)), jL]) h 177 rfl pq rfl rfl rfl) ?_))
 obtain ⟨dI, Jd, hs⟩ := aQ hs
 obtain ⟨ws114, TA⟩ : ∃ x, x = w := ⟨_, rfl⟩
 have vL : aP (fun b => Chunk.own' (.two (.two (.two (.two (.blk sb [eH, vs1, (.int .i64 (sx.status)), (.int .i64 (sx.aW))]) (.own aB.raw 49 eH (List.zip (sx.frames.set (((sx.frames.length : Int) - 1)).toNat ({ x3 with at_ := (min (x3.at_ + 1) ((aU.code.length : Int) - 1)) })) eZ))) (.bJ (aR aM 51 hn eZ (List.map aB.sub (sx.frames.set (((sx.frames.length : Int) - 1)).toNat ({ x3 with at_ := (min (x3.at_ + 1) ((aU.code.length : Int) - 1)) })))))) (.own (aT Val).raw 47 vs1 (List.zip sx.cells eD))) (.bJ (aR aM 51 hn eD (List.map (aT Val).sub sx.cells))) : Chunk) b ∨ b = b1) ws114 w := TA ▸ aP.refl (fun b => Chunk.own' (.two (.two (.two (.two (.blk sb [eH, vs1, (.int .i64 (sx.status)), (.int .i64 (sx.aW))]) (.own aB.raw 49 eH (List.zip (sx.frames.set (((sx.frames.length : Int) - 1)).toNat ({ x3 with at_ := (min (x3.at_ + 1) ((aU.code.length : Int) - 1)) })) eZ))) (.bJ (aR aM 51 hn eZ (List.map aB.sub (sx.frames.set (((sx.frames.length : Int) - 1)).toNat ({ x3 with at_ := (min (x3.at_ + 1) ((aU.code.length : Int) - 1)) })))))) (.own (aT Val).raw 47 vs1 (List.zip sx.cells eD))) (.bJ (aR aM 51 hn eD (List.map (aT Val).sub sx.cells))) : Chunk) b ∨ b = b1) w
 refine sj TA.symm (om 0 4 (by kernel_rfl) rfl ay rfl ay ?_ ?_)
 refine ae (dS (vs := [(.bool (false)), (.int .i64 (0)), (.bool (false))]) h 7 rfl fM rfl rfl rfl) (ah (aX vL (bN 4 (by kernel_rfl) rfl ay ?_)))
 replace h := h.pair 1 2 (by decide)
 replace h := h.pair 1 3 (by decide)
 replace h := h.pair 1 4 (by decide)
 replace h := h.pair 1 5 (by decide)
 obtain ⟨Cr, Cs, Ct⟩ := h.wC 1 (C := (.two (.two (.two (.two (.blk sb [eH, vs1, (.int .i64 (sx.status)), (.int .i64 (sx.aW))]) (.own aB.raw 49 eH (List.zip (sx.frames.set (((sx.frames.length : Int) - 1)).toNat ({ x3 with at_ := (min (x3.at_ + 1) ((aU.code.length : Int) - 1)) })) eZ))) (.bJ (aR aM 51 hn eZ (List.map aB.sub (sx.frames.set (((sx.frames.length : Int) - 1)).toNat ({ x3 with at_ := (min (x3.at_ + 1) ((aU.code.length : Int) - 1)) })))))) (.own (aT Val).raw 47 vs1 (List.zip sx.cells eD))) (.bJ (aR aM 51 hn eD (List.map (aT Val).sub sx.cells))) : Chunk)) rfl ⟨⟨⟨⟨trivial, trivial⟩, trivial⟩, trivial⟩, trivial⟩
 refine bA RN rfl rfl (I7 _ _ Ct sb (⟨(sx.frames.set (((sx.frames.length : Int) - 1)).toNat ({ x3 with at_ := (min (x3.at_ + 1) ((aU.code.length : Int) - 1)) })), sx.cells, sx.status, sx.aW⟩ : LX.State) eH vs1 eZ eD Cr Cs va a (h.Ol 1 6 rfl rfl) aL jL (h.Ol 1 154 rfl rfl) _ Jd) ?_
 rintro _ w ⟨yJ, ni, nk, ll, lq, rfl, EO, Cu⟩
 refine ⟨_, rfl, ?_⟩
 replace h := h.back 1 (C := (.two (.two (.two (.two (.blk sb [eH, vs1, (.int .i64 (sx.status)), (.int .i64 (sx.aW))]) (.own aB.raw 49 eH (List.zip (sx.frames.set (((sx.frames.length : Int) - 1)).toNat ({ x3 with at_ := (min (x3.at_ + 1) ((aU.code.length : Int) - 1)) })) eZ))) (.bJ (aR aM 51 hn eZ (List.map aB.sub (sx.frames.set (((sx.frames.length : Int) - 1)).toNat ({ x3 with at_ := (min (x3.at_ + 1) ((aU.code.length : Int) - 1)) })))))) (.own (aT Val).raw 47 vs1 (List.zip sx.cells eD))) (.bJ (aR aM 51 hn eD (List.map (aT Val).sub sx.cells))) : Chunk)) (C' := (.two (.two (.two (.two (.blk sb [ni, nk, (.int .i64 (dI.2.status)), (.int .i64 (dI.2.aW))]) (.own aB.raw 49 ni (List.zip dI.2.frames ll))) (.bJ (aR aM 51 hn ll (List.map aB.sub dI.2.frames)))) (.own (aT Val).raw 47 nk (List.zip dI.2.cells lq))) (.bJ (aR aM 51 hn lq (List.map (aT Val).sub dI.2.cells))) : Chunk)) rfl ⟨⟨⟨⟨trivial, trivial⟩, trivial⟩, trivial⟩, trivial⟩ EO yJ Cu
 replace h := h.bU 1 5 (by decide) rfl rfl
 replace h := h.bU 1 4 (by decide) rfl rfl
 replace h := h.bU 1 3 (by decide) rfl rfl
 replace h := h.bU 1 2 (by decide) rfl rfl
 replace vL := aP.step vL yJ (fun _ hx _ => .inl (hx))
 refine ah (aX vL (bN 5 (by kernel_rfl) rfl ay (xu (vs := [(.bool (false)), (.int .i64 (0)), (.bool (false))]) h 7 [(.bool (false)), (.int .i64 (0)), (.bool (false))] rfl fM rfl rfl rfl rfl rfl (ax rfl (ax rfl (ax rfl aZ))) fun w h EP => ?_)))
 replace vL := aP.step vL EP (fun _ hx _ => .inr (hx))
 refine ah (aX vL (bg 6 vL rfl ay (by kernel_rfl) (by kernel_rfl) (by kernel_rfl) (fun w hk => aj (v := (.bool (dI.1))) rfl) (fU (by kernel_rfl) (aa (aK (aH (aC (jN (vs := [(.bool (false)), (.int .i64 (0)), (.bool (false))]) (v2 := (.bool (dI.1))) Tryz.results65 rfl rfl h 7 rfl fM rfl ?_))))))))
 replace h := h.pair 1 2 (by decide)
 replace h := h.pair 1 3 (by decide)
 replace h := h.pair 1 4 (by decide)
 replace h := h.pair 1 5 (by decide)
 obtain rfl := Option.some.inj hs
 subst zJ
 obtain ⟨o1, o2, o3⟩ := h.qH 1 (C := (.two (.two (.two (.two (.blk sb [ni, nk, (.int .i64 (dI.2.status)), (.int .i64 (dI.2.aW))]) (.own aB.raw 49 ni (List.zip dI.2.frames ll))) (.bJ (aR aM 51 hn ll (List.map aB.sub dI.2.frames)))) (.own (aT Val).raw 47 nk (List.zip dI.2.cells lq))) (.bJ (aR aM 51 hn lq (List.map (aT Val).sub dI.2.cells))) : Chunk)) rfl ⟨⟨⟨⟨trivial, trivial⟩, trivial⟩, trivial⟩, trivial⟩
 exact ⟨o2, ni, nk, ll, lq, rfl, o1, o3⟩
 replace h := h.pair 1 2 (by decide)
 replace h := h.pair 1 3 (by decide)
 replace h := h.pair 1 4 (by decide)
 replace h := h.pair 1 5 (by decide)
 obtain ⟨Cr, Cs, Ct⟩ := h.wC 1 (C := (.two (.two (.two (.two (.blk sb [eH, vs1, (.int .i64 (sx.status)), (.int .i64 (sx.aW))]) (.own aB.raw 49 eH (List.zip (sx.frames.set (((sx.frames.length : Int) - 1)).toNat ({ x3 with at_ := (min (x3.at_ + 1) ((aU.code.length : Int) - 1)) })) eZ))) (.bJ (aR aM 51 hn eZ (List.map aB.sub (sx.frames.set (((sx.frames.length : Int) - 1)).toNat ({ x3 with at_ := (min (x3.at_ + 1) ((aU.code.length : Int) - 1)) })))))) (.own (aT Val).raw 47 vs1 (List.zip sx.cells eD))) (.bJ (aR aM 51 hn eD (List.map (aT Val).sub sx.cells))) : Chunk)) rfl ⟨⟨⟨⟨trivial, trivial⟩, trivial⟩, trivial⟩, trivial⟩
 refine bA RN rfl rfl (I7 _ _ Ct sb (⟨(sx.frames.set (((sx.frames.length : Int) - 1)).toNat ({ x3 with at_ := (min (x3.at_ + 1) ((aU.code.length : Int) - 1)) })), sx.cells, sx.status, sx.aW⟩ : LX.State) eH vs1 eZ eD Cr Cs va a (h.Ol 1 6 rfl rfl) aL jL (h.Ol 1 154 rfl rfl) _ Jd) ?_
 rintro _ w ⟨yJ, ni, nk, ll, lq, rfl, EO, Cu⟩
 refine ⟨_, rfl, ?_⟩
 replace h := h.back 1 (C := (.two (.two (.two (.two (.blk sb [eH, vs1, (.int .i64 (sx.status)), (.int .i64 (sx.aW))]) (.own aB.raw 49 eH (List.zip (sx.frames.set (((sx.frames.length : Int) - 1)).toNat ({ x3 with at_ := (min (x3.at_ + 1) ((aU.code.length : Int) - 1)) })) eZ))) (.bJ (aR aM 51 hn eZ (List.map aB.sub (sx.frames.set (((sx.frames.length : Int) - 1)).toNat ({ x3 with at_ := (min (x3.at_ + 1) ((aU.code.length : Int) - 1)) })))))) (.own (aT Val).raw 47 vs1 (List.zip sx.cells eD))) (.bJ (aR aM 51 hn eD (List.map (aT Val).sub sx.cells))) : Chunk)) (C' := (.two (.two (.two (.two (.blk sb [ni, nk, (.int .i64 (dI.2.status)), (.int .i64 (dI.2.aW))]) (.own aB.raw 49 ni (List.zip dI.2.frames ll))) (.bJ (aR aM 51 hn ll (List.map aB.sub dI.2.frames)))) (.own (aT Val).raw 47 nk (List.zip dI.2.cells lq))) (.bJ (aR aM 51 hn lq (List.map (aT Val).sub dI.2.cells))) : Chunk)) rfl ⟨⟨⟨⟨trivial, trivial⟩, trivial⟩, trivial⟩, trivial⟩ EO yJ Cu
 replace h := h.bU 1 5 (by decide) rfl rfl
 replace h := h.bU 1 4 (by decide) rfl rfl
 replace h := h.bU 1 3 (by decide) rfl rfl
 replace h := h.bU 1 2 (by decide) rfl rfl
 replace vL := aP.step vL yJ (fun _ hx _ => .inl (hx))
 refine ah (aX vL (bN 0 (by kernel_rfl) rfl ay (ae (dS (vs := [(.bool (false)), (.int .i64 (0)), (.bool (false))]) h 7 rfl fM rfl rfl rfl) (ah (aX vL (bN 5 (by kernel_rfl) rfl ay (xu (vs := [(.bool (false)), (.int .i64 (0)), (.bool (false))]) h 7 [(.bool (false)), (.int .i64 (0)), (.bool (false))] rfl fM rfl rfl rfl rfl rfl (ax rfl (ax rfl (ax rfl aZ))) fun w h EP => ?_)))))))
 replace vL := aP.step vL EP (fun _ hx _ => .inr (hx))
 refine ah (aX vL (bg 6 vL rfl ay (by kernel_rfl) (by kernel_rfl) (by kernel_rfl) (fun w hk => aj (v := (.bool (dI.1))) rfl) (fU (by kernel_rfl) (aa (aK (aH (aC (jN (vs := [(.bool (false)), (.int .i64 (0)), (.bool (false))]) (v2 := (.bool (dI.1))) Tryz.results65 rfl rfl h 7 rfl fM rfl ?_))))))))
 replace h := h.pair 1 2 (by decide)
 replace h := h.pair 1 3 (by decide)
 replace h := h.pair 1 4 (by decide)
 replace h := h.pair 1 5 (by decide)
 obtain rfl := Option.some.inj hs
 subst zJ
 obtain ⟨o1, o2, o3⟩ := h.qH 1 (C := (.two (.two (.two (.two (.blk sb [ni, nk, (.int .i64 (dI.2.status)), (.int .i64 (dI.2.aW))]) (.own aB.raw 49 ni (List.zip dI.2.frames ll))) (.bJ (aR aM 51 hn ll (List.map aB.sub dI.2.frames)))) (.own (aT Val).raw 47 nk (List.zip dI.2.cells lq))) (.bJ (aR aM 51 hn lq (List.map (aT Val).sub dI.2.cells))) : Chunk)) rfl ⟨⟨⟨⟨trivial, trivial⟩, trivial⟩, trivial⟩, trivial⟩
 exact ⟨o2, ni, nk, ll, lq, rfl, o1, o3⟩
 refine ai (ag (ae (bI rfl rfl) (ae (aj (v := (.bool (decide ((aL.op : Int) = 8)))) rfl) (ah (aa (aI hs rfl (fun c116 hs => ?_) (fun c116 hs => ?_)))))))
 refine qj 10 mixed (by kernel_rfl) h fun w h => aO (au (v := (.pointer (some ⟨sb, 0, none⟩))) rfl) (aO (au (v := u8) rfl) (aO (ak j3 rfl) (aO (aF h 177 rfl bz rfl rfl) ?_)))
 obtain ⟨Tn, e118, hs⟩ := aQ hs
 obtain ⟨b120, q121, i119⟩ := h.wo 8 rfl bX rfl (aJ e118).1 (aJ e118).2
 refine aO (i119 _ _ _ _ _ _ _ _ _ rfl rfl) ?_
 obtain ⟨cs122, m123, r124⟩ := h.yN 8 rfl q121 (aJ e118).2
 obtain rfl := r124
 refine aO (oC (k := 0) (vs := [(.int .i64 (Tn.kind)), (.int .i64 (Tn.n))]) m123 bS rfl rfl rfl (Nat.le_of_ble_eq_true rfl)) (aO (au (v := (.pointer (some ⟨b6, (((sx.frames.length : Int) - 1)).toNat * 4, none⟩))) rfl) (aO (bO rfl) (aO (ak FK rfl) ?_)))
 obtain ⟨cs125, m126, r127⟩ := h.yN 2 rfl q7 (fA (jO (aJ e4).2) e9)
 obtain ⟨rfl, -⟩ := r127
 refine aO (oL (k := 3) m126 bz rfl rfl) (xP ?_)
 replace h := h.iM 3 8 rfl rfl (by decide) (jO (aJ e4).2) e9 rfl
 replace h := h.pair 1 2 (by decide)
 replace h := h.pair 1 3 (by decide)
 replace h := h.pair 1 4 (by decide)
 replace h := h.pair 1 5 (by decide)
 obtain ⟨l128a, l128b, l128c⟩ := h.wC 1 (C := (.two (.two (.two (.two (.blk sb [eH, vs1, (.int .i64 (sx.status)), (.int .i64 (sx.aW))]) (.own aB.raw 49 eH (List.zip (sx.frames.set (((sx.frames.length : Int) - 1)).toNat ({ x3 with at_ := (min (x3.at_ + 1) ((aU.code.length : Int) - 1)) })) eZ))) (.bJ (aR aM 51 hn eZ (List.map aB.sub (sx.frames.set (((sx.frames.length : Int) - 1)).toNat ({ x3 with at_ := (min (x3.at_ + 1) ((aU.code.length : Int) - 1)) })))))) (.own (aT Val).raw 47 vs1 (List.zip sx.cells eD))) (.bJ (aR aM 51 hn eD (List.map (aT Val).sub sx.cells))) : Chunk)) rfl ⟨⟨⟨⟨trivial, trivial⟩, trivial⟩, trivial⟩, trivial⟩
 obtain ⟨Co, e130, hs⟩ := aQ hs
 refine bA Xp rfl rfl (P5 _ _ l128c sb (⟨(sx.frames.set (((sx.frames.length : Int) - 1)).toNat ({ x3 with at_ := (min (x3.at_ + 1) ((aU.code.length : Int) - 1)) })), sx.cells, sx.status, sx.aW⟩ : LX.State) eH vs1 eZ eD l128a l128b Tn x3.qY _ e130) ?_
 rintro _ w ⟨k135, u131, Vv, TB, TC, rfl, h136, h137⟩
 refine ⟨_, rfl, ?_⟩
 replace h := h.back 1 (C := (.two (.two (.two (.two (.blk sb [eH, vs1, (.int .i64 (sx.status)), (.int .i64 (sx.aW))]) (.own aB.raw 49 eH (List.zip (sx.frames.set (((sx.frames.length : Int) - 1)).toNat ({ x3 with at_ := (min (x3.at_ + 1) ((aU.code.length : Int) - 1)) })) eZ))) (.bJ (aR aM 51 hn eZ (List.map aB.sub (sx.frames.set (((sx.frames.length : Int) - 1)).toNat ({ x3 with at_ := (min (x3.at_ + 1) ((aU.code.length : Int) - 1)) })))))) (.own (aT Val).raw 47 vs1 (List.zip sx.cells eD))) (.bJ (aR aM 51 hn eD (List.map (aT Val).sub sx.cells))) : Chunk)) (C' := (.two (.two (.two (.two (.blk sb [u131, Vv, (.int .i64 (Co.status)), (.int .i64 (Co.aW))]) (.own aB.raw 49 u131 (List.zip Co.frames TB))) (.bJ (aR aM 51 hn TB (List.map aB.sub Co.frames)))) (.own (aT Val).raw 47 Vv (List.zip Co.cells TC))) (.bJ (aR aM 51 hn TC (List.map (aT Val).sub Co.cells))) : Chunk)) rfl ⟨⟨⟨⟨trivial, trivial⟩, trivial⟩, trivial⟩, trivial⟩ h136 k135 h137
 replace h := h.bU 1 5 (by decide) rfl rfl
 replace h := h.bU 1 4 (by decide) rfl rfl
 replace h := h.bU 1 3 (by decide) rfl rfl
 replace h := h.bU 1 2 (by decide) rfl rfl
 refine ah (aA (az ?_))
 exact bQ (false, u131, TB, Co.frames, Vv, TC, Co.cells, Co.status, Co.aW) ⟨h.cn _, hs⟩
 refine ai (ag (ae (bI rfl rfl) (ae (aj (v := (.bool (decide ((aL.op : Int) = 9)))) rfl) (ah (aa (aI hs rfl (fun c138 hs => ?_) (fun c138 hs => ?_)))))))
 refine ai (lY (L := (fun x => x = b1)) mixed h fun w h => bg 0 (aP.refl _ _) rfl ay (by kernel_rfl) (by kernel_rfl) (by kernel_rfl) (fun w hk => au (v := u8) rfl) (bg 1 (aP.refl _ _) rfl ay (by kernel_rfl) (by kernel_rfl) (by kernel_rfl) (fun w hk => ak j3 rfl) (bg 2 (aP.refl _ _) rfl ay (by kernel_rfl) (by kernel_rfl) (by kernel_rfl) (fun w hk => have h := h.qN 7 rfl hk; aF h 177 rfl bz rfl rfl) ?_)))
 obtain ⟨mW, wz, hs⟩ := aQ hs
 obtain ⟨YR, Je, Qh⟩ := h.wo 8 rfl bX rfl (aJ wz).1 (aJ wz).2
 refine bg 3 (aP.refl _ _) rfl ay (by kernel_rfl) (by kernel_rfl) (by kernel_rfl) (fun w hk => Qh _ _ _ _ _ _ _ _ _ rfl rfl) (bg 4 (aP.refl _ _) rfl ay (by kernel_rfl) (by kernel_rfl) (by kernel_rfl) (fun w hk => ak iw rfl) ?_)
 obtain ⟨X9, Qi, Qj⟩ := h.yN 8 rfl Je (aJ wz).2
 obtain rfl := Qj
 have Qk : ¬ (_ = b1) := (h.apart 8 7 (by decide) _ Je)
 refine bg 5 (aP.refl _ _) rfl ay (by kernel_rfl) (by kernel_rfl) (by kernel_rfl) (fun w hk => have h := h.qN 7 rfl hk; oL (k := 1) (Qi.hold hk Qk) bz rfl rfl) (bg 6 (aP.refl _ _) rfl ay (by kernel_rfl) (by kernel_rfl) (by kernel_rfl) (fun w hk => dC (pv := [(0, (.bool (true))), (1, (.int .i64 (mW.n)))]) (out := [(.bool (true)), (.int .i64 (mW.n)), (.bool (false))]) Pk rfl ⟨0, 1, [(.bool (true))], rfl, rfl, rfl, Nat.le_of_ble_eq_true rfl, ⟨1, 1, [(.int .i64 (mW.n))], rfl, rfl, rfl, Nat.le_of_ble_eq_true rfl, rfl⟩⟩) (bg 7 (aP.refl _ _) rfl ay (by kernel_rfl) (by kernel_rfl) (by kernel_rfl) (fun w hk => au (v := u8) rfl) (bg 8 (aP.refl _ _) rfl ay (by kernel_rfl) (by kernel_rfl) (by kernel_rfl) (fun w hk => ak j3 rfl) (bg 9 (aP.refl _ _) rfl ay (by kernel_rfl) (by kernel_rfl) (by kernel_rfl) (fun w hk => have h := h.qN 7 rfl hk; aF h 177 rfl bz rfl rfl) ?_))))
 obtain ⟨Ya, GZ, NB⟩ := h.wo 8 rfl bX rfl (aJ wz).1 (aJ wz).2
 refine bg 10 (aP.refl _ _) rfl ay (by kernel_rfl) (by kernel_rfl) (by kernel_rfl) (fun w hk => NB _ _ _ _ _ _ _ _ _ rfl rfl) (bg 11 (aP.refl _ _) rfl ay (by kernel_rfl) (by kernel_rfl) (by kernel_rfl) (fun w hk => ak sD rfl) ?_)
 obtain ⟨Ws, NC, ND⟩ := h.yN 8 rfl GZ (aJ wz).2
 obtain rfl := ND
 have NF : ¬ (_ = b1) := (h.apart 8 7 (by decide) _ GZ)
 refine bg 12 (aP.refl _ _) rfl ay (by kernel_rfl) (by kernel_rfl) (by kernel_rfl) (fun w hk => have h := h.qN 7 rfl hk; oL (k := 0) (NC.hold hk NF) bz rfl rfl) (bg 13 (aP.refl _ _) rfl ay (by kernel_rfl) (by kernel_rfl) (by kernel_rfl) (fun w hk => bI rfl rfl) ?_)
 obtain ⟨ws143, TD⟩ : ∃ x, x = w := ⟨_, rfl⟩
 have OH : aP (fun x => x = b1) ws143 w := TD ▸ aP.refl (fun x => x = b1) w
 refine sj TD.symm (bN 14 (by kernel_rfl) rfl ay (xu (vs := [(.bool (true)), (.int .i64 (mW.n)), (.bool (false))]) h 7 [(.bool (true)), (.int .i64 (mW.n)), (.bool (false))] rfl fM rfl rfl rfl rfl rfl (ax rfl (ax rfl (ax rfl aZ))) fun w h NG => ?_))
 replace OH := OH.same NG
 refine ah (aX OH (bg 15 OH rfl ay (by kernel_rfl) (by kernel_rfl) (by kernel_rfl) (fun w hk => aj (v := (.bool (decide ((mW.kind : Int) = 1)))) rfl) (fU (by kernel_rfl) (aa (aK (aH (aC (jN (vs := [(.bool (true)), (.int .i64 (mW.n)), (.bool (false))]) (v2 := (.bool (decide ((mW.kind : Int) = 1)))) Tryz.results65 rfl rfl h 7 rfl fM rfl ?_))))))))
 replace h := h.iM 3 8 rfl rfl (by decide) (jO (aJ e4).2) e9 rfl
 replace h := h.pair 1 2 (by decide)
 replace h := h.pair 1 3 (by decide)
 replace h := h.pair 1 4 (by decide)
 replace h := h.pair 1 5 (by decide)
 obtain rfl := Option.some.inj hs
 subst zJ
 obtain ⟨o1, o2, o3⟩ := h.qH 1 (C := (.two (.two (.two (.two (.blk sb [eH, vs1, (.int .i64 (sx.status)), (.int .i64 (sx.aW))]) (.own aB.raw 49 eH (List.zip (sx.frames.set (((sx.frames.length : Int) - 1)).toNat ({ x3 with at_ := (min (x3.at_ + 1) ((aU.code.length : Int) - 1)) })) eZ))) (.bJ (aR aM 51 hn eZ (List.map aB.sub (sx.frames.set (((sx.frames.length : Int) - 1)).toNat ({ x3 with at_ := (min (x3.at_ + 1) ((aU.code.length : Int) - 1)) })))))) (.own (aT Val).raw 47 vs1 (List.zip sx.cells eD))) (.bJ (aR aM 51 hn eD (List.map (aT Val).sub sx.cells))) : Chunk)) rfl ⟨⟨⟨⟨trivial, trivial⟩, trivial⟩, trivial⟩, trivial⟩
 exact ⟨o2, eH, vs1, eZ, eD, rfl, o1, o3⟩
 refine ai (ag (ae (bI rfl rfl) (ae (aj (v := (.bool (decide ((aL.op : Int) = 10)))) rfl) (ah (aa (aI hs rfl (fun c145 hs => ?_) (fun c145 hs => ?_)))))))
 refine ag (ae (ak Gf rfl) (fq h 7 [(.bool (false)), (.int .i64 (0)), (.bool (true))] rfl wT rfl rfl rfl rfl rfl fun w h => ah (aA ?_)))
 replace h := h.iM 3 8 rfl rfl (by decide) (jO (aJ e4).2) e9 rfl
 refine az ?_
 exact bQ (true, eH, eZ, (sx.frames.set (((sx.frames.length : Int) - 1)).toNat ({ x3 with at_ := (min (x3.at_ + 1) ((aU.code.length : Int) - 1)) })), vs1, eD, sx.cells, sx.status, sx.aW) ⟨h.cn _, hs⟩
 refine ai (ag (ae (bI rfl rfl) (ae (aj (v := (.bool (decide ((aL.op : Int) = 11)))) rfl) (ah (aa (aI hs rfl (fun c146 hs => ?_) (fun c146 hs => ?_)))))))
 refine ai (ai (ag (ae (au (v := u8) rfl) (ae (ak j3 rfl) (ae (aF h 177 rfl bz rfl rfl) ?_)))))
 obtain ⟨Tp, Ql, hs⟩ := aQ hs
 obtain ⟨b150, q151, i149⟩ := h.wo 8 rfl bX rfl (aJ Ql).1 (aJ Ql).2
 refine ae (i149 _ _ _ _ _ _ _ _ _ rfl rfl) (ae (ak sD rfl) ?_)
 obtain ⟨cs152, m153, r154⟩ := h.yN 8 rfl q151 (aJ Ql).2
 obtain rfl := r154
 refine ae (oL (k := 0) m153 bz rfl rfl) (ae (gq rfl rfl) (ah (aa (aI hs rfl (fun c155 hs => ?_) (fun c155 hs => ?_)))))
 refine ai (ag (ae (dS (vs := [(.bool (false)), (.int .i64 (0)), (.bool (false))]) h 7 rfl fM rfl rfl rfl) (dm (vs := [(.bool (false)), (.int .i64 (0)), (.bool (false))]) h 7 [(.bool (false)), (.int .i64 (0)), (.bool (false))] rfl fM rfl rfl rfl rfl rfl (ax rfl (ax rfl (ax rfl aZ))) fun w h => ae (aj (v := (.bool (false))) rfl) (ah (aa (aK (aC (aH (aC (jN (vs := [(.bool (false)), (.int .i64 (0)), (.bool (false))]) (v2 := (.bool (false))) Tryz.results65 rfl rfl h 7 rfl fM rfl ?_))))))))))
 replace h := h.iM 3 8 rfl rfl (by decide) (jO (aJ e4).2) e9 rfl
 replace h := h.pair 1 2 (by decide)
 replace h := h.pair 1 3 (by decide)
 replace h := h.pair 1 4 (by decide)
 replace h := h.pair 1 5 (by decide)
 obtain rfl := Option.some.inj hs
 subst zJ
 obtain ⟨o1, o2, o3⟩ := h.qH 1 (C := (.two (.two (.two (.two (.blk sb [eH, vs1, (.int .i64 (sx.status)), (.int .i64 (sx.aW))]) (.own aB.raw 49 eH (List.zip (sx.frames.set (((sx.frames.length : Int) - 1)).toNat ({ x3 with at_ := (min (x3.at_ + 1) ((aU.code.length : Int) - 1)) })) eZ))) (.bJ (aR aM 51 hn eZ (List.map aB.sub (sx.frames.set (((sx.frames.length : Int) - 1)).toNat ({ x3 with at_ := (min (x3.at_ + 1) ((aU.code.length : Int) - 1)) })))))) (.own (aT Val).raw 47 vs1 (List.zip sx.cells eD))) (.bJ (aR aM 51 hn eD (List.map (aT Val).sub sx.cells))) : Chunk)) rfl ⟨⟨⟨⟨trivial, trivial⟩, trivial⟩, trivial⟩, trivial⟩
 exact ⟨o2, eH, vs1, eZ, eD, rfl, o1, o3⟩
 refine aG (aa (ag (ae (au (v := (.pointer (some ⟨sb, 0, none⟩))) rfl) (ae (au (v := (.pointer (some ⟨sb, 0, none⟩))) rfl) (ae (au (v := u8) rfl) (ae (ak j3 rfl) (ae (aF h 177 rfl bz rfl rfl) ?_)))))))
 obtain ⟨b157, q158, i156⟩ := h.wo 8 rfl bX rfl (aJ Ql).1 (aJ Ql).2
 refine ae (i156 _ _ _ _ _ _ _ _ _ rfl rfl) (ae (ak iw rfl) ?_)
 obtain ⟨cs159, m160, r161⟩ := h.yN 8 rfl q158 (aJ Ql).2
 obtain rfl := r161
 refine ae (oL (k := 1) m160 bz rfl rfl) (ae (bO rfl) (ae (ak iN rfl) (fq h 1 [eH, vs1, (.int .i64 (3)), (.int .i64 (sx.aW))] rfl bz rfl rfl rfl rfl rfl fun w h => ae (bO rfl) (ae (ak CW rfl) (fq h 1 [eH, vs1, (.int .i64 (3)), (.int .i64 (Tp.n))] rfl bz rfl rfl rfl rfl rfl fun w h => ae (ak Gf rfl) (fq h 7 [(.bool (false)), (.int .i64 (0)), (.bool (true))] rfl wT rfl rfl rfl rfl rfl fun w h => ah (aA ?_)))))))
 replace h := h.iM 3 8 rfl rfl (by decide) (jO (aJ e4).2) e9 rfl
 refine az ?_
 exact bQ (true, eH, eZ, (sx.frames.set (((sx.frames.length : Int) - 1)).toNat ({ x3 with at_ := (min (x3.at_ + 1) ((aU.code.length : Int) - 1)) })), vs1, eD, sx.cells, 3, Tp.n) ⟨h.cn _, hs⟩
 refine ai (ag (ae (bI rfl rfl) (ae (aj (v := (.bool (decide ((aL.op : Int) = 12)))) rfl) (ah (aa (aI hs rfl (fun c162 hs => ?_) (fun c162 hs => ?_)))))))
 refine ag (ae (au (v := (.pointer (some ⟨b6, (((sx.frames.length : Int) - 1)).toNat * 4, none⟩))) rfl) (ae (ak iG rfl) (ae (aF h 177 rfl bz rfl rfl) (ae (bO rfl) (ae (ak xe rfl) (IA (a' := (({ x3 with at_ := aL.b }), u8)) h 2 rfl q7 rfl (fA (jO (aJ e4).2) e9) bz rfl rfl rfl rfl (by rintro _ ⟨rfl, hq⟩; exact ⟨rfl, hq⟩) fun w h => ?_))))))
 rw [F9 e9] at h
 replace h := h.WT 3 ({ x3 with at_ := aL.b }) rfl
 refine ah (aA ?_)
 replace h := h.iM 3 8 rfl rfl (by decide) (jO (jO (aJ e4).2)) e9 rfl
 refine az ?_
 exact bQ (false, eH, eZ, ((sx.frames.set (((sx.frames.length : Int) - 1)).toNat ({ x3 with at_ := (min (x3.at_ + 1) ((aU.code.length : Int) - 1)) })).set (((sx.frames.length : Int) - 1)).toNat ({ x3 with at_ := aL.b })), vs1, eD, sx.cells, sx.status, sx.aW) ⟨h.cn _, hs⟩
 refine ai (ag (ae (bI rfl rfl) (ae (aj (v := (.bool (decide ((aL.op : Int) = 13)))) rfl) (ah (aa (aI hs rfl (fun c163 hs => ?_) (fun c163 hs => ?_)))))))
 refine ai (ag (ae (au (v := u8) rfl) (ae (ak j3 rfl) (ae (aF h 177 rfl bz rfl rfl) ?_))))
 obtain ⟨Cq, e165, hs⟩ := aQ hs
 obtain ⟨b167, q168, i166⟩ := h.wo 8 rfl bX rfl (aJ e165).1 (aJ e165).2
 refine ae (i166 _ _ _ _ _ _ _ _ _ rfl rfl) ?_
 obtain ⟨cs169, m170, r171⟩ := h.yN 8 rfl q168 (aJ e165).2
 obtain rfl := r171
 refine ae (oC (k := 0) (vs := [(.int .i64 (Cq.kind)), (.int .i64 (Cq.n))]) m170 bS rfl rfl rfl (Nat.le_of_ble_eq_true rfl)) (bT h 995 bS fun w b172 h => dm (vs := [(.int .i64 (Cq.kind)), (.int .i64 (Cq.n))]) h 995 [(.int .i64 (Cq.kind)), (.int .i64 (Cq.n))] rfl bS rfl rfl rfl rfl rfl (ax rfl (ax rfl aZ)) fun w h => ah (aa (ai (ag (ae (ak sD rfl) (ae (aF h 995 rfl bz rfl rfl) (ae (bI rfl rfl) (ae (au (v := (.bool (decide ((Cq.kind : Int) = 0)))) rfl) (aD rfl rfl (fun q => ak sD rfl) (aD rfl rfl (fun q => aF h 995 rfl bz (dn q) rfl) (aD rfl rfl (fun q => bI (dn q) rfl) (aD rfl rfl (fun q => au (v := (.bool (decide ((Cq.kind : Int) = 1)))) (dn q)) (kr (decide ((Cq.kind : Int) = 0) == false) rfl rfl (fun q => ak iw rfl) (kr (decide ((Cq.kind : Int) = 0) == false) rfl rfl (fun q => aF h 995 rfl bz (dn q) rfl) (kr (decide ((Cq.kind : Int) = 0) == false) rfl rfl (fun q => bI (dn q) rfl) (aD rfl rfl (fun q => fZ (dn q) (OZ q) lV) (ae (gu rfl rfl lV) (ah (aa (aI hs rfl (fun c173 hs => ?_) (fun c173 hs => ?_)))))))))))))))))))))
 refine ag (ae (au (v := (.pointer (some ⟨b6, (((sx.frames.length : Int) - 1)).toNat * 4, none⟩))) rfl) (ae (ak iG rfl) (ae (aF h 177 rfl bz rfl rfl) (ae (bO rfl) (ae (ak xe rfl) (IA (a' := (({ x3 with at_ := aL.b }), u8)) h 2 rfl q7 rfl (fA (jO (aJ e4).2) e9) bz rfl rfl rfl rfl (by rintro _ ⟨rfl, hq⟩; exact ⟨rfl, hq⟩) fun w h => ?_))))))
 rw [F9 e9] at h
 replace h := h.WT 3 ({ x3 with at_ := aL.b }) rfl
 refine ah (aA ?_)
 replace h := h.iM 3 8 rfl rfl (by decide) (jO (jO (aJ e4).2)) e9 rfl
 refine az ?_
 exact bQ (false, eH, eZ, ((sx.frames.set (((sx.frames.length : Int) - 1)).toNat ({ x3 with at_ := (min (x3.at_ + 1) ((aU.code.length : Int) - 1)) })).set (((sx.frames.length : Int) - 1)).toNat ({ x3 with at_ := aL.b })), vs1, eD, sx.cells, sx.status, sx.aW) ⟨h.cn _, hs⟩
 refine aG (aA ?_)
 replace h := h.iM 3 8 rfl rfl (by decide) (jO (aJ e4).2) e9 rfl
 refine az ?_
 exact bQ (false, eH, eZ, (sx.frames.set (((sx.frames.length : Int) - 1)).toNat ({ x3 with at_ := (min (x3.at_ + 1) ((aU.code.length : Int) - 1)) })), vs1, eD, sx.cells, sx.status, sx.aW) ⟨h.cn _, hs⟩
 refine aG (aA ?_)
 replace h := h.iM 3 8 rfl rfl (by decide) (jO (aJ e4).2) e9 rfl
 refine az ?_
 exact bQ (false, eH, eZ, (sx.frames.set (((sx.frames.length : Int) - 1)).toNat ({ x3 with at_ := (min (x3.at_ + 1) ((aU.code.length : Int) - 1)) })), vs1, eD, sx.cells, sx.status, sx.aW) ⟨h.cn _, hs⟩
 refine ai (ag (ae (bI rfl rfl) (ae (aj (v := (.bool (decide ((aL.op : Int) = 4)))) rfl) (ah (aa (aI hs rfl (fun c174 hs => ?_) (fun c174 hs => ?_)))))))
 refine aG (az ?_)
 exact bQ (decide ((aL.op : Int) = 4)) ⟨h.cn _, hs⟩
 refine ag (ae (bI rfl rfl) (ae (aj (v := (.bool (decide ((aL.op : Int) = 6)))) rfl) (ah (az ?_))))
 exact bQ (decide ((aL.op : Int) = 6)) ⟨h.cn _, hs⟩
def rU (zm : List Int) (x20 : Int) (y23 : List LX.Frame) (FT : List (List Val)) (y27 : Int) (y28 : Int) : Option (LX.State × List Int × Int × Int) :=
  some ((⟨y23, FT, y27, y28⟩ : LX.State), zm, x20, 0)
def wM (gm : BM × Bool × LX.State) (CB : Int) (Ij : (List Int × Int × List LX.Frame × List (List Val) × Int × Int) → Option (LX.State × List Int × Int × Int)) (Kt : List Int) : Option (LX.State × List Int × Int × Int) :=
  bif gm.1.DX then rU Kt (CB + 1) gm.2.2.frames gm.2.2.cells gm.2.2.status gm.2.2.aW else Ij (Kt, (CB + 1), gm.2.2.frames, gm.2.2.cells, gm.2.2.status, gm.2.2.aW)
def wN (N : Nat) (pO : List Int) (CB : Int) (rq : List LX.Frame) (yP : List (List Val)) (uW : Int) (FR : Int) (a : List bP) (Ij : (List Int × Int × List LX.Frame × List (List Val) × Int × Int) → Option (LX.State × List Int × Int × Int)) (x93 : Bool) : Option (LX.State × List Int × Int × Int) :=
  bif x93 then rU pO CB rq yP uW FR else (zq (⟨rq, yP, uW, FR⟩ : LX.State)).bind fun y95 => (nW N y95 a).bind fun gm => gz (jA (CB + 1)) (bif (!gm.2.1) then rU pO (CB + 1) rq yP 2 FR else bif gm.1.said then gz (Room 8 pO [gm.1.n]) (wM gm CB Ij (pO ++ [gm.1.n])) else wM gm CB Ij pO)
def rD (N : Nat) (c : Int) (a : List bP) (s : List Int × Int × List LX.Frame × List (List Val) × Int × Int) (Ij : List Int × Int × List LX.Frame × List (List Val) × Int × Int → Option (LX.State × List Int × Int × Int)) : Option (LX.State × List Int × Int × Int) :=
  match s with | (pO, CB, rq, yP, uW, FR) => bif (decide ((CB : Int) < c) && decide ((uW : Int) = 0)) then gz (jA ((rq.length : Int) - 1)) ((idx rq ((rq.length : Int) - 1)).bind fun x82 => bif decide (((pO.length : Int) : Int) = 40) then (idx a x82.proc).bind fun Gp => (idx Gp.code x82.at_).bind fun Vw => wN N pO CB rq yP uW FR a Ij (decide ((Vw.op : Int) = 9)) else wN N pO CB rq yP uW FR a Ij false) else rU pO CB rq yP uW FR
def Ku (N : Nat) (a : List bP) (b : LX.State) (c : Int) : Option (LX.State × List Int × Int × Int) :=
  (Ah a b).bind fun y3 => bif decide ((y3 : Int) ≠ 0) then some ((⟨[], [], 0, 0⟩ : LX.State), [], 0, y3) else bif (decide ((c : Int) < 0) || decide ((2000 : Int) < c)) then some ((⟨[], [], 0, 0⟩ : LX.State), [], 0, 3) else bif decide ((b.status : Int) ≠ 0) then some ((⟨[], [], 0, 0⟩ : LX.State), [], 0, 7) else (zq b).bind fun y9 => again (rD N c a) N ([], 0, y9.frames, y9.cells, y9.status, y9.aW)
theorem TE (N : Nat) (w0 : World) (M : BS) (hM : ∀ b, M b → b < w0.heap.size) (va : Value) (a : List bP) (ha : fo jI w0 M va a) (b : LX.State) (vb0 vb1 : Value) (hb0 : gp iD w0 BE M vb0 b.frames) (hb1 : gp (uY aM) w0 BE M vb1 b.cells) (c : Int) (r : LX.State × List Int × Int × Int) (hs : Ku N a b c = some r) :
    Calls Tryz.prog 28 #[va, (.agg #[vb0, vb1, (.int .i64 (b.status)), (.int .i64 (b.aW))]), (.int .i64 (c))] w0 (fun e w' => Grow w0 w' ∧ ∃ wH, ∃ zM, ∃ u1, e = .returned (.tuple #[.agg #[wH, zM, .int .i64 r.1.status, .int .i64 r.1.aW], u1, .int .i64 r.2.2.1, .int .i64 r.2.2.2]) ∧ fo iD w' (fun b => M b ∨ ob u1 b) wH r.1.frames ∧ fo (uY aM) w' (fun b => M b ∨ ob u1 b) zM r.1.cells ∧ dL fF 3 w' M u1 r.2.1 ∧ (∀ b, ob u1 b → w0.heap.size ≤ b)) := by
 refine aS (args := [va, (.agg #[vb0, vb1, (.int .i64 (b.status)), (.int .i64 (b.aW))]), (.int .i64 (c))]) Tryz.func28 rfl Tryz.ntmps28 (Nat.le_of_ble_eq_true rfl) ?_
 have h := SH.init hM
 replace h := h.QW 1 ha bR
 replace h := h.il 2 hb0 (EY bR)
 replace h := h.il 3 hb1 (eT (EY bR))
 have u7 := ha.cO
 refine ai (ag (rF (cs := [vb0, vb1, (.int .i64 (b.status)), (.int .i64 (b.aW))]) h 4 rfl rfl fun w b1 h => bT h 5 cu fun w b2 h => ae (aj (v := (.slice none 0 0)) rfl) (ae (aj (v := (.int .i64 (0))) rfl) (ae (aj (v := (.int .i64 (0))) rfl) (ah (aa (ai (ai (ag (ae (au (v := va) rfl) (ae (dS (vs := [vb0, vb1, (.int .i64 (b.status)), (.int .i64 (b.aW))]) h 4 rfl cu rfl rfl rfl) ?_)))))))))))
 obtain ⟨y3, e4, hs⟩ := aQ hs
 refine bA RA rfl rfl (Gx _ _ h.lt va a (h.oZ 1 rfl) b vb0 vb1 (h.je 2 rfl) (h.je 3 rfl) _ e4) ?_
 rintro _ w ⟨k5, rfl⟩
 refine ⟨_, rfl, ?_⟩
 replace h := h.grow k5
 refine ae (aj (v := (.int .i64 (y3))) rfl) (ah (aa (ai (ag (ae (au (v := (.int .i64 (y3))) rfl) (ae (gq rfl rfl) (ah (aa (aI hs rfl (fun c6 hs => ?_) (fun c6 hs => ?_))))))))))
 refine ai (ag (ae (dC (pv := []) (out := [(.slice none 0 0), (.slice none 0 0), (.int .i64 (0)), (.int .i64 (0))]) pF rfl rfl) (ae (au (v := (.int .i64 (y3))) rfl) (dm (vs := [(.slice none 0 0), (.slice none 0 0), (.int .i64 (0)), (.int .i64 (0))]) h 5 [(.slice none 0 0), (.slice none 0 0), (.int .i64 (0)), (.int .i64 (0))] rfl cu rfl rfl rfl rfl rfl (ax rfl (ax rfl (ax rfl (ax rfl aZ)))) fun w h => ae (aj (v := (.slice none 0 0)) rfl) (ae (aj (v := (.int .i64 (0))) rfl) (ae (aj (v := (.int .i64 (y3))) rfl) (ah (aa (aK (aC (CU (vs := [(.slice none 0 0), (.slice none 0 0), (.int .i64 (0)), (.int .i64 (0))]) (v2 := (.slice none 0 0)) (v3 := (.int .i64 (0))) (v4 := (.int .i64 (y3))) Tryz.results28 rfl rfl rfl rfl h 5 rfl cu rfl ?_)))))))))))
 obtain rfl := Option.some.inj hs
 exact ⟨h.grown, _, _, _, rfl, gp.nil, gp.nil, dL.nil, jf⟩
 refine aG (aa (ai (ai (ag (ae (au (v := (.int .i64 (c))) rfl) (ae (dN rfl rfl) (ae (au (v := (.bool (decide ((c : Int) < 0)))) rfl) (aD rfl rfl (fun q => au (v := (.int .i64 (c))) rfl) (aD rfl rfl (fun q => jH (dn q) rfl) (ae (gu rfl rfl lV) (ah (aa (aI hs rfl (fun c7 hs => ?_) (fun c7 hs => ?_))))))))))))))
 refine ai (ag (ae (dC (pv := []) (out := [(.slice none 0 0), (.slice none 0 0), (.int .i64 (0)), (.int .i64 (0))]) pF rfl rfl) (dm (vs := [(.slice none 0 0), (.slice none 0 0), (.int .i64 (0)), (.int .i64 (0))]) h 5 [(.slice none 0 0), (.slice none 0 0), (.int .i64 (0)), (.int .i64 (0))] rfl cu rfl rfl rfl rfl rfl (ax rfl (ax rfl (ax rfl (ax rfl aZ)))) fun w h => ae (aj (v := (.slice none 0 0)) rfl) (ae (aj (v := (.int .i64 (0))) rfl) (ae (aj (v := (.int .i64 (3))) rfl) (ah (aa (aK (aC (CU (vs := [(.slice none 0 0), (.slice none 0 0), (.int .i64 (0)), (.int .i64 (0))]) (v2 := (.slice none 0 0)) (v3 := (.int .i64 (0))) (v4 := (.int .i64 (3))) Tryz.results28 rfl rfl rfl rfl h 5 rfl cu rfl ?_))))))))))
 obtain rfl := Option.some.inj hs
 exact ⟨h.grown, _, _, _, rfl, gp.nil, gp.nil, dL.nil, jf⟩
 refine aG (aa (ai (ai (ag (ae (ak iN rfl) (ae (aF h 4 rfl bz rfl rfl) (ae (gq rfl rfl) (ah (aa (aI hs rfl (fun c8 hs => ?_) (fun c8 hs => ?_)))))))))))
 refine ai (ag (ae (dC (pv := []) (out := [(.slice none 0 0), (.slice none 0 0), (.int .i64 (0)), (.int .i64 (0))]) pF rfl rfl) (dm (vs := [(.slice none 0 0), (.slice none 0 0), (.int .i64 (0)), (.int .i64 (0))]) h 5 [(.slice none 0 0), (.slice none 0 0), (.int .i64 (0)), (.int .i64 (0))] rfl cu rfl rfl rfl rfl rfl (ax rfl (ax rfl (ax rfl (ax rfl aZ)))) fun w h => ae (aj (v := (.slice none 0 0)) rfl) (ae (aj (v := (.int .i64 (0))) rfl) (ae (aj (v := (.int .i64 (7))) rfl) (ah (aa (aK (aC (CU (vs := [(.slice none 0 0), (.slice none 0 0), (.int .i64 (0)), (.int .i64 (0))]) (v2 := (.slice none 0 0)) (v3 := (.int .i64 (0))) (v4 := (.int .i64 (7))) Tryz.results28 rfl rfl rfl rfl h 5 rfl cu rfl ?_))))))))))
 obtain rfl := Option.some.inj hs
 exact ⟨h.grown, _, _, _, rfl, gp.nil, gp.nil, dL.nil, jf⟩
 refine aG (aa (ai (ag (ae (dS (vs := [vb0, vb1, (.int .i64 (b.status)), (.int .i64 (b.aW))]) h 4 rfl cu rfl rfl rfl) ?_))))
 obtain ⟨y9, e10, hs⟩ := aQ hs
 refine bA J2 rfl rfl (Bd _ _ h.lt b vb0 vb1 (h.je 2 rfl) (h.je 3 rfl) _ e10) ?_
 rintro _ w ⟨k17, u11, Ml, Dh, Yb, rfl, h15, h16⟩
 refine ⟨_, rfl, ?_⟩
 replace h := h.MH 6 (C := (.two (.two (.two (.own aB.raw 49 u11 (List.zip y9.frames Dh)) (.bJ (aR aM 51 hn Dh (List.map aB.sub y9.frames)))) (.own (aT Val).raw 47 Ml (List.zip y9.cells Yb))) (.bJ (aR aM 51 hn Yb (List.map (aT Val).sub y9.cells))) : Chunk)) k17 ⟨⟨⟨trivial, trivial⟩, trivial⟩, trivial⟩ h15 h16
 replace h := h.bU 6 9 (by decide) rfl rfl
 replace h := h.bU 6 8 (by decide) rfl rfl
 replace h := h.bU 6 7 (by decide) rfl rfl
 refine dm (vs := [u11, Ml, (.int .i64 (y9.status)), (.int .i64 (y9.aW))]) h 4 [u11, Ml, (.int .i64 (y9.status)), (.int .i64 (y9.aW))] rfl cu rfl rfl rfl rfl rfl (ax (h.dD 6 rfl).one (ax (h.dD 8 rfl).one (ax rfl (ax rfl aZ)))) fun w h => ah (aa (ai (ag (ae (aj (v := (.slice none 0 0)) rfl) (ah (aa (ai (ag (ae (aj (v := (.int .i64 (0))) rfl) (ah (aa (bV (σ := Value × List Int × Int × Value × List Value × List LX.Frame × Value × List Value × List (List Val) × Int × Int) (inl [11, 12, 13, 14, 15, 16, 37, 38, 39, 40, 41, 42, 43, 44, 45, 46, 47, 48, 49, 50, 51, 52, 53, 54, 55, 56, 57, 58, 59, 60, 61, 62, 63, 64, 65, 66, 67, 68, 69, 70, 71, 72, 73, 74, 75, 76, 77, 78, 79, 80, 81, 82, 83, 84, 85, 86, 87, 88, 89, 90, 91]) (fun ⟨v18, zm, x20, v21, Vx, y23, v24, Vy, FT, y27, y28⟩ => [(11, v18), (12, (.int .i64 (x20)))]) (fun ⟨v18, zm, x20, v21, Vx, y23, v24, Vy, FT, y27, y28⟩ w => SH w0 M BE w (hset [(4, .blk b1 [v21, v24, (.int .i64 (y27)), (.int .i64 (y28))]), (5, .blk b2 [(.slice none 0 0), (.slice none 0 0), (.int .i64 (0)), (.int .i64 (0))]), (10, .own aB.raw 49 v21 (List.zip y23 Vx)), (11, .bJ (aR aM 51 hn Vx (List.map aB.sub y23))), (12, .own (aT Val).raw 47 v24 (List.zip FT Vy)), (13, .bJ (aR aM 51 hn Vy (List.map (aT Val).sub FT))), (25, .own fF 3 v18 zm)]) ∧ rU zm x20 y23 FT y27 y28 = some r) ?_ ?_))))))))))))
 rintro ⟨v18, zm, x20, v21, Vx, y23, v24, Vy, FT, y27, y28⟩ w dz ⟨h, hs⟩
 refine ai (ag (ae (dS (vs := [v21, v24, (.int .i64 (y27)), (.int .i64 (y28))]) h 4 rfl cu rfl rfl rfl) (ae (au (v := v18) rfl) (ae (au (v := (.int .i64 (x20))) rfl) (dm (vs := [v21, v24, (.int .i64 (y27)), (.int .i64 (y28))]) h 5 [v21, v24, (.int .i64 (y27)), (.int .i64 (y28))] rfl cu rfl rfl rfl rfl rfl (ax (h.dD 10 rfl).one (ax (h.dD 12 rfl).one (ax rfl (ax rfl aZ)))) fun w h => ae (aj (v := v18) rfl) (ae (aj (v := (.int .i64 (x20))) rfl) (ae (aj (v := (.int .i64 (0))) rfl) (ah (aa (aK (CU (vs := [v21, v24, (.int .i64 (y27)), (.int .i64 (y28))]) (v2 := v18) (v3 := (.int .i64 (x20))) (v4 := (.int .i64 (0))) Tryz.results28 rfl rfl rfl rfl h 5 rfl cu rfl ?_)))))))))))
 replace h := h.z8 (N := aB) (R' := iD) 10 11 rfl rfl (by decide) rfl AX
 replace h := h.z8 (N := (aT Val)) (R' := (uY aM)) 12 13 rfl rfl (by decide) rfl FI
 obtain rfl := Option.some.inj hs
 exact ⟨h.grown, _, _, _, rfl, h.JC 10 25 rfl rfl, h.JC 12 25 rfl rfl, (h.lI 25 rfl).1, (h.lI 25 rfl).2⟩
 refine aV ?_
 replace h := h.xO (R := fF) (E := 3) 41
 replace h := (h.fu 42).moveC 6 42 rfl rfl (by decide)
 replace h := (h.fu 43).moveC 7 43 rfl rfl (by decide)
 replace h := (h.fu 44).moveC 8 44 rfl rfl (by decide)
 replace h := (h.fu 45).moveC 9 45 rfl rfl (by decide)
 refine gT (σ := Nat × Value × List Int × Int × Value × List Value × List LX.Frame × Value × List Value × List (List Val) × Int × Int) (inl [11, 12, 13, 14, 15, 16, 37, 38, 39, 40, 41, 42, 43, 44, 45, 46, 47, 48, 49, 50, 51, 52, 53, 54, 55, 56, 57, 58, 59, 60, 61, 62, 63, 64, 65, 66, 67, 68, 69, 70, 71, 72, 73, 74, 75, 76, 77, 78, 79, 80, 81, 82, 83, 84, 85, 86, 87, 88, 89, 90, 91]) (fun ⟨XM, v62, pO, CB, v65, Ik, rq, v68, Il, yP, uW, FR⟩ => [(11, v62), (12, (.int .i64 (CB)))]) (fun ⟨XM, v62, pO, CB, v65, Ik, rq, v68, Il, yP, uW, FR⟩ w => SH w0 M BE w (hset [(1, .rd jI va a), (4, .blk b1 [v65, v68, (.int .i64 (uW)), (.int .i64 (FR))]), (5, .blk b2 [(.slice none 0 0), (.slice none 0 0), (.int .i64 (0)), (.int .i64 (0))]), (41, .own fF 3 v62 pO), (42, .own aB.raw 49 v65 (List.zip rq Ik)), (43, .bJ (aR aM 51 hn Ik (List.map aB.sub rq))), (44, .own (aT Val).raw 47 v68 (List.zip yP Il)), (45, .bJ (aR aM 51 hn Il (List.map (aT Val).sub yP)))]) ∧ again (rD N c a) XM (pO, CB, rq, yP, uW, FR) = some r) (fun ⟨XM, v62, pO, CB, v65, Ik, rq, v68, Il, yP, uW, FR⟩ => XM) ⟨N, (.slice none 0 0), [], 0, u11, Dh, y9.frames, Ml, Yb, y9.cells, y9.status, y9.aW⟩ ⟨rfl, rfl, trivial⟩ ?_ ?_
 exact ⟨h.cn _, hs⟩
 rintro ⟨XM, v62, pO, CB, v65, Ik, rq, v68, Il, yP, uW, FR⟩ w dz ⟨h, hs⟩
 obtain ⟨m761, m76e, m76h⟩ := qm hs
 subst m76e
 replace hs := m76h
 generalize hnx77 : again (rD N c a) m761 = Ij at hs
 refine ai (ai (ag (ae (au (v := (.int .i64 (CB))) rfl) (ae (au (v := (.int .i64 (c))) rfl) (ae (dN rfl rfl) (ae (au (v := (.bool (decide ((CB : Int) < c)))) rfl) (aD rfl rfl (fun q => ak iN rfl) (aD rfl rfl (fun q => aF h 4 rfl bz (dn q) rfl) (aD rfl rfl (fun q => bI (dn q) rfl) (ae (fZ rfl rfl lV) (ah (aa (aI hs rfl (fun c80 hs => ?_) (fun c80 hs => ?_))))))))))))))
 refine aG (aa (aV (ai (ag (ae (ak eU rfl) (ae (aF h 4 rfl ji rfl rfl) (ae (ak eU rfl) (ae (aF h 4 rfl ji rfl rfl) (ae (qG (N := aB) dQ rfl (h.dM 42 rfl) (h.iB 43 rfl)) ?_)))))))))
 obtain ⟨a81, hs⟩ := bG hs
 refine ae (oh rfl rfl a81) ?_
 obtain ⟨x82, YS, hs⟩ := aQ hs
 obtain ⟨u87, XY, h⟩ := h.q8 43 46 x82.regs rfl rfl (by decide) (aJ YS).2 rfl
 obtain ⟨H8, q86, i84⟩ := h.wo 42 rfl dQ rfl (aJ YS).1 (fA (aJ YS).2 XY)
 refine ae (i84 _ _ _ _ _ _ _ _ _ rfl rfl) ?_
 obtain ⟨cs89, m90, r91⟩ := h.yN 42 rfl q86 (fA (aJ YS).2 XY)
 obtain ⟨rfl, -⟩ := r91
 refine ae (oC (k := 0) (vs := [(.int .i64 (x82.proc)), (.int .i64 (x82.at_)), u87, (.int .i64 (x82.qY))]) m90 ma rfl rfl rfl (Nat.le_of_ble_eq_true rfl)) (bT h 47 ma fun w b92 h => dm (vs := [(.int .i64 (x82.proc)), (.int .i64 (x82.at_)), u87, (.int .i64 (x82.qY))]) h 47 [(.int .i64 (x82.proc)), (.int .i64 (x82.at_)), u87, (.int .i64 (x82.qY))] rfl ma rfl rfl rfl rfl rfl (ax rfl (ax rfl (ax (h.dD 46 rfl).one (ax rfl aZ)))) fun w h => ah (aa (ai (bV (σ := Bool) (inl [53, 54, 55, 56, 57, 58, 59, 60, 61, 62, 63, 64, 65, 66, 67, 68, 69]) (fun x93 => [(69, (.bool (x93)))]) (fun x93 w => SH w0 M BE w (hset [(1, .rd jI va a), (4, .blk b1 [v65, v68, (.int .i64 (uW)), (.int .i64 (FR))]), (5, .blk b2 [(.slice none 0 0), (.slice none 0 0), (.int .i64 (0)), (.int .i64 (0))]), (41, .own fF 3 v62 pO), (42, .own aB.raw 49 v65 (List.zip rq Ik)), (43, .bJ (aR aM 51 hn Ik (List.map aB.sub rq))), (44, .own (aT Val).raw 47 v68 (List.zip yP Il)), (45, .bJ (aR aM 51 hn Il (List.map (aT Val).sub yP)))]) ∧ wN N pO CB rq yP uW FR a Ij x93 = some r) ?_ ?_))))
 rintro x93 w dz ⟨h, hs⟩
 refine aI hs rfl (fun c94 hs => ?_) (fun c94 hs => ?_)
 refine df (aN (tQ (by decide) (aN (bE (az ?_)))))
 replace h := h.zU 41 25 rfl rfl (by decide)
 replace h := (h.fu 10).moveC 42 10 rfl rfl (by decide)
 replace h := (h.fu 11).moveC 43 11 rfl rfl (by decide)
 replace h := (h.fu 12).moveC 44 12 rfl rfl (by decide)
 replace h := (h.fu 13).moveC 45 13 rfl rfl (by decide)
 exact bQ (v62, pO, CB, v65, Ik, rq, v68, Il, yP, uW, FR) ⟨h.cn _, hs⟩
 refine aG (aa (ai (ag (ae (dS (vs := [v65, v68, (.int .i64 (uW)), (.int .i64 (FR))]) h 4 rfl cu rfl rfl rfl) ?_))))
 obtain ⟨y95, e96, hs⟩ := aQ hs
 refine bA J2 rfl rfl (Bd _ BE (fun _ h => h.elim) (⟨rq, yP, uW, FR⟩ : LX.State) v65 v68 (h.JO (N := aB) (R' := iD) 42 43 rfl rfl (by decide) rfl AX) (h.JO (N := (aT Val)) (R' := (uY aM)) 44 45 rfl rfl (by decide) rfl FI) _ e96) ?_
 rintro _ w ⟨k103, Sv, Wt, NH, G5, rfl, XH, h102⟩
 refine ⟨_, rfl, ?_⟩
 replace h := h.V3 48 (C := (.two (.two (.two (.own aB.raw 49 Sv (List.zip y95.frames NH)) (.bJ (aR aM 51 hn NH (List.map aB.sub y95.frames)))) (.own (aT Val).raw 47 Wt (List.zip y95.cells G5))) (.bJ (aR aM 51 hn G5 (List.map (aT Val).sub y95.cells))) : Chunk)) k103 ⟨⟨⟨trivial, trivial⟩, trivial⟩, trivial⟩ ⟨⟨⟨(fun _ _ _ _ _ h => h), (AZ (fun _ _ _ _ _ h => h))⟩, (fun _ _ _ _ _ h => h)⟩, (AZ (fun _ _ _ _ _ h => h))⟩ XH h102
 replace h := h.bU 48 51 (by decide) rfl rfl
 replace h := h.bU 48 50 (by decide) rfl rfl
 replace h := h.bU 48 49 (by decide) rfl rfl
 refine bT h 52 cu fun w Vz h => dm (vs := [Sv, Wt, (.int .i64 (y95.status)), (.int .i64 (y95.aW))]) h 52 [Sv, Wt, (.int .i64 (y95.status)), (.int .i64 (y95.aW))] rfl cu rfl rfl rfl rfl rfl (ax (h.dD 48 rfl).one (ax (h.dD 50 rfl).one (ax rfl (ax rfl aZ)))) fun w h => ah (aa (ai (ag (ae (au (v := va) rfl) ?_))))
 replace h := h.pair 52 48 (by decide)
 replace h := h.pair 52 49 (by decide)
 replace h := h.pair 52 50 (by decide)
 replace h := h.pair 52 51 (by decide)
 obtain ⟨l105a, l105b, l105c⟩ := h.wC 52 (C := (.two (.two (.two (.two (.blk Vz [Sv, Wt, (.int .i64 (y95.status)), (.int .i64 (y95.aW))]) (.own aB.raw 49 Sv (List.zip y95.frames NH))) (.bJ (aR aM 51 hn NH (List.map aB.sub y95.frames)))) (.own (aT Val).raw 47 Wt (List.zip y95.cells G5))) (.bJ (aR aM 51 hn G5 (List.map (aT Val).sub y95.cells))) : Chunk)) rfl ⟨⟨⟨⟨trivial, trivial⟩, trivial⟩, trivial⟩, trivial⟩
 obtain ⟨gm, e107, hs⟩ := aQ hs
 refine bA Xm rfl rfl (P7 N _ _ l105c Vz y95 Sv Wt NH G5 l105a l105b va a (h.Ol 52 1 rfl rfl) _ e107) ?_
 rintro _ w ⟨k112, Kv, Aq, Jf, Jg, rfl, h113, h114⟩
 refine ⟨_, rfl, ?_⟩
 replace h := h.back 52 (C := (.two (.two (.two (.two (.blk Vz [Sv, Wt, (.int .i64 (y95.status)), (.int .i64 (y95.aW))]) (.own aB.raw 49 Sv (List.zip y95.frames NH))) (.bJ (aR aM 51 hn NH (List.map aB.sub y95.frames)))) (.own (aT Val).raw 47 Wt (List.zip y95.cells G5))) (.bJ (aR aM 51 hn G5 (List.map (aT Val).sub y95.cells))) : Chunk)) (C' := (.two (.two (.two (.two (.blk Vz [Kv, Aq, (.int .i64 (gm.2.2.status)), (.int .i64 (gm.2.2.aW))]) (.own aB.raw 49 Kv (List.zip gm.2.2.frames Jf))) (.bJ (aR aM 51 hn Jf (List.map aB.sub gm.2.2.frames)))) (.own (aT Val).raw 47 Aq (List.zip gm.2.2.cells Jg))) (.bJ (aR aM 51 hn Jg (List.map (aT Val).sub gm.2.2.cells))) : Chunk)) rfl ⟨⟨⟨⟨trivial, trivial⟩, trivial⟩, trivial⟩, trivial⟩ h113 k112 h114
 replace h := h.bU 52 51 (by decide) rfl rfl
 replace h := h.bU 52 50 (by decide) rfl rfl
 replace h := h.bU 52 49 (by decide) rfl rfl
 replace h := h.bU 52 48 (by decide) rfl rfl
 refine ae (au (v := (.tuple #[(.agg #[(.bool (gm.1.said)), (.int .i64 (gm.1.n)), (.bool (gm.1.DX))]), (.bool (gm.2.1))])) rfl) (ae (bC rfl rfl) (ae (bC rfl rfl) (bT h 53 fM fun w b115 h => dm (vs := [(.bool (gm.1.said)), (.int .i64 (gm.1.n)), (.bool (gm.1.DX))]) h 53 [(.bool (gm.1.said)), (.int .i64 (gm.1.n)), (.bool (gm.1.DX))] rfl fM rfl rfl rfl rfl rfl (ax rfl (ax rfl (ax rfl aZ))) fun w h => ae (aj (v := (.bool (gm.2.1))) rfl) (ah (aa (ai (ag (ae (au (v := (.int .i64 (CB))) rfl) ?_))))))))
 obtain ⟨a116, hs⟩ := bG hs
 refine ae (dw rfl rfl a116) (ae (aj (v := (.int .i64 ((CB + 1)))) rfl) (ah (aa (ai (ai (ag (ae (au (v := (.bool (gm.2.1))) rfl) (ae (iq rfl) (ah (aa (aI hs rfl (fun c117 hs => ?_) (fun c117 hs => ?_))))))))))))
 refine ai (ag (ae (ak iN rfl) (fq h 4 [v65, v68, (.int .i64 (2)), (.int .i64 (FR))] rfl bz rfl rfl rfl rfl rfl fun w h => ah (aa (df (aN (tQ (by decide) (aN (bE (az ?_))))))))))
 replace h := h.zU 41 25 rfl rfl (by decide)
 replace h := (h.fu 10).moveC 42 10 rfl rfl (by decide)
 replace h := (h.fu 11).moveC 43 11 rfl rfl (by decide)
 replace h := (h.fu 12).moveC 44 12 rfl rfl (by decide)
 replace h := (h.fu 13).moveC 45 13 rfl rfl (by decide)
 exact bQ (v62, pO, (CB + 1), v65, Ik, rq, v68, Il, yP, 2, FR) ⟨h.cn _, hs⟩
 refine aG (aa (bV (σ := Value × List Int) (inl [11, 82, 83, 84, 85, 86, 87, 88, 89]) (fun ⟨Qm, Kt⟩ => [(11, Qm)]) (fun ⟨Qm, Kt⟩ w => SH w0 M BE w (hset [(1, .rd jI va a), (4, .blk b1 [Kv, Aq, (.int .i64 (gm.2.2.status)), (.int .i64 (gm.2.2.aW))]), (5, .blk b2 [(.slice none 0 0), (.slice none 0 0), (.int .i64 (0)), (.int .i64 (0))]), (41, .own fF 3 Qm Kt), (48, .own aB.raw 49 Kv (List.zip gm.2.2.frames Jf)), (49, .bJ (aR aM 51 hn Jf (List.map aB.sub gm.2.2.frames))), (50, .own (aT Val).raw 47 Aq (List.zip gm.2.2.cells Jg)), (51, .bJ (aR aM 51 hn Jg (List.map (aT Val).sub gm.2.2.cells))), (53, .blk b115 [(.bool (gm.1.said)), (.int .i64 (gm.1.n)), (.bool (gm.1.DX))])]) ∧ wM gm CB Ij Kt = some r) ?_ ?_))
 rintro ⟨Qm, Kt⟩ w dz ⟨h, hs⟩
 refine ai (ag (ae (ak Gf rfl) (ae (aF h 53 rfl wT rfl rfl) (ah (aa (aI hs rfl (fun c120 hs => ?_) (fun c120 hs => ?_)))))))
 refine df (tQ (by decide) (aN (bE (az ?_))))
 replace h := h.zU 41 25 rfl rfl (by decide)
 replace h := (h.fu 10).moveC 48 10 rfl rfl (by decide)
 replace h := (h.fu 11).moveC 49 11 rfl rfl (by decide)
 replace h := (h.fu 12).moveC 50 12 rfl rfl (by decide)
 replace h := (h.fu 13).moveC 51 13 rfl rfl (by decide)
 exact bQ (Qm, Kt, (CB + 1), Kv, Jf, gm.2.2.frames, Aq, Jg, gm.2.2.cells, gm.2.2.status, gm.2.2.aW) ⟨h.cn _, hs⟩
 refine aG (aA (az ?_))
 replace h := (h.fu 42).moveC 48 42 rfl rfl (by decide)
 replace h := (h.fu 43).moveC 49 43 rfl rfl (by decide)
 replace h := (h.fu 44).moveC 50 44 rfl rfl (by decide)
 replace h := (h.fu 45).moveC 51 45 rfl rfl (by decide)
 subst hnx77
 exact jV ⟨m761, Qm, Kt, (CB + 1), Kv, Jf, gm.2.2.frames, Aq, Jg, gm.2.2.cells, gm.2.2.status, gm.2.2.aW⟩ ⟨h.cn _, hs⟩
 refine ai (ag (ae (dS (vs := [Kv, Aq, (.int .i64 (gm.2.2.status)), (.int .i64 (gm.2.2.aW))]) h 52 rfl cu rfl rfl rfl) (dm (vs := [Kv, Aq, (.int .i64 (gm.2.2.status)), (.int .i64 (gm.2.2.aW))]) h 4 [Kv, Aq, (.int .i64 (gm.2.2.status)), (.int .i64 (gm.2.2.aW))] rfl cu rfl rfl rfl rfl rfl (ax (h.dD 48 rfl).one (ax (h.dD 50 rfl).one (ax rfl (ax rfl aZ)))) fun w h => ah (aa (ai (ag (ae (ak Ry rfl) (ae (aF h 53 rfl wT rfl rfl) (ah (aa (aI hs rfl (fun c121 hs => ?_) (fun c121 hs => ?_))))))))))))
 refine ag (ae (au (v := v62) rfl) (ae (ak Rz rfl) (ae (aF h 53 rfl bz rfl rfl) (uw (R := fF) (vs := [(.int .i64 (gm.1.n))]) (xs := [gm.1.n]) h 54 ky rfl rfl rfl ⟨rfl, trivial⟩ rfl fun w u122 h => ?_))))
 obtain ⟨a123, hs⟩ := bG hs
 refine mo (R := fF) (m := [gm.1.n]) h 41 rfl (h.dM 54 rfl) ky rfl rfl rfl a123.1 a123.2 fun w u124 h => ae (aj (v := u124) rfl) (ah (az ?_))
 exact bQ (u124, (pO ++ [gm.1.n])) ⟨h.cn _, hs⟩
 refine aG (az ?_)
 exact bQ (v62, pO) ⟨h.cn _, hs⟩
 refine CK mixed (by kernel_rfl) h fun w h => aO (au (v := v62) rfl) (aO (bY bW rfl (h.dM 41 rfl)) (aO (bI rfl rfl) (aO (au (v := (.bool (decide (((pO.length : Int) : Int) = 40)))) rfl) (lW (b := decide (((pO.length : Int) : Int) = 40)) hs (fun rA hs => ?_) (fun rA hs => ?_)))))
 refine iL rfl (congrArg Value.bool rA) (aO (au (v := va) rfl) (iL rfl (congrArg Value.bool rA) (aO (ak A7 rfl) (iL rfl (congrArg Value.bool rA) (aO (aF h 47 rfl bz rfl rfl) (iL rfl (congrArg Value.bool rA) ?_))))))
 obtain ⟨Gp, e127, hs⟩ := aQ hs
 obtain ⟨b129, o130, ZO, h, XJ, i128⟩ := h.DI 1 55 rfl jv rfl (aJ e127).1 (aJ e127).2
 obtain ⟨Vv, rfl, g134⟩ := nG XJ
 replace h := h.cZ 56 g134.up
 refine aO (i128 _ _ _ _ _ _ _ _ _ rfl rfl) (iL rfl (congrArg Value.bool rA) (aO (ak rf rfl) (iL rfl (congrArg Value.bool rA) (aO (eF (k := 2) h 55 rfl zC rfl rfl) (iL rfl (congrArg Value.bool rA) (aO (ak xe rfl) (iL rfl (congrArg Value.bool rA) (aO (aF h 47 rfl bz rfl rfl) (iL rfl (congrArg Value.bool rA) ?_)))))))))
 obtain ⟨Vw, e136, hs⟩ := aQ hs
 obtain ⟨b138, o139, cs140, h, r141, i137⟩ := h.DI 56 57 rfl jg rfl (aJ e136).1 (aJ e136).2
 obtain ⟨u142, rfl, g143⟩ := AV r141
 replace h := h.cZ 58 g143.up
 refine aO (i137 _ _ _ _ _ _ _ _ _ rfl rfl) (iL rfl (congrArg Value.bool rA) (aO (ak oP rfl) (iL rfl (congrArg Value.bool rA) (aO (eF (k := 0) h 57 rfl bz rfl rfl) (iL rfl (congrArg Value.bool rA) (aO (bI rfl rfl) (aO (fw (b := true) (v := (.bool (decide ((Vw.op : Int) = 9)))) (congrArg Value.bool rA) rfl) (zT ?_))))))))
 replace h := h.iM 43 46 rfl rfl (by decide) (aJ YS).2 XY rfl
 refine az ?_
 exact bQ (decide ((Vw.op : Int) = 9)) ⟨h.cn _, hs⟩
 refine fP (b' := false) rfl (congrArg Value.bool rA) rfl (fP (b' := false) rfl (congrArg Value.bool rA) rfl (fP (b' := false) rfl (congrArg Value.bool rA) rfl (fP (b' := false) rfl (congrArg Value.bool rA) rfl (fP (b' := false) rfl (congrArg Value.bool rA) rfl (fP (b' := false) rfl (congrArg Value.bool rA) rfl (fP (b' := false) rfl (congrArg Value.bool rA) rfl (fP (b' := false) rfl (congrArg Value.bool rA) rfl (fP (b' := false) rfl (congrArg Value.bool rA) rfl (fP (b' := false) rfl (congrArg Value.bool rA) rfl (fP (b' := false) rfl (congrArg Value.bool rA) rfl (fP (b' := false) rfl (congrArg Value.bool rA) rfl (aO (fw (b := false) (v := (.bool (false))) (congrArg Value.bool rA) rfl) (zT ?_)))))))))))))
 replace h := h.iM 43 46 rfl rfl (by decide) (aJ YS).2 XY rfl
 refine az ?_
 exact bQ false ⟨h.cn _, hs⟩
 refine df (aN (aN (bE (az ?_))))
 replace h := h.zU 41 25 rfl rfl (by decide)
 replace h := (h.fu 10).moveC 42 10 rfl rfl (by decide)
 replace h := (h.fu 11).moveC 43 11 rfl rfl (by decide)
 replace h := (h.fu 12).moveC 44 12 rfl rfl (by decide)
 replace h := (h.fu 13).moveC 45 13 rfl rfl (by decide)
 exact bQ (v62, pO, CB, v65, Ik, rq, v68, Il, yP, uW, FR) ⟨h.cn _, hs⟩
def FU (a : List bP) (b : LX.State) : Option (LX.State × Int) :=
  (Ah a b).bind fun y3 => bif decide ((y3 : Int) ≠ 0) then some ((⟨[], [], 0, 0⟩ : LX.State), y3) else bif decide ((b.status : Int) ≠ 3) then some ((⟨[], [], 0, 0⟩ : LX.State), 7) else (zq b).bind fun y8 => some ((⟨y8.frames, y8.cells, 0, 0⟩ : LX.State), 0)
theorem Qn (w0 : World) (M : BS) (hM : ∀ b, M b → b < w0.heap.size) (va : Value) (a : List bP) (ha : gp jI w0 BE M va a) (b : LX.State) (vb0 vb1 : Value) (hb0 : gp iD w0 BE M vb0 b.frames) (hb1 : gp (uY aM) w0 BE M vb1 b.cells) (r : LX.State × Int) (hs : FU a b = some r) :
    Calls Tryz.prog 30 #[va, (.agg #[vb0, vb1, (.int .i64 (b.status)), (.int .i64 (b.aW))])] w0 (fun e w' => Grow w0 w' ∧ ∃ wH, ∃ zM, e = .returned (.tuple #[.agg #[wH, zM, .int .i64 r.1.status, .int .i64 r.1.aW], .int .i64 r.2]) ∧ fo iD w' M wH r.1.frames ∧ fo (uY aM) w' M zM r.1.cells) := by
 refine aS (args := [va, (.agg #[vb0, vb1, (.int .i64 (b.status)), (.int .i64 (b.aW))])]) Tryz.func30 rfl Tryz.ntmps30 (Nat.le_of_ble_eq_true rfl) ?_
 have h := SH.init hM
 replace h := h.il 1 ha bR
 replace h := h.il 2 hb0 (eT bR)
 replace h := h.il 3 hb1 (eT (eT bR))
 have u7 := ha.cO
 refine ai (ag (rF (cs := [vb0, vb1, (.int .i64 (b.status)), (.int .i64 (b.aW))]) h 4 rfl rfl fun w b1 h => bT h 5 cu fun w b2 h => ae (aj (v := (.int .i64 (0))) rfl) (ah (aa (ai (ai (ag (ae (au (v := va) rfl) (ae (dS (vs := [vb0, vb1, (.int .i64 (b.status)), (.int .i64 (b.aW))]) h 4 rfl cu rfl rfl rfl) ?_)))))))))
 obtain ⟨y3, e4, hs⟩ := aQ hs
 refine bA RA rfl rfl (Gx _ _ h.lt va a (h.je 1 rfl) b vb0 vb1 (h.je 2 rfl) (h.je 3 rfl) _ e4) ?_
 rintro _ w ⟨k5, rfl⟩
 refine ⟨_, rfl, ?_⟩
 replace h := h.grow k5
 refine ae (aj (v := (.int .i64 (y3))) rfl) (ah (aa (ai (ag (ae (au (v := (.int .i64 (y3))) rfl) (ae (gq rfl rfl) (ah (aa (aI hs rfl (fun c6 hs => ?_) (fun c6 hs => ?_))))))))))
 refine ai (ag (ae (dC (pv := []) (out := [(.slice none 0 0), (.slice none 0 0), (.int .i64 (0)), (.int .i64 (0))]) pF rfl rfl) (ae (au (v := (.int .i64 (y3))) rfl) (dm (vs := [(.slice none 0 0), (.slice none 0 0), (.int .i64 (0)), (.int .i64 (0))]) h 5 [(.slice none 0 0), (.slice none 0 0), (.int .i64 (0)), (.int .i64 (0))] rfl cu rfl rfl rfl rfl rfl (ax rfl (ax rfl (ax rfl (ax rfl aZ)))) fun w h => ae (aj (v := (.int .i64 (y3))) rfl) (ah (aa (aK (aC (jN (vs := [(.slice none 0 0), (.slice none 0 0), (.int .i64 (0)), (.int .i64 (0))]) (v2 := (.int .i64 (y3))) Tryz.results30 rfl rfl h 5 rfl cu rfl ?_)))))))))
 obtain rfl := Option.some.inj hs
 exact ⟨h.grown, _, _, rfl, gp.nil, gp.nil⟩
 refine aG (aa (ai (ai (ag (ae (ak iN rfl) (ae (aF h 4 rfl bz rfl rfl) (ae (gq rfl rfl) (ah (aa (aI hs rfl (fun c7 hs => ?_) (fun c7 hs => ?_)))))))))))
 refine ai (ag (ae (dC (pv := []) (out := [(.slice none 0 0), (.slice none 0 0), (.int .i64 (0)), (.int .i64 (0))]) pF rfl rfl) (dm (vs := [(.slice none 0 0), (.slice none 0 0), (.int .i64 (0)), (.int .i64 (0))]) h 5 [(.slice none 0 0), (.slice none 0 0), (.int .i64 (0)), (.int .i64 (0))] rfl cu rfl rfl rfl rfl rfl (ax rfl (ax rfl (ax rfl (ax rfl aZ)))) fun w h => ae (aj (v := (.int .i64 (7))) rfl) (ah (aa (aK (aC (jN (vs := [(.slice none 0 0), (.slice none 0 0), (.int .i64 (0)), (.int .i64 (0))]) (v2 := (.int .i64 (7))) Tryz.results30 rfl rfl h 5 rfl cu rfl ?_))))))))
 obtain rfl := Option.some.inj hs
 exact ⟨h.grown, _, _, rfl, gp.nil, gp.nil⟩
 refine aG (aa (ai (ag (ae (dS (vs := [vb0, vb1, (.int .i64 (b.status)), (.int .i64 (b.aW))]) h 4 rfl cu rfl rfl rfl) ?_))))
 obtain ⟨y8, e9, hs⟩ := aQ hs
 refine bA J2 rfl rfl (Bd _ _ h.lt b vb0 vb1 (h.je 2 rfl) (h.je 3 rfl) _ e9) ?_
 rintro _ w ⟨k16, VA, Ut, Eg, us13, rfl, h14, h15⟩
 refine ⟨_, rfl, ?_⟩
 replace h := h.MH 6 (C := (.two (.two (.two (.own aB.raw 49 VA (List.zip y8.frames Eg)) (.bJ (aR aM 51 hn Eg (List.map aB.sub y8.frames)))) (.own (aT Val).raw 47 Ut (List.zip y8.cells us13))) (.bJ (aR aM 51 hn us13 (List.map (aT Val).sub y8.cells))) : Chunk)) k16 ⟨⟨⟨trivial, trivial⟩, trivial⟩, trivial⟩ h14 h15
 replace h := h.bU 6 9 (by decide) rfl rfl
 replace h := h.bU 6 8 (by decide) rfl rfl
 replace h := h.bU 6 7 (by decide) rfl rfl
 refine dm (vs := [VA, Ut, (.int .i64 (y8.status)), (.int .i64 (y8.aW))]) h 4 [VA, Ut, (.int .i64 (y8.status)), (.int .i64 (y8.aW))] rfl cu rfl rfl rfl rfl rfl (ax (h.dD 6 rfl).one (ax (h.dD 8 rfl).one (ax rfl (ax rfl aZ)))) fun w h => ah (aa (ai (ag (ae (ak iN rfl) (fq h 4 [VA, Ut, (.int .i64 (0)), (.int .i64 (y8.aW))] rfl bz rfl rfl rfl rfl rfl fun w h => ae (ak CW rfl) (fq h 4 [VA, Ut, (.int .i64 (0)), (.int .i64 (0))] rfl bz rfl rfl rfl rfl rfl fun w h => ah (aa (ai (ag (ae (dS (vs := [VA, Ut, (.int .i64 (0)), (.int .i64 (0))]) h 4 rfl cu rfl rfl rfl) (dm (vs := [VA, Ut, (.int .i64 (0)), (.int .i64 (0))]) h 5 [VA, Ut, (.int .i64 (0)), (.int .i64 (0))] rfl cu rfl rfl rfl rfl rfl (ax (h.dD 6 rfl).one (ax (h.dD 8 rfl).one (ax rfl (ax rfl aZ)))) fun w h => ae (aj (v := (.int .i64 (0))) rfl) (ah (aa (aK (jN (vs := [VA, Ut, (.int .i64 (0)), (.int .i64 (0))]) (v2 := (.int .i64 (0))) Tryz.results30 rfl rfl h 5 rfl cu rfl ?_)))))))))))))))
 replace h := h.z8 (N := aB) (R' := iD) 6 7 rfl rfl (by decide) rfl AX
 replace h := h.z8 (N := (aT Val)) (R' := (uY aM)) 8 9 rfl rfl (by decide) rfl FI
 obtain rfl := Option.some.inj hs
 exact ⟨h.grown, _, _, rfl, h.Q4 6 rfl, h.Q4 8 rfl⟩
def mD (a : List Int) (b : List Int) (i3 : Int) (s : Unit) (J5 : Unit → Option Bool) : Option Bool :=
  (idx a i3).bind fun x9 => (idx b i3).bind fun oQ => bif decide ((x9 : Int) ≠ oQ) then some false else J5 ()
def qK (s : Unit) : Option Bool :=
  some true
def slices_Equal_int (a : List Int) (b : List Int) : Option Bool :=
  bif decide (((a.length : Int) : Int) ≠ (b.length : Int)) then some false else upto (mD a b) qK 0 ((a.length : Int)).toNat ()
theorem rE (w0 : World) (M : BS) (hM : ∀ b, M b → b < w0.heap.size) (va : Value) (a : List Int) (ha : gp fF w0 BE M va a) (vb : Value) (b : List Int) (hb : gp fF w0 BE M vb b) (r : Bool) (hs : slices_Equal_int a b = some r) :
    Calls Tryz.prog 18 #[va, vb] w0 (fun e w' => Grow w0 w' ∧ e = .returned (.bool r)) := by
 refine aS (args := [va, vb]) Tryz.func18 rfl Tryz.ntmps18 (Nat.le_of_ble_eq_true rfl) ?_
 have h := SH.init hM
 replace h := h.il 1 ha bR
 replace h := h.il 2 hb (eT bR)
 have u7 := ha.cO
 have MO := hb.cO
 refine ai (ag (ae (aj (v := (.bool (false))) rfl) (ah (aa (ai (ai (ag (ae (au (v := va) rfl) (ae (bY bW rfl (h.je 1 rfl)) (ae (au (v := vb) rfl) (ae (bY bW rfl (h.je 2 rfl)) (ae (gq rfl rfl) (ah (aa (aI hs rfl (fun c1 hs => ?_) (fun c1 hs => ?_))))))))))))))))
 refine ai (ag (ae (aj (v := (.bool (false))) rfl) (ah (aa (aK (aC (cK (v := (.bool (false))) Tryz.results18 rfl ?_)))))))
 obtain rfl := Option.some.inj hs
 exact ⟨h.grown, rfl⟩
 refine aG (aa (ai (ai (ag (ae (au (v := va) rfl) (ae (bY bW rfl (h.je 1 rfl)) (ae (au (v := (.int .i64 (0))) rfl) (ah (aa (aV ?_))))))))))
 have hli3 := (h.je 1 rfl).cO
 refine gT (σ := Nat × Int) (inl [4, 5, 13, 14, 15, 16, 17, 18, 19, 20, 21, 22, 23, 24, 25]) (fun ⟨k2, i3⟩ => [(13, (.int .i64 (i3)))]) (fun ⟨k2, i3⟩ w => SH w0 M BE w (hset [(1, .sr fF va a), (2, .sr fF vb b)]) ∧ i3 = (k2 : Int) ∧ upto (mD a b) qK i3 (((a.length : Int)).toNat - k2) () = some r) (fun ⟨k2, i3⟩ => ((a.length : Int)).toNat - k2) ⟨0, 0⟩ ⟨rfl, trivial⟩ ?_ ?_
 exact ⟨h.cn _, rfl, hs⟩
 rintro ⟨k2, i3⟩ w dz ⟨h, hik, hs⟩
 refine ai (ag ?_)
 refine ae (dN rfl rfl) (ah (aa ?_))
 refine ai (iJ rfl (fun e7 => ?_) (fun e7 => ?_))
 refine aG (aa ?_)
 rw [vO (by have := of_decide_eq_true e7; omega)] at hs
 generalize MP : upto (mD a b) qK (i3 + 1) (((a.length : Int)).toNat - (k2 + 1)) = J5 at hs
 have Xr : jA (i3 + 1) := (by have := of_decide_eq_true e7; have := hli3; exact jA.mk (by omega) (by omega))
 refine ai (aV (ai (ag (ae (au (v := (.int .i64 (i3))) rfl) (ae (aj (v := (.int .i64 (i3))) rfl) (ah (aa (ai (CK mixed (by kernel_rfl) h fun w h => aO (au (v := va) rfl) (aO (au (v := (.int .i64 (i3))) rfl) ?_))))))))))
 obtain ⟨x9, e10, hs⟩ := aQ hs
 obtain ⟨b12, o13, cs14, h, r15, i11⟩ := h.Bt 1 3 rfl bW rfl (aJ e10).1 (aJ e10).2
 obtain rfl := r15
 refine aO (i11 _ _ _ _ _ _ _ _ _ rfl rfl) (aO (eF (k := 0) h 3 rfl bz rfl rfl) (aO (au (v := vb) rfl) (aO (au (v := (.int .i64 (i3))) rfl) ?_)))
 obtain ⟨oQ, e17, hs⟩ := aQ hs
 obtain ⟨b19, o20, cs21, h, r22, i18⟩ := h.Bt 2 4 rfl bW rfl (aJ e17).1 (aJ e17).2
 obtain rfl := r22
 refine aO (i18 _ _ _ _ _ _ _ _ _ rfl rfl) (aO (eF (k := 0) h 4 rfl bz rfl rfl) (aO (gq rfl rfl) (zT (aa (aI hs rfl (fun c23 hs => ?_) (fun c23 hs => ?_))))))
 refine ai (ag (ae (aj (v := (.bool (false))) rfl) (ah (aa (aK (aH (aC (aC (aH (aC (cK (v := (.bool (false))) Tryz.results18 rfl ?_)))))))))))
 obtain rfl := Option.some.inj hs
 exact ⟨h.grown, rfl⟩
 refine aG (aA (aa (ag (ae (dw rfl rfl Xr) (ae (au (v := (.int .i64 ((i3 + 1)))) rfl) (ah (az ?_)))))))
 subst MP
 exact jV ⟨k2 + 1, i3 + 1⟩ ⟨h.cn _, by omega, hs⟩ (by have := of_decide_eq_true e7; dsimp only; omega)
 rw [vP (by have := of_decide_eq_false e7; omega)] at hs
 refine df (aN (aN (bE (aa (ai (ag (ae (aj (v := (.bool (true))) rfl) (ah (aa (aK (cK (v := (.bool (true))) Tryz.results18 rfl ?_)))))))))))
 obtain rfl := Option.some.inj hs
 exact ⟨h.grown, rfl⟩
def lu (a : Int) (b : Int) : Option Int :=
  gz (0 < b) (bif decide (((Int.tmod a b) : Int) < 0) then gz (jA ((Int.tmod a b) + b)) (some ((Int.tmod a b) + b)) else some (Int.tmod a b))
theorem qC (w0 : World) (M : BS) (hM : ∀ b, M b → b < w0.heap.size) (a : Int) (b : Int) (r : Int) (hs : lu a b = some r) :
    Calls Tryz.prog 16 #[(.int .i64 (a)), (.int .i64 (b))] w0 (fun e w' => Grow w0 w' ∧ e = .returned (.int .i64 r)) := by
 refine aS (args := [(.int .i64 (a)), (.int .i64 (b))]) Tryz.func16 rfl Tryz.ntmps16 (Nat.le_of_ble_eq_true rfl) ?_
 have h := SH.init hM
 refine ai (ag (ae (aj (v := (.int .i64 (0))) rfl) (ah (aa (ai (ag (ae (au (v := (.int .i64 (a))) rfl) (ae (au (v := (.int .i64 (b))) rfl) ?_))))))))
 obtain ⟨a1, hs⟩ := bG hs
 refine ae (Y1 rfl rfl a1) (ae (aj (v := (.int .i64 ((Int.tmod a b)))) rfl) (ah (aa (ai (ai (ag (ae (au (v := (.int .i64 ((Int.tmod a b)))) rfl) (ae (dN rfl rfl) (ah (aa (aI hs rfl (fun c2 hs => ?_) (fun c2 hs => ?_))))))))))))
 refine ag (ae (au (v := (.int .i64 ((Int.tmod a b)))) rfl) (ae (au (v := (.int .i64 (b))) rfl) ?_))
 obtain ⟨a3, hs⟩ := bG hs
 refine ae (dw rfl rfl a3) (ae (aj (v := (.int .i64 (((Int.tmod a b) + b)))) rfl) (ah (aa (ai (ag (ae (au (v := (.int .i64 (((Int.tmod a b) + b)))) rfl) (ae (aj (v := (.int .i64 (((Int.tmod a b) + b)))) rfl) (ah (aa (aK (cK (v := (.int .i64 (((Int.tmod a b) + b)))) Tryz.results16 rfl ?_)))))))))))
 obtain rfl := Option.some.inj hs
 exact ⟨h.grown, rfl⟩
 refine aG (aa (ai (ag (ae (au (v := (.int .i64 ((Int.tmod a b)))) rfl) (ae (aj (v := (.int .i64 ((Int.tmod a b)))) rfl) (ah (aa (aK (cK (v := (.int .i64 ((Int.tmod a b)))) Tryz.results16 rfl ?_)))))))))
 obtain rfl := Option.some.inj hs
 exact ⟨h.grown, rfl⟩
end
end Go.Proofs.YtfclkapelkhlpaaGreatDoor
namespace Go.Proofs.YtfclkapelkhlpaaGreatDoor
open Go Go.Proofs Go.LX
noncomputable section
def lU (a : Val) (b : Int) (x2 : Bool) : Int :=
  bif x2 then 4 else bif (decide ((a.kind : Int) = 1) && (!(eP a.n))) then 3 else bif (decide ((a.kind : Int) = 2) && (!(aY a.n b))) then 5 else 0
def dK (a : Val) (b : Int) : Int :=
  bif (!(bB a.kind 0 2)) then lU a b (!(bB a.kind 0 2)) else lU a b (decide ((a.kind : Int) = 0) && decide ((a.n : Int) ≠ 0))
def iZ (a : List (List Val)) (x20 : Val) (s : Unit) (Vm : Unit → Int) : Int :=
  bif decide (((dK x20 (a.length : Int)) : Int) ≠ 0) then (dK x20 (a.length : Int)) else Vm ()
def ja (J5 : Unit → Int) (s : Unit) : Int :=
  J5 ()
def jb (a : List (List Val)) (x4 : List Val) (s : Unit) (J5 : Unit → Int) : Int :=
  bif (!(bB (x4.length : Int) 1 4)) then 2 else each (iZ a) (ja J5) x4 ()
def jc (s : Unit) : Int :=
  0
def j5 (a : List (List Val)) : Int :=
  bif decide ((24 : Int) < (a.length : Int)) then 2 else each (jb a) jc a ()
def lv (b : LX.State) (YB : Val) (s : Unit) (nx46 : Unit → Option Int) : Option Int :=
  bif decide (((dK YB (b.cells.length : Int)) : Int) ≠ 0) then some (dK YB (b.cells.length : Int)) else nx46 ()
def lC (Kk : Int → Option Int) (DD : LX.Frame) (s : Unit) : Option Int :=
  Kk (DD.regs.length : Int)
def fK (a : List bP) (DD : LX.Frame) (b : LX.State) (Kk : Int → Option Int) (x30 : Bool) : Option Int :=
  bif x30 then some 3 else (idx a DD.proc).bind fun x32 => bif decide (((DD.regs.length : Int) : Int) ≠ x32.regs) then some 4 else each (lv b) (lC Kk DD) DD.regs ()
def eu (a : List bP) (b : LX.State) (DD : LX.Frame) (wE : Int) (Kk : Int → Option Int) : Option Int :=
  bif (!(aY DD.proc (a.length : Int))) then some 5 else (idx a DD.proc).bind fun TF => bif (!(aY DD.at_ (TF.code.length : Int))) then fK a DD b Kk true else fK a DD b Kk (!(aY DD.qY wE))
def ik (wE : Int) : Option Int :=
  some 0
def nX (a : List bP) (b : LX.State) : Option Int :=
  bif ((!(bB b.status 0 3)) || (!(eP b.aW))) then some 3 else bif (((decide ((b.aW : Int) ≠ 0) && decide ((b.status : Int) ≠ 3)) || (decide ((b.status : Int) = 1) && decide ((0 : Int) < (b.frames.length : Int)))) || (decide ((b.status : Int) ≠ 1) && decide (((b.frames.length : Int) : Int) = 0))) then some 4 else bif decide ((10 : Int) < (b.frames.length : Int)) then some 2 else bif decide (((j5 b.cells) : Int) ≠ 0) then some (j5 b.cells) else each (eu a b) ik b.frames 1
end
end Go.Proofs.YtfclkapelkhlpaaGreatDoor
namespace Go.Proofs.YtfclkapelkhlpaaGreatDoor
open Go Go.Proofs Go.LX
noncomputable section
abbrev NI : List (Int × Str) := [(2, [118]), (4, [46]), (5, [110, 101, 119]), (6, [102]), (1, [])]
theorem bnd {α β : Type} (a : α) (f : α → Option β) : (some a).bind f = f a := rfl
theorem Qo {α σ : Type} {g : α → Option σ} {l : List α} (hu : ∀ p ∈ l, ∀ q ∈ l, g p ≠ none → g q ≠ none → p = q) {p : α} (hp : p ∈ l) {t : σ} (h : g p = some t) : l.findSome? g = some t := by
  cases e : l.findSome? g with
  | none =>
    rw [List.findSome?_eq_none_iff] at e
    rw [e p hp] at h; cases h
  | some u =>
    obtain ⟨q, hq, hqu⟩ := List.exists_of_findSome?_eq_some e
    have := hu p hp q hq (by rw [h]; simp) (by rw [hqu]; simp)
    subst this
    rw [h] at hqu; exact hqu.symm
theorem Jh {α σ : Type} {step : α → σ → Option σ} {g : α → Option σ} : ∀ {l : List α}, (∀ p ∈ l, ∀ s, step p s = some ((g p).getD s)) → (∀ p ∈ l, g p = none) → ∀ s, Gc step l s = some s
  | [], _, _, s => rfl
  | p :: l, h, hn, s => by
    unfold Gc
    rw [h p (by simp), hn p (by simp), Option.getD_none, bnd]
    exact Jh (fun q hq => h q (List.mem_cons_of_mem _ hq)) (fun q hq => hn q (List.mem_cons_of_mem _ hq)) s
theorem Ji {α σ : Type} {step : α → σ → Option σ} {g : α → Option σ} : ∀ {l : List α}, (∀ p ∈ l, ∀ s, step p s = some ((g p).getD s)) → (∀ p ∈ l, ∀ q ∈ l, g p ≠ none → g q ≠ none → p = q) → l.Nodup → ∀ s, Gc step l s = some ((l.findSome? g).getD s)
  | [], _, _, _, s => rfl
  | p :: l, h, hu, hn, s => by
    unfold Gc
    rw [h p (by simp), bnd]
    have hn' := List.nodup_cons.1 hn
    cases e : g p with
    | none =>
      rw [Option.getD_none, Ji (fun q hq => h q (List.mem_cons_of_mem _ hq)) (fun a ha b hb => hu a (List.mem_cons_of_mem _ ha) b (List.mem_cons_of_mem _ hb)) hn'.2 s, List.findSome?_cons, e]
    | some t =>
      rw [Option.getD_some, Jh (fun q hq => h q (List.mem_cons_of_mem _ hq)) (fun q hq => ?_) t, List.findSome?_cons, e]
      · rfl
      · cases e2 : g q with
        | none => rfl
        | some u =>
          have := hu p (by simp) q (List.mem_cons_of_mem _ hq) (by rw [e]; simp) (by rw [e2]; simp)
          subst this
          exact absurd hq hn'.1
theorem Qp {α σ : Type} {step : α → σ → Option σ} {g : α → Option σ} {L : List α} (h : ∀ p ∈ L, ∀ s, step p s = some ((g p).getD s)) (hu : ∀ p ∈ L, ∀ q ∈ L, g p ≠ none → g q ≠ none → p = q) (hn : L.Nodup) (s : σ) : qZ step L s ((L.findSome? g).getD s) := by
  intro l hl
  rw [Ji (fun p hp => h p (hl.mem_iff.1 hp)) (fun p hp q hq => hu p (hl.mem_iff.1 hp) q (hl.mem_iff.1 hq)) (hl.nodup_iff.2 hn) s]
  congr 2
  cases e : L.findSome? g with
  | none =>
    rw [List.findSome?_eq_none_iff] at e ⊢
    exact fun x hx => e x (hl.mem_iff.1 hx)
  | some t =>
    obtain ⟨p, hp, ht⟩ := List.exists_of_findSome?_eq_some e
    exact Qo (fun p hp q hq => hu p (hl.mem_iff.1 hp) q (hl.mem_iff.1 hq)) (hl.mem_iff.2 hp) ht
def joO (pe : Int × Str) (y : Int × Bool) (x : Bool) : Option (Int × Int) := bif x then some (pe.1, y.1) else none
def LJ (s : Str) (pe : Int × Str) : Option (Option (Int × Int)) :=
  (strings_TrimPrefix s pe.2).bind fun xB => (zY xB).bind fun Da => bif (!Da.2) then (jh (⟨pe.1, Da.1⟩ : Tok)).bind fun qM => some (joO pe Da (decide ((qM : Str) = s))) else some (joO pe Da false)
theorem VB (pe : Int × Str) (y : Int × Bool) (a b : Int) (x : Bool) : sM pe y a b x = some ((joO pe y x).getD (a, b)) := by
  unfold sM joO; cases x <;> rfl
theorem VC (s : Str) (pe : Int × Str) (st : Int × Int) : nP s pe st = (LJ s pe).bind fun o => some (o.getD st) := by
  obtain ⟨a, b⟩ := st
  unfold nP LJ
  simp only [VB]
  cases strings_TrimPrefix s pe.2 with
  | none => rfl
  | some y =>
    simp only [bnd]
    cases zY y with
    | none => rfl
    | some z =>
      simp only [bnd]
      cases z.2 with
      | true => rfl
      | false =>
        simp only [Bool.not_false, cond_true]
        cases jh (⟨pe.1, z.1⟩ : Tok) <;> rfl
def gO (s : Str) (p : Int × Str) : Option (Int × Int) := (LJ s p).join
def okW (s : Str) : Bool := NI.all (fun p => (LJ s p).isSome) && NI.all (fun p => NI.all fun q => (gO s p).isNone || (gO s q).isNone || decide (p = q))
def preC (s : Str) : Int × Int := (NI.findSome? (gO s)).getD (0, 0)
theorem VD {s : Str} (h : okW s = true) : wZ (nP s) NI (0, 0) = some (preC s) := by
  unfold okW at h
  rw [Bool.and_eq_true, List.all_eq_true, List.all_eq_true] at h
  refine ME (Qp (g := gO s) (fun p hp st => ?_) (fun p hp q hq h1 h2 => ?_) (by decide) (0, 0))
  · have h1 := h.1 p hp
    rw [VC]
    unfold gO
    cases e : LJ s p with
    | none => rw [e] at h1; cases h1
    | some o => cases o <;> rfl
  · have := List.all_eq_true.1 (h.2 p hp) q hq
    rw [Bool.or_eq_true, Bool.or_eq_true] at this
    rcases this with (e | e) | e
    · exact absurd (Option.isNone_iff_eq_none.1 e) h1
    · exact absurd (Option.isNone_iff_eq_none.1 e) h2
    · exact of_decide_eq_true e
def TG (s : Str) : Option (Int × Int) := bif okW s then some (preC s) else wZ (nP s) NI (0, 0)
theorem TH (s : Str) : TG s = wZ (nP s) NI (0, 0) := by
  unfold TG
  cases e : okW s with
  | false => rfl
  | true => exact (VD e).symm
def uk (N : Nat) (yn : List Tok) (F : List eO) (yQ : Int) (yh : (List Tok × Int × Bool × Int) → Option (List Tok × dH)) (x29 : Str) (FP : Bool) (y31 : Int) : Option (List Tok × dH) :=
  (TG x29).bind fun Lf => (Db N x29 yn F y31 yQ yh FP) Lf
theorem G6 : @uk = @sN := by
  funext a b c d e f g h
  unfold uk sN
  rw [TH]
def xE (N : Nat) (W : List Str) (F : List eO) (s : List Tok × Int × Bool × Int) (yh : List Tok × Int × Bool × Int → Option (List Tok × dH)) : Option (List Tok × dH) :=
  match s with | (yn, yQ, Fg, y20) => bif (decide ((0 : Int) < yQ) && Fg) then bif decide (((W.length : Int) : Int) ≤ y20) then uk N yn F yQ yh [] false y20 else gz (jA (y20 + 1)) (gz (jA ((y20 + 1) - 1)) ((idx W ((y20 + 1) - 1)).bind fun x103 => uk N yn F yQ yh x103 Fg (y20 + 1))) else some (yn, (⟨y20, Fg⟩ : dH))
theorem G7 : @xE = @sO := by
  unfold xE sO
  rw [G6]
def Dq (N : Nat) (sx : dH) (W : List Str) (F : List eO) : Option (List Tok × dH) :=
  again (xE N W F) N ([], 1, sx.ok, sx.at_)
theorem Jj : @Dq = @Dc := by
  unfold Dq Dc
  rw [G7]
def um (N : Nat) (F0 : dH → List Str → List eO → Int → Option (List bF × dH)) (lG : Int) (W : List Str) (F : List eO) (a : Int) (oQ : List bF) (xM : Int) (kW : (List bF × Int × Bool) → Option (List bF × dH)) (M5 : Int) (M6 : Bool) (yO : List Tok) : Option (List bF × dH) :=
  bif decide (((lG + 1) : Int) = 2) then (Dq N (⟨M5, M6⟩ : dH) W F).bind fun xB => sP F0 lG a W F oQ xM yO kW xB.2.at_ xB.2.ok xB.1 else sP F0 lG a W F oQ xM yO kW M5 M6 []
theorem G8 : @um = @sQ := by
  unfold um sQ
  rw [Jj]
def qU (N : Nat) (F0 : dH → List Str → List eO → Int → Option (List bF × dH)) (lG : Int) (W : List Str) (F : List eO) (a : Int) (oQ : List bF) (kW : (List bF × Int × Bool) → Option (List bF × dH)) (wF : Int) (zf : Bool) (xM : Int) : Option (List bF × dH) :=
  bif decide (((lG + 1) : Int) ≠ 4) then (Dq N (⟨wF, zf⟩ : dH) W F).bind fun y95 => um N F0 lG W F a oQ xM kW y95.2.at_ y95.2.ok y95.1 else um N F0 lG W F a oQ xM kW wF zf []
theorem G9 : @qU = @qx := by
  unfold qU qx
  rw [Jj, G8]
def uo (N : Nat) (F0 : dH → List Str → List eO → Int → Option (List bF × dH)) (oQ : List bF) (W : List Str) (F : List eO) (a : Int) (kW : (List bF × Int × Bool) → Option (List bF × dH)) (x27 : Str) (y28 : Int) (y29 : Bool) : Option (List bF × dH) :=
  bif decide ((x27 : Str) = [125]) then some (oQ, (⟨y28, y29⟩ : dH)) else (CQ [115, 101, 116, 32, 112, 117, 116, 32, 115, 97, 121, 32, 112, 97, 117, 115, 101, 32, 103, 111, 32, 105, 102, 32, 119, 104, 105, 108, 101, 32, 114, 101, 116, 117, 114, 110]).bind fun y31 => (slices_Index_string y31 x27).bind fun lG => gz (jA (lG + 1)) (bif (!(y29 && decide ((0 : Int) < (lG + 1)))) then some ([], (⟨y28, (y29 && decide ((0 : Int) < (lG + 1)))⟩ : dH)) else bif decide (((lG + 1) : Int) ≤ 2) then bif decide (((W.length : Int) : Int) ≤ y28) then (zY []).bind fun y104 => qU N F0 lG W F a oQ kW y28 false y104.1 else gz (jA (y28 + 1)) (gz (jA ((y28 + 1) - 1)) ((idx W ((y28 + 1) - 1)).bind fun M7 => (zY M7).bind fun M8 => qU N F0 lG W F a oQ kW (y28 + 1) (y29 && decide ((0 : Int) < (lG + 1))) M8.1)) else qU N F0 lG W F a oQ kW y28 (y29 && decide ((0 : Int) < (lG + 1))) 0)
theorem Ha : @uo = @sS := by
  unfold uo sS
  rw [G9]
def xG (N : Nat) (F0 : dH → List Str → List eO → Int → Option (List bF × dH)) (W : List Str) (F : List eO) (a : Int) (s : List bF × Int × Bool) (kW : List bF × Int × Bool → Option (List bF × dH)) : Option (List bF × dH) :=
  match s with | (oQ, BI, Bw) => bif Bw then bif decide (((W.length : Int) : Int) ≤ BI) then uo N F0 oQ W F a kW [] BI false else gz (jA (BI + 1)) (gz (jA ((BI + 1) - 1)) ((idx W ((BI + 1) - 1)).bind fun Gp => uo N F0 oQ W F a kW Gp (BI + 1) Bw)) else some ([], (⟨BI, Bw⟩ : dH))
theorem Hd : @xG = @sU := by
  unfold xG sU
  rw [Ha]
def wm (N : Nat) (F0 : dH → List Str → List eO → Int → Option (List bF × dH)) (W : List Str) (F : List eO) (a : Int) (y1 : Int) (y2 : Bool) : Option (List bF × dH) :=
  again (xG N F0 W F a) N ([], y1, y2)
theorem Im : @wm = @uI := by
  unfold wm uI
  rw [Hd]
def uq (N : Nat) (F0 : dH → List Str → List eO → Int → Option (List bF × dH)) (W : List Str) (F : List eO) (a : Int) (BP : Bool) (FC : Int) (J8 : Bool) : Option (List bF × dH) :=
  bif BP then wm N F0 W F a FC false else wm N F0 W F a FC J8
theorem He : @uq = @sV := by
  unfold uq sV
  rw [Im]
def xk (N : Nat) (F0 : dH → List Str → List eO → Int → Option (List bF × dH)) (sx : dH) (W : List Str) (F : List eO) (a : Int) : Option (List bF × dH) :=
  bif decide (((W.length : Int) : Int) ≤ sx.at_) then uq N F0 W F a true sx.at_ false else gz (jA (sx.at_ + 1)) (gz (jA ((sx.at_ + 1) - 1)) ((idx W ((sx.at_ + 1) - 1)).bind fun Lg => uq N F0 W F a (decide ((Lg : Str) ≠ [123]) || decide ((6 : Int) < a)) (sx.at_ + 1) sx.ok))
theorem Kw : @xk = @wG := by
  unfold xk wG
  rw [He]
def yK : Nat → dH → List Str → List eO → Int → Option (List bF × dH)
  | 0 => fun _ _ _ _ => none
  | N + 1 => xk N (yK N)
theorem Hf : ∀ N, yK N = uJ N
  | 0 => rfl
  | N + 1 => by show xk N (yK N) = wG N (uJ N); rw [Kw, Hf N]
def iO (N : Nat) (y1 : List Str) (qM : List eO) (i101 : Int) (ku : (List eO × Int × Bool) → Option (List eO × Int)) (FD : Int) (y112 : Bool) : Option (List eO × Int) :=
  (yK N (⟨FD, y112⟩ : dH) y1 qM 1).bind fun jK => (idx qM i101).bind fun wu => ku ((qM.set (i101).toNat { wu with body := jK.1 }), jK.2.at_, jK.2.ok)
theorem vo : @iO = @gW := by
  unfold iO gW
  rw [show @yK = @uJ from funext Hf]
def iP (N : Nat) (y1 : List Str) (qM : List eO) (i101 : Int) (ku : (List eO × Int × Bool) → Option (List eO × Int)) (xC : Int) (Ka : Bool) : Option (List eO × Int) :=
  bif decide (((y1.length : Int) : Int) ≤ xC) then iO N y1 qM i101 ku xC false else gz (jA (xC + 1)) (gz (jA ((xC + 1) - 1)) ((idx y1 ((xC + 1) - 1)).bind fun Vg => iO N y1 qM i101 ku (xC + 1) Ka))
theorem vv : @iP = @gX := by
  unfold iP gX
  rw [vo]
def iQ (N : Nat) (y1 : List Str) (qM : List eO) (i101 : Int) (ku : (List eO × Int × Bool) → Option (List eO × Int)) (ou : Int) (Kb : Bool) : Option (List eO × Int) :=
  bif decide (((y1.length : Int) : Int) ≤ ou) then iP N y1 qM i101 ku ou false else gz (jA (ou + 1)) (gz (jA ((ou + 1) - 1)) ((idx y1 ((ou + 1) - 1)).bind fun Vh => iP N y1 qM i101 ku (ou + 1) Kb))
theorem vw : @iQ = @gY := by
  unfold iQ gY
  rw [vv]
def iR (N : Nat) (y1 : List Str) (qM : List eO) (i101 : Int) (ku : (List eO × Int × Bool) → Option (List eO × Int)) (Lh : Bool) (FE : Int) (Kc : Bool) : Option (List eO × Int) :=
  bif Lh then iQ N y1 qM i101 ku FE false else iQ N y1 qM i101 ku FE Kc
theorem vz : @iR = @gZ := by
  unfold iR gZ
  rw [vw]
def j6 (N : Nat) (y1 : List Str) (i101 : Int) (s : List eO × Int × Bool) (ku : List eO × Int × Bool → Option (List eO × Int)) : Option (List eO × Int) :=
  match s with | (qM, y98, y99) => bif decide (((y1.length : Int) : Int) ≤ y98) then iR N y1 qM i101 ku true y98 false else gz (jA (y98 + 1)) (gz (jA ((y98 + 1) - 1)) ((idx y1 ((y98 + 1) - 1)).bind fun x152 => iR N y1 qM i101 ku (decide ((x152 : Str) ≠ [102, 117, 110])) (y98 + 1) y99))
theorem vB : @j6 = @ib := by
  unfold j6 ib
  rw [vz]
def kg (N : Nat) (y1 : List Str) (a : Str) (iF : List eO) (s : Unit) : Option (List eO × Int) :=
  upto (j6 N y1) (iW N y1 a) 0 ((iF.length : Int)).toNat (iF, 0, true)
theorem vC : @kg = @ic := by
  unfold kg ic
  rw [vB]
def ko (N : Nat) (y1 : List Str) (a : Str) (iF : List eO) : Option (List eO × Int) :=
  bif (decide (((iF.length : Int) : Int) = 0) || decide ((4 : Int) < (iF.length : Int))) then some ([], 1) else upto (iX iF) (kg N y1 a iF) 0 ((iF.length : Int)).toNat ()
theorem vD : @ko = @ig := by
  unfold ko ig
  rw [vC]
def nu (N : Nat) (a : Str) : Option (List eO × Int) :=
  (JH a [32]).bind fun y1 => fT (iY y1) (ko N y1 a) 0 y1 []
theorem xH : @nu = @j4 := by
  unfold nu j4
  rw [vD]
def qf (N : Nat) : Option (List eO) :=
  (nu N [102, 117, 110, 32, 48, 32, 49, 32, 123, 32, 115, 101, 116, 32, 48, 32, 51, 32, 119, 104, 105, 108, 101, 32, 118, 48, 32, 123, 32, 115, 97, 121, 32, 102, 49, 32, 118, 48, 32, 118, 48, 32, 103, 111, 32, 118, 48, 32, 112, 97, 117, 115, 101, 32, 115, 101, 116, 32, 48, 32, 45, 32, 118, 48, 32, 49, 32, 125, 32, 125, 32, 102, 117, 110, 32, 50, 32, 50, 32, 123, 32, 114, 101, 116, 117, 114, 110, 32, 42, 32, 118, 48, 32, 118, 49, 32, 125]).bind fun y1 => some y1.1
theorem zO : @qf = @jT := by
  unfold qf jT
  rw [xH]
abbrev NN : Nat := 70000
theorem Qq : jT NN = qf NN := by rw [zO]
end
end Go.Proofs.YtfclkapelkhlpaaGreatDoor
namespace Go.Proofs.YtfclkapelkhlpaaGreatDoor
open Go Go.Proofs Go.LX
theorem Wu (a b : List Int) : slices_Equal_int a b = some (decide (a = b)) := by
  unfold slices_Equal_int
  by_cases h : a.length = b.length
  · rw [dF (by omega)]
    simp only [cond_false, Int.toNat_natCast]
    rw [O7 (fun x y => decide (x = y)) a b h rfl (fun i x y nx h1 h2 => by
      unfold mD
      rw [uj, uj, h1, h2]
      by_cases e : x = y <;> simp [e]), Oh (fun _ _ => rfl)]
  · rw [dT (by omega)]
    have : a ≠ b := fun e => h (by rw [e])
    rw [dF this]; rfl
theorem Dr (a b : Int) : (decide (a < 0) || decide (b ≤ a)) = !aY a b := by
  unfold aY; rw [Bool.eq_iff_iff]; simp; try omega
theorem VE {α : Type} (x : α) (l : List α) : idx (x :: l) 0 = some x := by simp [idx]
theorem OI {l : List Int} : l.length = 1 ↔ ∃ x, l = [x] := by
  match l with
  | [] => simp
  | [x] => simp
  | x :: y :: r => simp
def xI (i : Nat) (x : bP) : Int :=
  if (0 ≤ x.params ∧ x.params ≤ 3) ∧ (1 ≤ x.regs ∧ x.params ≤ x.regs ∧ x.regs ≤ 40) ∧ ¬ (i = 0 ∧ x.params ≠ 0) then (if 1 ≤ x.code.length ∧ x.code.length ≤ 2000 then 0 else 2) else 3
theorem Yc (i : Nat) (x : bP) (nx : Unit → Option Int) : iE (i : Int) x () nx = if xI i x ≠ 0 then some (xI i x) else nx () := by
  unfold iE xI
  by_cases h1 : (0 ≤ x.params ∧ x.params ≤ 3) ∧ (1 ≤ x.regs ∧ x.params ≤ x.regs ∧ x.regs ≤ 40) ∧ ¬ (i = 0 ∧ x.params ≠ 0)
  · have e : (((((decide ((x.params : Int) < 0) || decide ((3 : Int) < x.params)) || decide ((x.regs : Int) < 1)) || decide ((x.regs : Int) < x.params)) || decide ((40 : Int) < x.regs)) || (decide ((i : Int) = 0) && decide ((0 : Int) < x.params))) = false := by
      simp only [Bool.or_eq_false_iff, Bool.and_eq_false_iff, decide_eq_false_iff_not]; omega
    rw [e, if_pos h1]
    simp only [cond_false]
    by_cases h2 : 1 ≤ x.code.length ∧ x.code.length ≤ 2000
    · rw [if_pos h2, show (decide (((x.code.length : Int) : Int) = 0) || decide ((2000 : Int) < (x.code.length : Int))) = false by simp only [Bool.or_eq_false_iff, decide_eq_false_iff_not]; omega]
      rfl
    · rw [if_neg h2, show (decide (((x.code.length : Int) : Int) = 0) || decide ((2000 : Int) < (x.code.length : Int))) = true by simp only [Bool.or_eq_true, decide_eq_true_eq]; omega]
      rfl
  · have e : (((((decide ((x.params : Int) < 0) || decide ((3 : Int) < x.params)) || decide ((x.regs : Int) < 1)) || decide ((x.regs : Int) < x.params)) || decide ((40 : Int) < x.regs)) || (decide ((i : Int) = 0) && decide ((0 : Int) < x.params))) = true := by
      simp only [Bool.or_eq_true, Bool.and_eq_true, decide_eq_true_eq]; omega
    rw [e, if_neg h1]
    rfl
def heads : Nat → List bP → Int
  | _, [] => 0
  | i, x :: p => if xI i x ≠ 0 then xI i x else heads (i + 1) p
theorem Hg (k : Unit → Option Int) : ∀ (p : List bP) (i : Nat), fT iE k (i : Int) p () = if heads i p ≠ 0 then some (heads i p) else k ()
  | [], i => by simp [heads, fT]
  | x :: p, i => by
    show iE (i : Int) x () (fT iE k ((i : Int) + 1) p) = _
    rw [Yc, show ((i : Int) + 1) = ((i + 1 : Nat) : Int) by omega, Hg k p (i + 1), heads]
    by_cases h : xI i x = 0 <;> simp [h]
end Go.Proofs.YtfclkapelkhlpaaGreatDoor
namespace Go.Proofs.YtfclkapelkhlpaaGreatDoor
open Go Go.Proofs Go.LX
def oV (x : bP) : Prop := 1 ≤ x.code.length ∧ x.code.length ≤ 2000
theorem dO {α σ ρ : Type} {body : α → σ → (σ → ρ) → ρ} {k : σ → ρ} (x : α) (l : List α) (s : σ) : each body k (x :: l) s = body x s (each body k l) := rfl
theorem gU {α σ ρ : Type} {body : α → σ → (σ → ρ) → ρ} {k : σ → ρ} (s : σ) : each body k [] s = k s := rfl
theorem TI (d : Int) : ∀ l : List Int, ∃ y, each (mg d) qR l () = some y
  | [] => ⟨0, rfl⟩
  | x :: l => by
    obtain ⟨y, hy⟩ := TI d l
    rw [dO]
    unfold mg
    cases (!(decide ((0 : Int) ≤ x) && decide ((x : Int) < d))) with
    | true => exact ⟨3, rfl⟩
    | false => exact ⟨y, hy⟩
theorem TJ (x9 : Bool) (a : Ins) (b Cb : Int) (c : List bP) (y13 zL d QQ : Int) : ∃ y, dR x9 a b Cb c y13 zL d QQ = some y ∧ (y = 0 → (a.args.length : Int) = zL) := by
  unfold dR
  cases x9 with
  | false => exact ⟨3, rfl, fun h => absurd h (by decide)⟩
  | true =>
    simp only [Bool.not_true, cond_false]
    generalize hc : (((decide ((a.a : Int) ≠ QQ) || decide ((a.b : Int) ≠ Cb)) || decide ((a.c : Int) ≠ y13)) || decide (((a.args.length : Int) : Int) ≠ zL)) = C
    cases C with
    | true => exact ⟨4, rfl, fun h => absurd h (by decide)⟩
    | false =>
      simp only [Bool.or_eq_false_iff, decide_eq_false_iff_not, Decidable.not_not] at hc
      simp only [cond_false]
      cases decide ((a.op : Int) = 7) with
      | true => obtain ⟨y, hy⟩ := TI d a.args; exact ⟨y, hy, fun _ => hc.2⟩
      | false => exact ⟨0, rfl, fun _ => hc.2⟩
theorem Yd (a : Ins) (b : Int) (c : List bP) (d : Int) (x9 : Bool) (zL PT Cb y13 : Int) : ∃ y, bZ a b c d x9 zL PT Cb y13 = some y ∧ (y = 0 → (a.args.length : Int) = zL) := by
  unfold bZ
  cases decide ((a.op : Int) = 12) with
  | true => exact TJ x9 a b Cb c y13 zL d 0
  | false => exact TJ x9 a b Cb c y13 zL d PT
def Ky (a : Ins) (r : Option Int) : Prop := ∃ y, r = some y ∧ (y = 0 → a.args.length ≤ 3)
theorem Io (a : Ins) (b : Int) (c : List bP) (d : Int) (x9 : Bool) {zL : Int} (PT Cb y13 : Int) (h : zL ≤ 3) : Ky a (bZ a b c d x9 zL PT Cb y13) := by
  obtain ⟨y, h1, h2⟩ := Yd a b c d x9 zL PT Cb y13
  exact ⟨y, h1, fun h0 => by have := h2 h0; omega⟩
theorem ow {a : Ins} {c : Bool} {x y : Option Int} (h1 : Ky a x) (h2 : Ky a y) : Ky a (bif c then x else y) := by
  cases c
  · exact h2
  · exact h1
theorem Hl {a : Ins} {e : Int} (h : e ≠ 0) : Ky a (some e) := ⟨e, rfl, fun h0 => absurd h0 h⟩
theorem Qr (a : Ins) (b : Int) (c : List bP) (d e : Int) (hp : ∀ x ∈ c, x.params ≤ 3) : Ky a (gF a b c d e) := by
  unfold gF
  refine ow (Hl (by decide)) (ow (Hl (by decide)) (ow (Io _ _ _ _ _ _ _ _ (by decide)) (ow (Io _ _ _ _ _ _ _ _ (by decide)) ?_)))
  have k12 : ∀ x, Ky a (dx a b c d x) := fun x => by
    unfold dx
    exact ow (Io _ _ _ _ _ _ _ _ (by decide)) (ow (Io _ _ _ _ _ _ _ _ (by decide)) (Io _ _ _ _ _ _ _ _ (by decide)))
  have k11 : ∀ x, Ky a (dE a b c d e x) := fun x => by
    unfold dE
    refine ow (Io _ _ _ _ _ _ _ _ (by decide)) ?_
    cases decide ((a.op : Int) = 7) with
    | false =>
      rw [cond_false]
      exact ow (k12 _) (ow (k12 _) (k12 _))
    | true =>
      simp only [cond_true]
      rw [Dr]
      cases hb : aY a.b (c.length : Int) with
      | false => exact Hl (by decide)
      | true =>
        simp only [Bool.not_true, cond_false]
        unfold aY at hb
        simp only [Bool.and_eq_true, decide_eq_true_eq] at hb
        obtain ⟨n, hn⟩ := Int.eq_ofNat_of_zero_le hb.1
        rw [hn, xq (by omega), Option.bind_some]
        exact Io _ _ _ _ _ _ _ _ (hp _ (List.getElem_mem _))
  have k10 : ∀ x, Ky a (dG a b c d e x) := fun x => by
    unfold dG
    refine ow (Io _ _ _ _ _ _ _ _ (by decide)) ?_
    cases decide ((a.op : Int) = 3) with
    | false =>
      rw [cond_false]
      exact ow (k11 _) (k11 _)
    | true =>
      simp only [cond_true]
      by_cases h1 : a.args.length = 1
      · rw [dT (show ((a.args.length : Int) : Int) = 1 by omega)]
        obtain ⟨y, hy⟩ := OI.1 h1
        simp only [cond_true]
        rw [show idx a.args 0 = some y by rw [hy, VE], Option.bind_some]
        exact Io _ _ _ _ _ _ _ _ (by decide)
      · rw [dF (show ¬ ((a.args.length : Int) : Int) = 1 by omega)]
        exact Io _ _ _ _ _ _ _ _ (by decide)
  exact ow (k10 _) (k10 _)
def Good (a : List bP) : Prop := a.length ≤ 4 ∧ ∀ x ∈ a, oV x ∧ ∀ c ∈ x.code, c.args.length ≤ 3
theorem LK {i : Nat} {x : bP} (h : xI i x = 0) : x.params ≤ 3 ∧ oV x := by
  unfold xI at h
  split at h
  · split at h
    · exact ⟨by omega, by unfold oV; omega⟩
    · cases h
  · cases h
theorem Hm : ∀ (p : List bP) (i : Nat), heads i p = 0 → ∀ x ∈ p, x.params ≤ 3 ∧ oV x
  | [], _, _, x, hx => by cases hx
  | y :: p, i, h, x, hx => by
    unfold heads at h
    split at h
    · rename_i h1; exact absurd h h1
    · rename_i h1
      rcases List.mem_cons.1 hx with rfl | hx
      · exact LK (Decidable.not_not.1 h1)
      · exact Hm p (i + 1) h x hx
theorem OJ (a : List bP) (x : bP) (k : Unit → Option Int) (hp : ∀ x ∈ a, x.params ≤ 3) (Q : Prop) (hk : ∃ y, k () = some y ∧ (y = 0 → Q)) : ∀ (l : List Ins) (i : Int), ∃ y, fT (fI a x) k i l () = some y ∧ (y = 0 → Q ∧ ∀ c ∈ l, c.args.length ≤ 3)
  | [], i => by
    obtain ⟨y, h1, h2⟩ := hk
    exact ⟨y, h1, fun h => ⟨h2 h, by intro c hc; cases hc⟩⟩
  | c :: l, i => by
    obtain ⟨y, h1, h2⟩ := OJ a x k hp Q hk l (i + 1)
    have e1 : fT (fI a x) k i (c :: l) () = fI a x i c () (fT (fI a x) k (i + 1) l) := rfl
    rw [e1]
    unfold fI
    obtain ⟨z, g1, g2⟩ := Qr c i a x.regs (x.code.length : Int) hp
    rw [g1, Option.bind_some]
    by_cases hz : z = 0
    · rw [dF (by omega), cond_false]
      refine ⟨y, h1, fun h => ⟨(h2 h).1, fun d hd => ?_⟩⟩
      rcases List.mem_cons.1 hd with rfl | hd
      · exact g2 hz
      · exact (h2 h).2 d hd
    · rw [dT hz, cond_true]
      exact ⟨z, rfl, fun h => absurd h hz⟩
theorem OL (a : List bP) (hp : ∀ x ∈ a, x.params ≤ 3 ∧ oV x) : ∀ l : List bP, (∀ x ∈ l, x.params ≤ 3 ∧ oV x) → ∃ y, each (jC a) mM l () = some y ∧ (y = 0 → ∀ x ∈ l, ∀ c ∈ x.code, c.args.length ≤ 3)
  | [], _ => ⟨0, rfl, fun _ x hx => by cases hx⟩
  | x :: l, hl => by
    obtain ⟨y, h1, h2⟩ := OL a hp l (fun z hz => hl z (List.mem_cons_of_mem _ hz))
    rw [dO]
    unfold jC
    have hx := hl x (by simp)
    obtain ⟨z, g1, g2⟩ := OJ a x (mK x (each (jC a) mM l)) (fun x hx => (hp x hx).1) (∀ x ∈ l, ∀ c ∈ x.code, c.args.length ≤ 3) (by
      unfold mK
      have h3 := hx.2
      unfold oV at h3
      rw [gI, show ((x.code.length : Int) - 1) = ((x.code.length - 1 : Nat) : Int) by omega, xq (by omega), Option.bind_some]
      cases (decide ((x.code[x.code.length - 1].op : Int) ≠ 8) && decide ((x.code[x.code.length - 1].op : Int) ≠ 12)) with
      | true => exact ⟨4, rfl, fun h => absurd h (by decide)⟩
      | false => exact ⟨y, h1, h2⟩) x.code 0
    refine ⟨z, g1, fun h => ?_⟩
    intro w hw
    rcases List.mem_cons.1 hw with rfl | hw
    · exact (g2 h).2
    · exact (g2 h).1 w hw
theorem Qs (a : List bP) : ∃ y, pQ a = some y ∧ (y = 0 → Good a) := by
  unfold pQ
  generalize hc : (decide (((a.length : Int) : Int) = 0) || decide ((4 : Int) < (a.length : Int))) = C
  cases C with
  | true => exact ⟨2, rfl, fun h => absurd h (by decide)⟩
  | false =>
    simp only [Bool.or_eq_false_iff, decide_eq_false_iff_not] at hc
    have h1 : fT iE (lg a) 0 a () = _ := Hg (lg a) a 0
    rw [cond_false, h1]
    by_cases hz : heads 0 a = 0
    · rw [if_neg (by omega)]
      have hp := Hm a 0 hz
      obtain ⟨y, g1, g2⟩ := OL a hp a hp
      exact ⟨y, g1, fun h => ⟨by omega, fun x hx => ⟨(hp x hx).2, g2 h x hx⟩⟩⟩
    · rw [if_pos hz]
      exact ⟨_, rfl, fun h => absurd h hz⟩
def Jk (a : List bP) : Int := (pQ a).getD 0
theorem NJ (a : List bP) : pQ a = some (Jk a) := by
  obtain ⟨y, h, _⟩ := Qs a
  unfold Jk
  rw [h]; rfl
def wO (R x : Int) : Prop := 0 ≤ x ∧ x < R
def zP (a : List bP) (R L : Int) (c : Ins) : Prop :=
  (c.op = 1 ∧ wO R c.a ∧ (-1000000000 ≤ c.b ∧ c.b ≤ 1000000000)) ∨
  (c.op = 2 ∧ wO R c.a ∧ wO R c.b) ∨
  (c.op = 3 ∧ wO R c.a ∧ wO R c.b ∧ wO R c.c ∧ ∃ n, c.args = [n] ∧ 1 ≤ n ∧ n ≤ 5) ∨
  ((c.op = 4 ∨ c.op = 6) ∧ wO R c.a ∧ wO R c.b ∧ (0 ≤ c.c ∧ c.c < 4)) ∨
  (c.op = 5 ∧ wO R c.a ∧ (1 ≤ c.b ∧ c.b ≤ 4)) ∨
  (c.op = 7 ∧ wO R c.a ∧ (∃ p, idx a c.b = some p ∧ (c.args.length : Int) = p.params) ∧ ∀ x ∈ c.args, wO R x) ∨
  ((c.op = 8 ∨ c.op = 9 ∨ c.op = 11) ∧ wO R c.a) ∨
  c.op = 10 ∨
  (c.op = 12 ∧ (0 ≤ c.b ∧ c.b < L)) ∨
  (c.op = 13 ∧ wO R c.a ∧ (0 ≤ c.b ∧ c.b < L))
theorem OM (R : Int) : ∀ l : List Int, each (mg R) qR l () = some 0 → ∀ x ∈ l, wO R x
  | [], _, x, hx => by cases hx
  | y :: l, h, x, hx => by
    rw [dO] at h
    unfold mg at h
    cases e : (!(decide ((0 : Int) ≤ y) && decide ((y : Int) < R))) with
    | true => rw [e, cond_true] at h; cases h
    | false =>
      rw [e, cond_false] at h
      rcases List.mem_cons.1 hx with rfl | hx
      · simp at e; exact e
      · exact OM R l h x hx
theorem VF {c : Ins} {i : Int} {a : List bP} {R L : Int} (h : gF c i a R L = some 0) : zP a R L c := by
  obtain ⟨op, ca, cb, cc, args⟩ := c
  by_cases h1 : op = 1
  · subst h1
    simp [gF, bM, dJ, eX, fE, dX, bZ, dR, dG, dE, dx, Bool.cond_eq_ite] at h
    simp [zP, wO]
    (repeat (split at h; · simp at h))
    omega
  by_cases h2 : op = 2
  · subst h2
    simp [gF, bM, dJ, eX, fE, dX, bZ, dR, dG, dE, dx, Bool.cond_eq_ite] at h
    simp [zP, wO]
    (repeat (split at h; · simp at h))
    omega
  by_cases h3 : op = 3
  · subst h3
    simp [gF, bM, dJ, eX, fE, dX, bZ, dR, dG, dE, dx, Bool.cond_eq_ite] at h
    simp [zP, wO]
    by_cases hl : args.length = 1
    · obtain ⟨y, rfl⟩ := OI.1 hl
      simp [VE] at h
      split at h
      · simp at h
      split at h
      · simp at h
      refine ⟨by omega, by omega, by omega, y, rfl, by omega, by omega⟩
    · exfalso
      rw [if_neg (show ¬ ((args.length : Int) = 1) by omega)] at h
      split at h <;> simp at h
  by_cases h4 : op = 4
  · subst h4
    simp [gF, bM, dJ, eX, fE, dX, bZ, dR, dG, dE, dx, Bool.cond_eq_ite] at h
    simp [zP, wO]
    (repeat (split at h; · simp at h))
    omega
  by_cases h5 : op = 5
  · subst h5
    simp [gF, bM, dJ, eX, fE, dX, bZ, dR, dG, dE, dx, Bool.cond_eq_ite] at h
    simp [zP, wO]
    (repeat (split at h; · simp at h))
    omega
  by_cases h6 : op = 6
  · subst h6
    simp [gF, bM, dJ, eX, fE, dX, bZ, dR, dG, dE, dx, Bool.cond_eq_ite] at h
    simp [zP, wO]
    (repeat (split at h; · simp at h))
    omega
  by_cases h7 : op = 7
  · subst h7
    simp [gF, bM, dJ, eX, fE, dX, bZ, dR, dG, dE, dx, Bool.cond_eq_ite] at h
    simp [zP, wO]
    split at h
    · simp at h
    split at h
    · simp at h
    obtain ⟨p, hp, h⟩ := aQ h
    (repeat (split at h; · simp at h))
    refine ⟨by omega, ⟨p, hp, by omega⟩, fun x hx => OM R args h x hx⟩
  by_cases h8 : op = 8
  · subst h8
    simp [gF, bM, dJ, eX, fE, dX, bZ, dR, dG, dE, dx, Bool.cond_eq_ite] at h
    simp [zP, wO]
    (repeat (split at h; · simp at h))
    omega
  by_cases h9 : op = 9
  · subst h9
    simp [gF, bM, dJ, eX, fE, dX, bZ, dR, dG, dE, dx, Bool.cond_eq_ite] at h
    simp [zP, wO]
    (repeat (split at h; · simp at h))
    omega
  by_cases h10 : op = 10
  · subst h10
    simp [zP, wO]
  by_cases h11 : op = 11
  · subst h11
    simp [gF, bM, dJ, eX, fE, dX, bZ, dR, dG, dE, dx, Bool.cond_eq_ite] at h
    simp [zP, wO]
    (repeat (split at h; · simp at h))
    omega
  by_cases h12 : op = 12
  · subst h12
    simp [gF, bM, dJ, eX, fE, dX, bZ, dR, dG, dE, dx, Bool.cond_eq_ite] at h
    simp [zP, wO]
    (repeat (split at h; · simp at h))
    omega
  by_cases h13 : op = 13
  · subst h13
    simp [gF, bM, dJ, eX, fE, dX, bZ, dR, dG, dE, dx, Bool.cond_eq_ite] at h
    simp [zP, wO]
    (repeat (split at h; · simp at h))
    omega
  · exfalso
    simp [gF, bM, dJ, eX, fE, dX, bZ, dR, dG, dE, dx, Bool.cond_eq_ite, *] at h
structure mh (a : List bP) : Prop where
  many : 1 ≤ a.length ∧ a.length ≤ 4
  head : ∀ (i : Nat) x, a[i]? = some x → (0 ≤ x.params ∧ x.params ≤ 3) ∧ (1 ≤ x.regs ∧ x.params ≤ x.regs ∧ x.regs ≤ 40) ∧ ¬ (i = 0 ∧ x.params ≠ 0) ∧ oV x
  last : ∀ x ∈ a, ∃ c, idx x.code ((x.code.length : Int) - 1) = some c ∧ (c.op = 8 ∨ c.op = 12)
  ins : ∀ x ∈ a, ∀ c ∈ x.code, zP a x.regs x.code.length c
theorem Jl : ∀ (p : List bP) (j : Nat), heads j p = 0 → ∀ (i : Nat) x, p[i]? = some x → xI (j + i) x = 0
  | [], j, _, i, x, hx => by simp at hx
  | y :: p, j, h, i, x, hx => by
    unfold heads at h
    split at h
    · rename_i h1; exact absurd h h1
    · rename_i h1
      cases i with
      | zero => simp at hx; subst hx; exact Decidable.not_not.1 h1
      | succ i => rw [show j + (i + 1) = (j + 1) + i by omega]; exact Jl p (j + 1) h i x (by simpa using hx)
theorem OO (a : List bP) (x : bP) (k : Unit → Option Int) : ∀ (l : List Ins) (i : Int), fT (fI a x) k i l () = some 0 → k () = some 0 ∧ ∀ c ∈ l, zP a x.regs x.code.length c
  | [], i, h => ⟨h, fun c hc => by cases hc⟩
  | y :: l, i, h => by
    have e1 : fT (fI a x) k i (y :: l) () = fI a x i y () (fT (fI a x) k (i + 1) l) := rfl
    rw [e1] at h
    unfold fI at h
    obtain ⟨z, hz, h⟩ := aQ h
    by_cases z0 : z = 0
    · subst z0
      rw [dF (by simp), cond_false] at h
      obtain ⟨h1, h2⟩ := OO a x k l (i + 1) h
      refine ⟨h1, fun c hc => ?_⟩
      rcases List.mem_cons.1 hc with rfl | hc
      · exact VF hz
      · exact h2 c hc
    · rw [dT z0, cond_true] at h
      exact absurd (Option.some.inj h) z0
theorem OP (a : List bP) : ∀ l : List bP, each (jC a) mM l () = some 0 → ∀ x ∈ l, (∃ c, idx x.code ((x.code.length : Int) - 1) = some c ∧ (c.op = 8 ∨ c.op = 12)) ∧ ∀ c ∈ x.code, zP a x.regs x.code.length c
  | [], _, x, hx => by cases hx
  | y :: l, h, x, hx => by
    rw [dO] at h
    unfold jC at h
    obtain ⟨h1, h2⟩ := OO a y _ y.code 0 h
    unfold mK at h1
    obtain ⟨_, h1⟩ := bG h1
    obtain ⟨c, hc, h1⟩ := aQ h1
    cases e : (decide ((c.op : Int) ≠ 8) && decide ((c.op : Int) ≠ 12)) with
    | true => rw [e, cond_true] at h1; cases h1
    | false =>
      rw [e, cond_false] at h1
      rcases List.mem_cons.1 hx with rfl | hx
      · exact ⟨⟨c, hc, by simp only [Bool.and_eq_false_iff, decide_eq_false_iff_not, Decidable.not_not] at e; exact e⟩, h2⟩
      · exact OP a l h1 x hx
theorem yL {a : List bP} (h : Jk a = 0) : mh a := by
  have h0 := NJ a
  rw [h] at h0
  unfold pQ at h0
  generalize hc : (decide (((a.length : Int) : Int) = 0) || decide ((4 : Int) < (a.length : Int))) = C at h0
  cases C with
  | true => cases h0
  | false =>
    simp only [Bool.or_eq_false_iff, decide_eq_false_iff_not] at hc
    have h1 : fT iE (lg a) 0 a () = _ := Hg (lg a) a 0
    rw [cond_false, h1] at h0
    by_cases hz : heads 0 a = 0
    · rw [if_neg (by omega)] at h0
      have hb := OP a a h0
      refine ⟨by omega, fun i x hx => ?_, fun x hx => (hb x hx).1, fun x hx => (hb x hx).2⟩
      have := Jl a 0 hz i x hx
      rw [Nat.zero_add] at this
      unfold xI at this
      split at this
      · rename_i g
        split at this
        · rename_i g2; exact ⟨g.1, g.2.1, g.2.2, g2⟩
        · cases this
      · cases this
    · rw [if_pos hz] at h0
      exact absurd (Option.some.inj h0) hz
end Go.Proofs.YtfclkapelkhlpaaGreatDoor
namespace Go.Proofs.YtfclkapelkhlpaaGreatDoor
open Go Go.Proofs Go.LX
theorem jr {α σ ρ : Type} {body : Int → α → σ → (σ → ρ) → ρ} {k : σ → ρ} (i : Int) (x : α) (l : List α) (s : σ) : fT body k i (x :: l) s = body i x s (fT body k (i + 1) l) := rfl
theorem Jm {σ ρ : Type} {body : Int → σ → (σ → ρ) → ρ} {k : σ → ρ} (i : Int) (m : Nat) (s : σ) : upto body k i (m + 1) s = body i s (upto body k (i + 1) m) := rfl
theorem Dt {σ β : Type} {body : σ → (σ → Option β) → Option β} {m : Nat} {s : σ} : again body (m + 1) s = body s (again body m) := rfl
def gJ (n : Nat) (v : Val) : Prop := (v.kind = 0 ∧ v.n = 0) ∨ (v.kind = 1 ∧ -1000000000 ≤ v.n ∧ v.n ≤ 1000000000) ∨ (v.kind = 2 ∧ 0 ≤ v.n ∧ v.n < n)
instance (n : Nat) (v : Val) : Decidable (gJ n v) := inferInstanceAs (Decidable (_ ∨ _))
theorem Az (n : Nat) (v : Val) : cB v (n : Int) = 0 ↔ gJ n v := by
  obtain ⟨k, m⟩ := v
  simp only [cB, gJ, Bool.cond_eq_ite, Bool.or_eq_true, decide_eq_true_eq]
  constructor
  · intro h
    (repeat' split at h) <;> first | omega | (exfalso; omega)
  · intro h
    rcases h with ⟨h1, h2⟩ | ⟨h1, h2⟩ | ⟨h1, h2⟩
    · rw [if_pos h1, if_neg (by omega)]
    · rw [if_neg (by omega), if_pos h1, if_neg (by omega)]
    · rw [if_neg (by omega), if_neg (by omega), if_pos h1, if_neg (by omega)]
theorem LM (v : Val) (n : Int) : dK v n = cB v n := by
  obtain ⟨k, m⟩ := v
  simp only [cB, dK, lU, bB, eP, aY, Bool.cond_eq_ite, Bool.or_eq_true, Bool.and_eq_true, Bool.not_eq_true', decide_eq_true_eq, decide_eq_false_iff_not, Bool.and_eq_false_iff]
  (repeat' split) <;> first | rfl | (exfalso; omega)
def mE (l : List (List Val)) : Prop := l.length ≤ 24 ∧ ∀ c ∈ l, (1 ≤ c.length ∧ c.length ≤ 4) ∧ ∀ v ∈ c, gJ l.length v
theorem LP (a : List (List Val)) : j5 a = dB a := by
  unfold j5 dB
  have k1 : ∀ (l : List Val) (f : Unit → Int), each (iZ a) (ja f) l () = each (gG a) (fO f) l () := by
    intro l f
    induction l with
    | nil => rfl
    | cons x l ih =>
      show (bif decide ((dK x (a.length : Int) : Int) ≠ 0) then dK x (a.length : Int) else each (iZ a) (ja f) l ()) = (bif decide ((cB x (a.length : Int) : Int) ≠ 0) then cB x (a.length : Int) else each (gG a) (fO f) l ())
      rw [LM, ih]
  have k2 : ∀ l : List (List Val), each (jb a) jc l () = each (iC a) gH l () := by
    intro l
    induction l with
    | nil => rfl
    | cons x l ih =>
      show (bif (!(bB (x.length : Int) 1 4)) then 2 else each (iZ a) (ja (each (jb a) jc l)) x ()) = (bif (decide (((x.length : Int) : Int) = 0) || decide ((4 : Int) < (x.length : Int))) then 2 else each (gG a) (fO (each (iC a) gH l)) x ())
      have e : (!(bB (x.length : Int) 1 4)) = (decide (((x.length : Int) : Int) = 0) || decide ((4 : Int) < (x.length : Int))) := by
        unfold bB; rw [Bool.eq_iff_iff]; simp only [Bool.or_eq_true, Bool.not_eq_true', Bool.and_eq_false_iff, decide_eq_true_eq, decide_eq_false_iff_not]; omega
      rw [e, k1]
      have : each (jb a) jc l = each (iC a) gH l := by funext u; exact ih
      rw [this]
  rw [k2]
theorem NK (a : List (List Val)) : dB a = 0 ↔ mE a := by
  have k1 : ∀ (l : List Val) (f : Unit → Int), each (gG a) (fO f) l () = 0 ↔ (∀ v ∈ l, gJ a.length v) ∧ f () = 0 := by
    intro l f
    induction l with
    | nil => simp [gU, fO]
    | cons x l ih =>
      show (bif decide ((cB x (a.length : Int) : Int) ≠ 0) then cB x (a.length : Int) else each (gG a) (fO f) l ()) = 0 ↔ _
      by_cases h : cB x (a.length : Int) = 0
      · rw [dF (by omega), cond_false, ih]
        have := (Az _ _).1 h
        simp [this]
      · rw [dT h, cond_true]
        have h2 : ¬ gJ a.length x := fun e => h ((Az _ _).2 e)
        simp [h, h2]
  have k2 : ∀ l : List (List Val), each (iC a) gH l () = 0 ↔ ∀ c ∈ l, (1 ≤ c.length ∧ c.length ≤ 4) ∧ ∀ v ∈ c, gJ a.length v := by
    intro l
    induction l with
    | nil => simp [gU, gH]
    | cons x l ih =>
      show (bif (decide (((x.length : Int) : Int) = 0) || decide ((4 : Int) < (x.length : Int))) then 2 else each (gG a) (fO (each (iC a) gH l)) x ()) = 0 ↔ _
      by_cases h : 1 ≤ x.length ∧ x.length ≤ 4
      · rw [show (decide (((x.length : Int) : Int) = 0) || decide ((4 : Int) < (x.length : Int))) = false by simp only [Bool.or_eq_false_iff, decide_eq_false_iff_not]; omega, cond_false, k1, ih]
        simp [h]
      · rw [show (decide (((x.length : Int) : Int) = 0) || decide ((4 : Int) < (x.length : Int))) = true by simp only [Bool.or_eq_true, decide_eq_true_eq]; omega, cond_true]
        simp [h]
  unfold dB mE
  by_cases h : a.length ≤ 24
  · rw [dF (by omega), cond_false, k2]; simp [h]
  · rw [dT (by omega), cond_true]; simp [h]
structure xJ (a : List bP) (n : Nat) (f : LX.Frame) (x : bP) : Prop where
  proc : idx a f.proc = some x
  at_ : 0 ≤ f.at_ ∧ f.at_ < x.code.length
  regs : (f.regs.length : Int) = x.regs
  vals : ∀ v ∈ f.regs, gJ n v
def jd (a : List bP) (n : Nat) : Int → List LX.Frame → Prop
  | _, [] => True
  | ahead, f :: l => (∃ x, xJ a n f x) ∧ (0 ≤ f.qY ∧ f.qY < ahead) ∧ jd a n f.regs.length l
structure rY (a : List bP) (s : LX.State) : Prop where
  status : 0 ≤ s.status ∧ s.status ≤ 3
  aW : -1000000000 ≤ s.aW ∧ s.aW ≤ 1000000000
  stay : s.status ≠ 3 → s.aW = 0
  ended : s.status = 1 ↔ s.frames = []
  many : s.frames.length ≤ 10
  cells : mE s.cells
  frames : jd a s.cells.length 1 s.frames
end Go.Proofs.YtfclkapelkhlpaaGreatDoor
namespace Go.Proofs.YtfclkapelkhlpaaGreatDoor
open Go Go.Proofs Go.LX
def ahead (pre : List LX.Frame) : Int := match pre.getLast? with | none => 1 | some f => f.regs.length
theorem Jn : ahead [] = 1 := rfl
theorem Cv (pre : List LX.Frame) (f : LX.Frame) : ahead (pre ++ [f]) = f.regs.length := by simp [ahead]
theorem ER (b : LX.State) (f : LX.Frame) (n1 : Unit → Option Int) (n2 : Int → Option Int) (hn : n1 () = n2 f.regs.length) : ∀ l : List Val, each (l6 b) (l7 n1) l () = each (lv b) (lC n2 f) l ()
  | [] => hn
  | x :: l => by
    show (bif decide ((cB x (b.cells.length : Int) : Int) ≠ 0) then some (cB x (b.cells.length : Int)) else each (l6 b) (l7 n1) l ()) = (bif decide ((dK x (b.cells.length : Int) : Int) ≠ 0) then some (dK x (b.cells.length : Int)) else each (lv b) (lC n2 f) l ())
    rw [LM, ER b f n1 n2 hn l]
theorem LQ (b : LX.State) (n1 : Unit → Option Int) (Q : Prop) (hn : ∃ y, n1 () = some y ∧ (y = 0 ↔ Q)) : ∀ l : List Val, ∃ y, each (l6 b) (l7 n1) l () = some y ∧ (y = 0 ↔ (∀ v ∈ l, gJ b.cells.length v) ∧ Q)
  | [] => by obtain ⟨y, h1, h2⟩ := hn; exact ⟨y, h1, by simp [h2]⟩
  | x :: l => by
    obtain ⟨y, h1, h2⟩ := LQ b n1 Q hn l
    have e : each (l6 b) (l7 n1) (x :: l) () = (bif decide ((cB x (b.cells.length : Int) : Int) ≠ 0) then some (cB x (b.cells.length : Int)) else each (l6 b) (l7 n1) l ()) := rfl
    rw [e]
    by_cases h : cB x (b.cells.length : Int) = 0
    · rw [dF (by omega), cond_false]
      have := (Az _ _).1 h
      exact ⟨y, h1, by rw [h2]; simp [this]⟩
    · rw [dT h, cond_true]
      refine ⟨_, rfl, ?_⟩
      have h3 : ¬ gJ b.cells.length x := fun e => h ((Az _ _).2 e)
      simp [h, h3]
theorem Fp (a : List bP) (b : LX.State) (hm : b.frames.length ≤ 10) : ∀ (l pre : List LX.Frame), b.frames = pre ++ l →
    fT (qz a b) sW (pre.length : Int) l () = each (eu a b) ik l (ahead pre)
  | [], pre, h => rfl
  | f :: l, pre, h => by
    have ih := Fp a b hm l (pre ++ [f]) (by simpa using h)
    rw [Cv] at ih
    have hi : (((pre ++ [f]).length : Nat) : Int) = (pre.length : Int) + 1 := by simp
    rw [hi] at ih
    rw [jr, dO]
    generalize fT (qz a b) sW ((pre.length : Int) + 1) l = K1 at ih ⊢
    generalize each (eu a b) ik l = K2 at ih ⊢
    unfold qz eu
    have hl : pre.length ≤ 10 := by have := congrArg List.length h; simp at this; omega
    have e1 : (decide ((f.proc : Int) < 0) || decide (((a.length : Int) : Int) ≤ f.proc)) = !aY f.proc (a.length : Int) := Dr _ _
    rw [e1]
    cases hp : aY f.proc (a.length : Int) with
    | false => rfl
    | true =>
      simp only [Bool.not_true, cond_false]
      cases hx : idx a f.proc with
      | none => rfl
      | some x =>
        simp only [bnd]
        cases ha : aY f.at_ (x.code.length : Int) with
        | false =>
          rw [show (((decide ((f.at_ : Int) < 0) || decide (((x.code.length : Int) : Int) ≤ f.at_)) || decide ((f.qY : Int) < 0)) || (decide ((pre.length : Int) = 0) && decide ((f.qY : Int) ≠ 0))) = true by
            have := Dr f.at_ (x.code.length : Int)
            rw [ha] at this
            rw [this]; rfl]
          rfl
        | true =>
          have h3 := Dr f.at_ (x.code.length : Int)
          rw [ha] at h3
          rw [h3]
          simp only [Bool.not_true, Bool.false_or, cond_false]
          have key : ∀ t, qy f x b K1 t = fK a f b K2 t := by
            intro t
            unfold qy fK
            rw [hx, bnd, ER b f _ _ ih]
          simp only [key]
          rcases List.eq_nil_or_concat pre with rfl | ⟨q, g, rfl⟩
          · rw [Jn]
            by_cases ht : f.qY = 0
            · rw [show (decide ((f.qY : Int) < 0) || (decide ((([] : List LX.Frame).length : Int) = 0) && decide ((f.qY : Int) ≠ 0))) = false by simp [ht], cond_false, dF (by simp), cond_false, show (!aY f.qY 1) = false by simp [ht, aY]]
            · rw [show (decide ((f.qY : Int) < 0) || (decide ((([] : List LX.Frame).length : Int) = 0) && decide ((f.qY : Int) ≠ 0))) = true by simp [ht], cond_true, show (!aY f.qY 1) = true by simp [aY]; omega]
          · rw [List.concat_eq_append] at *
            rw [Cv]
            have hlen : ((q ++ [g]).length : Int) = (q.length : Int) + 1 := by simp
            rw [hlen, show (decide ((q.length : Int) + 1 = 0)) = false from dF (by omega), Bool.false_and, Bool.or_false]
            by_cases ht : f.qY < 0
            · rw [dT ht, cond_true, show (!aY f.qY (g.regs.length : Int)) = true by simp [aY]; omega]
            · rw [dF ht, cond_false, dT (by omega), cond_true, gI (by omega) (by simp at hl; omega), show (q.length : Int) + 1 - 1 = ((q.length : Nat) : Int) by omega, uj, h]
              simp only [List.append_assoc, List.getElem?_append_right (Nat.le_refl _), Nat.sub_self, List.cons_append, List.nil_append, List.getElem?_cons_zero, bnd]
              congr 1
              rw [Bool.eq_iff_iff]; simp [aY]; omega
theorem Ho (a : List bP) (b : LX.State) : wI a b = nX a b := by
  unfold wI nX
  have e1 : (((decide ((b.status : Int) < 0) || decide ((3 : Int) < b.status)) || decide ((b.aW : Int) < -1000000000)) || decide ((1000000000 : Int) < b.aW)) = ((!(bB b.status 0 3)) || (!(eP b.aW))) := by
    unfold eP bB; rw [Bool.eq_iff_iff]; simp only [Bool.or_eq_true, Bool.not_eq_true', Bool.and_eq_false_iff, decide_eq_true_eq, decide_eq_false_iff_not]; omega
  have e2 : ((decide ((b.status : Int) ≠ 3) && decide ((b.aW : Int) ≠ 0)) || (decide ((b.status : Int) = 1) != decide (((b.frames.length : Int) : Int) = 0))) = (((decide ((b.aW : Int) ≠ 0) && decide ((b.status : Int) ≠ 3)) || (decide ((b.status : Int) = 1) && decide ((0 : Int) < (b.frames.length : Int)))) || (decide ((b.status : Int) ≠ 1) && decide (((b.frames.length : Int) : Int) = 0))) := by
    by_cases h1 : b.status = 1 <;> by_cases h2 : b.frames.length = 0 <;> by_cases h3 : b.status = 3 <;> by_cases h4 : b.aW = 0 <;> simp [h1, h2, h3, h4] <;> omega
  rw [e1, e2, LP]
  by_cases h : b.frames.length ≤ 10
  · have := Fp a b h b.frames [] rfl
    rw [Jn] at this
    rw [← this]; rfl
  · rw [show (decide ((10 : Int) < (b.frames.length : Int))) = true from dT (by omega)]
    rfl
theorem Hq (a : List bP) (b : LX.State) : ∀ (l : List LX.Frame) (t : Int), ∃ y, each (eu a b) ik l t = some y ∧ (y = 0 ↔ jd a b.cells.length t l)
  | [], t => ⟨0, rfl, by simp [jd]⟩
  | f :: l, t => by
    obtain ⟨y, h1, h2⟩ := Hq a b l f.regs.length
    rw [dO]
    generalize each (eu a b) ik l = K2 at h1 ⊢
    unfold eu
    cases hp : aY f.proc (a.length : Int) with
    | false =>
      refine ⟨5, rfl, ?_⟩
      have : ¬ jd a b.cells.length t (f :: l) := by
        rintro ⟨⟨x, g⟩, -, -⟩
        have := aJ g.proc
        have h3 := (List.getElem?_eq_some_iff.1 this.2).1
        unfold aY at hp
        simp only [Bool.and_eq_false_iff, decide_eq_false_iff_not] at hp
        omega
      simp [this]
    | true =>
      unfold aY at hp
      simp only [Bool.and_eq_true, decide_eq_true_eq] at hp
      simp only [Bool.not_true, cond_false]
      obtain ⟨n, hn⟩ := Int.eq_ofNat_of_zero_le hp.1
      have hx : idx a f.proc = some (a[n]'(by omega)) := by rw [hn, xq (by omega)]
      generalize a[n]'(by omega) = x at hx
      rw [hx, bnd]
      have kB : ∃ y, fK a f b K2 true = some y ∧ y ≠ 0 := ⟨3, rfl, by decide⟩
      have uniq : ∀ z, xJ a b.cells.length f z → z = x := fun z g => by have := g.proc; rw [hx] at this; exact (Option.some.inj this).symm
      cases ha : aY f.at_ (x.code.length : Int) with
      | false =>
        obtain ⟨y, g1, g2⟩ := kB
        refine ⟨y, g1, ?_⟩
        have : ¬ jd a b.cells.length t (f :: l) := by
          rintro ⟨⟨z, g⟩, -, -⟩
          have := uniq z g; subst this
          have := g.at_
          unfold aY at ha
          simp only [Bool.and_eq_false_iff, decide_eq_false_iff_not] at ha
          omega
        simp [this, g2]
      | true =>
        simp only [Bool.not_true, cond_false]
        cases ht : aY f.qY t with
        | false =>
          obtain ⟨y, g1, g2⟩ := kB
          refine ⟨y, g1, ?_⟩
          have : ¬ jd a b.cells.length t (f :: l) := by
            rintro ⟨⟨z, g⟩, h3, -⟩
            unfold aY at ht
            simp only [Bool.and_eq_false_iff, decide_eq_false_iff_not] at ht
            omega
          simp [this, g2]
        | true =>
          simp only [Bool.not_true]
          unfold fK
          rw [hx, cond_false, bnd]
          unfold aY at ha ht
          simp only [Bool.and_eq_true, decide_eq_true_eq] at ha ht
          by_cases hr : (f.regs.length : Int) = x.regs
          · rw [dF (by omega), cond_false, ← ER b f (fun _ => K2 f.regs.length) _ rfl]
            obtain ⟨z, g1, g2⟩ := LQ b (fun _ => K2 f.regs.length) _ ⟨y, h1, h2⟩ f.regs
            refine ⟨z, g1, g2.trans ⟨fun h => ⟨⟨x, hx, ha, hr, h.1⟩, ht, h.2⟩, ?_⟩⟩
            rintro ⟨⟨z, g⟩, h3, h4⟩
            exact ⟨g.vals, h4⟩
          · rw [dT (by omega), cond_true]
            refine ⟨4, rfl, ?_⟩
            have : ¬ jd a b.cells.length t (f :: l) := by
              rintro ⟨⟨z, g⟩, -, -⟩
              have := uniq z g; subst this
              exact hr g.regs
            simp [this]
theorem Hr (a : List bP) (b : LX.State) : ∃ y, wI a b = some y ∧ (y = 0 ↔ rY a b) := by
  rw [Ho]
  unfold nX
  cases c1 : ((!(bB b.status 0 3)) || (!(eP b.aW))) with
  | true =>
    refine ⟨3, rfl, ⟨fun h => absurd h (by decide), fun h => ?_⟩⟩
    unfold eP bB at c1
    simp only [Bool.or_eq_true, Bool.not_eq_true', Bool.and_eq_false_iff, decide_eq_false_iff_not] at c1
    have := h.status; have := h.aW; omega
  | false =>
    unfold eP bB at c1
    simp only [Bool.or_eq_false_iff, Bool.not_eq_false', Bool.and_eq_true, decide_eq_true_eq] at c1
    rw [cond_false]
    cases c2 : (((decide ((b.aW : Int) ≠ 0) && decide ((b.status : Int) ≠ 3)) || (decide ((b.status : Int) = 1) && decide ((0 : Int) < (b.frames.length : Int)))) || (decide ((b.status : Int) ≠ 1) && decide (((b.frames.length : Int) : Int) = 0))) with
    | true =>
      refine ⟨4, rfl, ⟨fun h => absurd h (by decide), fun h => ?_⟩⟩
      simp only [Bool.or_eq_true, Bool.and_eq_true, decide_eq_true_eq] at c2
      rcases c2 with (c2 | c2) | c2
      · exact absurd (h.stay c2.2) c2.1
      · have := h.ended.1 c2.1; rw [this] at c2; simp at c2
      · exact absurd (h.ended.2 (List.eq_nil_of_length_eq_zero (by omega))) c2.1
    | false =>
      simp only [Bool.or_eq_false_iff, Bool.and_eq_false_iff, decide_eq_false_iff_not] at c2
      rw [cond_false]
      by_cases hm : b.frames.length ≤ 10
      · rw [dF (by omega), cond_false, LP]
        by_cases hc : dB b.cells = 0
        · rw [dF (by omega), cond_false]
          obtain ⟨y, h1, h2⟩ := Hq a b b.frames 1
          refine ⟨y, h1, h2.trans ⟨fun h => ⟨by omega, by omega, fun h3 => by omega, ⟨fun h3 => ?_, fun h3 => ?_⟩, hm, (NK _).1 hc, h⟩, fun h => h.frames⟩⟩
          · exact List.eq_nil_of_length_eq_zero (by omega)
          · rw [h3] at c2; simp at c2; omega
        · rw [dT hc, cond_true]
          exact ⟨_, rfl, ⟨fun h => absurd h hc, fun h => absurd ((NK _).2 h.cells) hc⟩⟩
      · rw [dT (by omega), cond_true]
        exact ⟨2, rfl, ⟨fun h => absurd h (by decide), fun h => absurd h.many hm⟩⟩
def TK (a : List bP) (s : LX.State) : Int := (wI a s).getD 0
theorem Ye (a : List bP) (s : LX.State) : wI a s = some (TK a s) := by obtain ⟨y, h, -⟩ := Hr a s; unfold TK; rw [h]; rfl
theorem Kz {a : List bP} {s : LX.State} : TK a s = 0 ↔ rY a s := by obtain ⟨y, h, h2⟩ := Hr a s; unfold TK; rw [h]; exact h2
theorem Fq (a : List bP) (s : LX.State) : Ah a s = some (if Jk a ≠ 0 then Jk a else TK a s) := by
  unfold Ah
  rw [NJ, bnd]
  by_cases h : Jk a = 0
  · rw [dF (by omega), cond_false, Ye, bnd, if_neg (by omega)]
  · rw [dT h, cond_true, if_pos h]
end Go.Proofs.YtfclkapelkhlpaaGreatDoor
namespace Go.Proofs.YtfclkapelkhlpaaGreatDoor
open Go Go.Proofs Go.LX
structure Small (s : LX.State) : Prop where
  frames : s.frames.length ≤ 10
  regs : ∀ f ∈ s.frames, f.regs.length ≤ 40
  cells : s.cells.length ≤ 24
  fields : ∀ c ∈ s.cells, c.length ≤ 4
theorem tF {a : List bP} {n : Nat} : ∀ {l : List LX.Frame} {t : Int}, jd a n t l → ∀ f ∈ l, ∃ x, xJ a n f x
  | [], _, _, f, hf => by cases hf
  | g :: l, t, h, f, hf => by
    rcases List.mem_cons.1 hf with rfl | hf
    · exact h.1
    · exact tF h.2.2 f hf
theorem mh.mem {a : List bP} (h : mh a) {k : Int} {x : bP} (hx : idx a k = some x) : x ∈ a ∧ (0 ≤ x.params ∧ x.params ≤ 3) ∧ (1 ≤ x.regs ∧ x.params ≤ x.regs ∧ x.regs ≤ 40) ∧ oV x := by
  have h1 := (aJ hx).2
  have := h.head _ x h1
  exact ⟨List.mem_of_getElem? h1, this.1, this.2.1, this.2.2.2⟩
theorem rY.small {a : List bP} {s : LX.State} (h : rY a s) (ha : mh a) : Small s where
  frames := h.many
  regs f hf := by
    obtain ⟨x, g⟩ := tF h.frames f hf
    have := (ha.mem g.proc).2.2.1
    have := g.regs
    omega
  cells := h.cells.1
  fields c hc := (h.cells.2 c hc).1.2
theorem Du {α : Type} {bytes : Nat} {a : List α} (h : a.length ≤ 400) (hb : bytes ≤ 48) : clone bytes a = some a := by
  have : a.length * bytes ≤ 400 * 48 := Nat.mul_le_mul h hb
  unfold clone
  exact wB ⟨by simp; omega, by simp; omega⟩
theorem ES {ρ : Type} {body : Int → Unit → (Unit → ρ) → ρ} {k : Unit → ρ} : ∀ (m : Nat) (i : Nat), (∀ j : Nat, i ≤ j → j < i + m → ∀ nx, body (j : Int) () nx = nx ()) → upto body k (i : Int) m () = k ()
  | 0, i, _ => rfl
  | m + 1, i, h => by
    rw [Jm, h i (Nat.le_refl _) (by omega), show ((i : Int) + 1) = ((i + 1 : Nat) : Int) by omega]
    exact ES m (i + 1) (fun j h1 h2 => h j (by omega) (by omega))
theorem LU {l : List (List Val)} (h : l.length ≤ 24) (hf : ∀ c ∈ l, c.length ≤ 4) : Bc l = some l := by
  unfold Bc
  rw [Du (by omega) (by decide), bnd, Int.toNat_natCast]
  exact ES (k := vV l) l.length 0 (fun j h1 h2 nx => by
    unfold vU
    rw [xq (by omega), bnd, Du (by have := hf _ (List.getElem_mem (by omega : j < l.length)); omega) (by decide), bnd])
theorem copy_eq {s : LX.State} (h : Small s) : zq s = some s := by
  unfold zq
  rw [Du (by have := h.frames; omega) (by decide), bnd, LU h.cells h.fields, bnd]
  unfold Cf
  rw [Int.toNat_natCast]
  exact ES (k := zo s s.cells) s.frames.length 0 (fun j h1 h2 nx => by
    unfold zn
    rw [xq (by omega), bnd, Du (by have := h.regs _ (List.getElem_mem (by omega : j < s.frames.length)); omega) (by decide), bnd])
theorem room_le {α : Type} {bytes : Nat} {l m : List α} (h : l.length + m.length ≤ 100000) (hb : bytes ≤ 48) : Room bytes l m := by
  have : (l.length + m.length) * bytes ≤ 100000 * 48 := Nat.mul_le_mul h hb
  exact ⟨by omega, by omega⟩
end Go.Proofs.YtfclkapelkhlpaaGreatDoor
namespace Go.Proofs.YtfclkapelkhlpaaGreatDoor
open Go Go.Proofs Go.LX
def Dv (l : List Int) (v : Val) : List Int := if v.kind = 2 ∧ v.n ∉ l then l ++ [v.n] else l
def Dw (l : List Int) (vs : List Val) : List Int := vs.foldl Dv l
def cellAt (cells : List (List Val)) (k : Int) : List Val := (idx cells k).getD []
def Ip (cells : List (List Val)) : Nat → Nat → List Int → List Int
  | 0, _, l => l
  | m + 1, k, l => if h : k < l.length then Ip cells m (k + 1) (Dw l (cellAt cells l[k])) else l
def AA (cells : List (List Val)) (vs : List Val) : List Int := Ip cells 25 0 (Dw [] vs)
theorem Bq (l : List Int) (v : Val) (vs : List Val) : Dw l (v :: vs) = Dw (Dv l v) vs := rfl
theorem TL (l : List Int) (v : Val) : l <+: Dv l v := by
  unfold Dv; split
  · exact List.prefix_append _ _
  · exact List.prefix_refl _
theorem AB : ∀ (vs : List Val) (l : List Int), l <+: Dw l vs
  | [], l => List.prefix_refl _
  | v :: vs, l => (TL l v).trans (AB vs _)
theorem OQ (cells : List (List Val)) : ∀ (m k : Nat) (l : List Int), l <+: Ip cells m k l
  | 0, _, l => List.prefix_refl _
  | m + 1, k, l => by
    unfold Ip; split
    · exact (AB _ _).trans (OQ cells m _ _)
    · exact List.prefix_refl _
theorem Jo : ∀ (n : Nat) (l : List Int), l.Nodup → (∀ x ∈ l, 0 ≤ x ∧ x < n) → l.length ≤ n
  | 0, l, _, h => by
    cases l with
    | nil => simp
    | cons x l => have := h x (by simp); omega
  | n + 1, l, hn, h => by
    have h1 := Jo n (l.erase (n : Int)) (hn.erase _) (fun x hx => by
      have h2 := (hn.mem_erase_iff).1 hx
      have := h x h2.2
      have h3 := h2.1
      constructor
      · omega
      · push_cast at this; omega)
    have h4 : l.length ≤ (l.erase (n : Int)).length + 1 := by rw [List.length_erase]; split <;> omega
    omega
def oW (n : Nat) (l : List Int) : Prop := l.Nodup ∧ ∀ x ∈ l, 0 ≤ x ∧ x < n
theorem oW.len {n : Nat} {l : List Int} (h : oW n l) : l.length ≤ n := Jo n l h.1 h.2
theorem oW.nil {n : Nat} : oW n [] := ⟨List.nodup_nil, fun x hx => by cases hx⟩
theorem gJ.ref {n : Nat} {v : Val} (h : gJ n v) (hk : v.kind = 2) : 0 ≤ v.n ∧ v.n < n := by unfold gJ at h; omega
theorem oW.v {n : Nat} {l : List Int} (h : oW n l) {v : Val} (hv : gJ n v) : oW n (Dv l v) := by
  unfold Dv; split
  · rename_i hc
    refine ⟨List.nodup_append.2 ⟨h.1, by simp, fun a ha b hb => ?_⟩, fun x hx => ?_⟩
    · simp at hb; subst hb; intro e; subst e; exact hc.2 ha
    · rcases List.mem_append.1 hx with hx | hx
      · exact h.2 x hx
      · simp at hx; subst hx; exact hv.ref hc.1
  · exact h
theorem oW.l {n : Nat} : ∀ {vs : List Val} {l : List Int}, oW n l → (∀ v ∈ vs, gJ n v) → oW n (Dw l vs)
  | [], l, h, _ => h
  | v :: vs, l, h, hv => oW.l (vs := vs) (l := Dv l v) (h.v (hv v (by simp))) (fun w hw => hv w (List.mem_cons_of_mem _ hw))
theorem zw {cells : List (List Val)} {k : Int} (h : 0 ≤ k ∧ k < cells.length) : idx cells k = some (cellAt cells k) ∧ cellAt cells k ∈ cells := by
  obtain ⟨n, rfl⟩ := Int.eq_ofNat_of_zero_le h.1
  unfold cellAt
  rw [xq (by omega)]
  exact ⟨rfl, List.getElem_mem _⟩
theorem mE.at {cells : List (List Val)} (h : mE cells) {k : Int} (hk : 0 ≤ k ∧ k < cells.length) : (1 ≤ (cellAt cells k).length ∧ (cellAt cells k).length ≤ 4) ∧ ∀ v ∈ cellAt cells k, gJ cells.length v := h.2 _ (zw hk).2
theorem oW.Ip {cells : List (List Val)} (hc : mE cells) : ∀ {m k : Nat} {l : List Int}, oW cells.length l → oW cells.length (Ip cells m k l)
  | 0, _, l, h => h
  | m + 1, k, l, h => by
    unfold Proofs.YtfclkapelkhlpaaGreatDoor.Ip; split
    · rename_i hk
      exact oW.Ip hc (h.l (hc.at (h.2 _ (List.getElem_mem hk))).2)
    · exact h
def jR (vs : List Val) (l : List Int) : Prop := ∀ v ∈ vs, v.kind = 2 → v.n ∈ l
theorem jR.pre {vs : List Val} {l m : List Int} (h : jR vs l) (hp : l <+: m) : jR vs m := fun v hv hk => hp.subset (h v hv hk)
theorem VG (l : List Int) (v : Val) (hk : v.kind = 2) : v.n ∈ Dv l v := by
  unfold Dv; split
  · simp
  · rename_i hc
    exact Decidable.not_not.1 (fun h => hc ⟨hk, h⟩)
theorem KA : ∀ (vs : List Val) (l : List Int), jR vs (Dw l vs)
  | [], l, v, hv, _ => by cases hv
  | w :: vs, l, v, hv, hk => by
    rw [Bq]
    rcases List.mem_cons.1 hv with rfl | hv
    · exact (AB vs _).subset (VG l v hk)
    · exact KA vs _ v hv hk
theorem TM {cells : List (List Val)} (hc : mE cells) : ∀ {m k : Nat} {l : List Int}, oW cells.length l → cells.length < k + m → (∀ j (hj : j < l.length), j < k → jR (cellAt cells l[j]) l) → ∀ x ∈ Ip cells m k l, jR (cellAt cells x) (Ip cells m k l)
  | 0, k, l, h, hm, hj, x, hx => by
    have := h.len
    obtain ⟨j, h1, rfl⟩ := List.getElem_of_mem hx
    exact hj j h1 (by have h1' : j < l.length := h1; omega)
  | m + 1, k, l, h, hm, hj, x, hx => by
    unfold Proofs.YtfclkapelkhlpaaGreatDoor.Ip at hx ⊢
    split at hx
    · rename_i hk
      rw [dif_pos hk]
      have hv := (hc.at (h.2 _ (List.getElem_mem hk))).2
      have hp := AB (cellAt cells l[k]) l
      refine TM hc (h.l hv) (by omega) (fun j h1 h2 => ?_) x hx
      by_cases e : j < l.length
      · have e1 : (Dw l (cellAt cells l[k]))[j] = l[j] := (hp.getElem e).symm
        rw [e1]
        by_cases e2 : j < k
        · exact (hj j e e2).pre hp
        · have : j = k := by omega
          subst this
          exact KA _ _
      · omega
    · rename_i hk
      rw [dif_neg hk]
      obtain ⟨j, h1, rfl⟩ := List.getElem_of_mem hx
      exact hj j h1 (by omega)
theorem TN {cells : List (List Val)} (hc : mE cells) {vs : List Val} (hv : ∀ v ∈ vs, gJ cells.length v) : oW cells.length (AA cells vs) ∧ jR vs (AA cells vs) ∧ ∀ x ∈ AA cells vs, jR (cellAt cells x) (AA cells vs) := by
  have h0 : oW cells.length (Dw [] vs) := oW.nil.l hv
  refine ⟨oW.Ip hc h0, (KA vs []).pre (OQ _ _ _ _), TM hc h0 (by have := hc.1; omega) (fun j h1 h2 => absurd h2 (Nat.not_lt_zero _))⟩
theorem KC {α : Type} (k k' : Int) (v : α) : ∀ l : List (Int × α), lk k (yY k' v l) = if k = k' then some v else lk k l
  | [] => by unfold yY lk; by_cases h : k = k' <;> simp [h, lk]
  | p :: l => by
    unfold yY
    by_cases h : k' = p.1
    · rw [if_pos h]
      show (if k = p.1 then some v else lk k l) = if k = k' then some v else (if k = p.1 then some p.2 else lk k l)
      by_cases e : k = p.1
      · rw [if_pos e, if_pos (by omega)]
      · rw [if_neg e, if_neg (by omega), if_neg e]
    · rw [if_neg h]
      show (if k = p.1 then some p.2 else lk k (yY k' v l)) = if k = k' then some v else (if k = p.1 then some p.2 else lk k l)
      by_cases e : k = p.1
      · rw [if_pos e, if_pos e, if_neg (by omega)]
      · rw [if_neg e, if_neg e, KC k k' v l]
def Seen (l : List Int) (m : List (Int × Bool)) : Prop := ∀ k, (lk k m).getD false = decide (k ∈ l)
theorem Seen.nil : Seen [] [] := fun k => rfl
theorem Seen.put {l : List Int} {m : List (Int × Bool)} (h : Seen l m) (n : Int) : Seen (l ++ [n]) (yY n true m) := by
  intro k
  rw [KC]
  by_cases e : k = n
  · simp [e]
  · rw [if_neg e, h k, Bool.eq_iff_iff]; simp [e]
theorem Dx {ρ : Type} {body : Val → List Int × List (Int × Bool) → (List Int × List (Int × Bool) → Option ρ) → Option ρ} {K : List Int × List (Int × Bool) → Option ρ}
    (hb : ∀ x l m nx, l.length ≤ 1000 → body x (l, m) nx = bif (decide (x.kind = 2) && (!((lk x.n m).getD false))) then nx (l ++ [x.n], yY x.n true m) else nx (l, m)) :
    ∀ (vs : List Val) (l : List Int) (m : List (Int × Bool)), Seen l m → l.length + vs.length ≤ 1000 → ∃ m', Seen (Dw l vs) m' ∧ each body K vs (l, m) = K (Dw l vs, m')
  | [], l, m, h, _ => ⟨m, h, rfl⟩
  | v :: vs, l, m, h, hl => by
    simp only [List.length_cons] at hl
    rw [dO, hb v l m _ (by omega), h v.n, Bq]
    unfold Dv
    by_cases hc : v.kind = 2 ∧ v.n ∉ l
    · rw [if_pos hc, dT hc.1, dF hc.2, Bool.true_and, Bool.not_false, cond_true]
      exact Dx hb vs _ _ (h.put v.n) (by simp; omega)
    · rw [if_neg hc, show (decide (v.kind = 2) && !decide (v.n ∈ l)) = false by rw [Bool.and_eq_false_iff]; simp; simp only [not_and, Decidable.not_not] at hc; by_cases e : v.kind = 2 <;> simp [e, hc], cond_false]
      exact Dx hb vs _ _ h (by omega)
theorem LV {cells : List (List Val)} (hc : mE cells) : ∀ (m N k : Nat) (l : List Int) (s : List (Int × Bool)), oW cells.length l → Seen l s → cells.length < k + m → m < N → k ≤ l.length → again (lh cells) N ((k : Int), l, s) = some (Ip cells m k l, 0)
  | m, 0, k, l, s, h, hs, hm, hN, hk => by omega
  | 0, N + 1, k, l, s, h, hs, hm, hN, hk => by have := h.len; omega
  | m + 1, N + 1, k, l, s, h, hs, hm, hN, hk => by
    rw [Dt]
    unfold lh Proofs.YtfclkapelkhlpaaGreatDoor.Ip
    simp only
    have hl := h.len
    have hn := hc.1
    by_cases hlt : k < l.length
    · rw [dT (by omega), cond_true, xq hlt, bnd, dif_pos hlt]
      have hr := h.2 _ (List.getElem_mem hlt)
      have hv := hc.at hr
      rw [(zw hr).1, bnd]
      have e0 : (fun (s : Int × List Int × List (Int × Bool)) (Lv : Int × List Int × List (Int × Bool) → Option (List Int × Int)) => match s with | (GD, wV, yP) => bif decide ((GD : Int) < (wV.length : Int)) then (idx wV GD).bind fun x79 => (idx cells x79).bind fun x87 => each mP (mQ GD Lv) x87 (wV, yP) else some (wV, 0)) = lh cells := rfl
      rw [e0]
      obtain ⟨s', h1, h2⟩ := Dx (body := mP) (K := mQ (k : Int) (again (lh cells) N)) (fun x l m nx hl => by
        unfold mP
        simp only [tq]
        cases (decide (x.kind = 2) && (!((lk x.n m).getD false))) with
        | false => rfl
        | true => rw [cond_true, cond_true, wB (room_le (by simp; omega) (by decide))]) (cellAt cells l[k]) l s hs (by have := hv.1.2; omega)
      rw [h2]
      unfold mQ
      simp only
      rw [gI (by omega) (by omega)]
      have hp := (AB (cellAt cells l[k]) l).length_le
      exact LV hc m N (k + 1) _ s' (h.l hv.2) h1 (by omega) (by omega) (by omega)
    · rw [dF (by omega), cond_false, dif_neg hlt]
theorem TP {N : Nat} (hN : 100 ≤ N) {cells : List (List Val)} (hc : mE cells) {vs : List Val} (hv : ∀ v ∈ vs, gJ cells.length v) (hl : vs.length ≤ 400) : zt N cells vs = some (AA cells vs, 0) := by
  unfold zt
  rw [(NK cells).2 hc, dF (by simp), cond_false, dF (by omega), cond_false]
  have k1 : ∀ l : List Val, (∀ v ∈ l, gJ cells.length v) → each (pX cells) (mR N cells vs) l () = mR N cells vs () := by
    intro l
    induction l with
    | nil => intro _; rfl
    | cons x l ih =>
      intro h
      rw [dO]
      unfold pX
      rw [(Az _ _).2 (h x (by simp)), dF (by simp), cond_false]
      exact ih (fun v hv => h v (List.mem_cons_of_mem _ hv))
  rw [k1 vs hv]
  unfold mR
  obtain ⟨s', h1, h2⟩ := Dx (body := pW) (K := tu N cells) (fun x l m nx hl => by
    unfold pW
    simp only [sZ]
    cases (decide (x.kind = 2) && (!((lk x.n m).getD false))) with
    | false => rfl
    | true => rw [cond_true, cond_true, wB (room_le (by simp; omega) (by decide))]) vs [] [] Seen.nil (by simp; omega)
  rw [h2]
  exact LV hc 25 N 0 _ s' (oW.nil.l hv) h1 (by have := hc.1; omega) (by omega) (by omega)
end Go.Proofs.YtfclkapelkhlpaaGreatDoor
namespace Go.Proofs.YtfclkapelkhlpaaGreatDoor
open Go Go.Proofs Go.LX
def ren (l : List Int) (v : Val) : Val := if v.kind = 2 then ⟨v.kind, (l.idxOf v.n : Nat)⟩ else v
def Ht (l : List Int) (f : LX.Frame) : LX.Frame := { f with regs := f.regs.map (ren l) }
def roots (fr : List LX.Frame) : List Val := fr.flatMap (·.regs)
def qL (s : LX.State) : List Int := AA s.cells (roots s.frames)
def qg (s : LX.State) : LX.State := ⟨s.frames.map (Ht (qL s)), (qL s).map (fun k => (cellAt s.cells k).map (ren (qL s))), s.status, s.aW⟩
structure Hu (s : LX.State) : Prop where
  small : Small s
  cells : mE s.cells
  vals : ∀ f ∈ s.frames, ∀ v ∈ f.regs, gJ s.cells.length v
theorem rY.sw {a : List bP} {s : LX.State} (h : rY a s) (ha : mh a) : Hu s where
  small := h.small ha
  cells := h.cells
  vals f hf := by obtain ⟨x, g⟩ := tF h.frames f hf; exact g.vals
theorem Hu.roots {s : LX.State} (h : Hu s) : ∀ v ∈ roots s.frames, gJ s.cells.length v := by
  intro v hv
  unfold YtfclkapelkhlpaaGreatDoor.roots at hv
  obtain ⟨f, hf, hv⟩ := List.mem_flatMap.1 hv
  exact h.vals f hf v hv
theorem Qt (fr : List LX.Frame) (h : ∀ f ∈ fr, f.regs.length ≤ 40) : (roots fr).length ≤ 40 * fr.length := by
  induction fr with
  | nil => simp [roots]
  | cons f l ih =>
    have := h f (by simp)
    have := ih (fun g hg => h g (List.mem_cons_of_mem _ hg))
    unfold roots at *
    rw [List.flatMap_cons, List.length_append, List.length_cons]; omega
theorem Hu.rlen {s : LX.State} (h : Hu s) : (YtfclkapelkhlpaaGreatDoor.roots s.frames).length ≤ 400 := by
  have := Qt s.frames h.small.regs
  have := h.small.frames
  omega
theorem Hu.reach {s : LX.State} (h : Hu s) : oW s.cells.length (qL s) ∧ jR (YtfclkapelkhlpaaGreatDoor.roots s.frames) (qL s) ∧ ∀ x ∈ qL s, jR (cellAt s.cells x) (qL s) := TN h.cells h.roots
theorem LW {α ρ : Type} {body : Int → List α → (List α → Option ρ) → Option ρ} {K : List α → Option ρ} {g : α → α} {P : α → Prop}
    (hb : ∀ (i : Nat) (x : List α) a nx, x[i]? = some a → P a → body (i : Int) x nx = nx (x.set i (g a))) :
    ∀ (l2 l1 : List α), (∀ a ∈ l2, P a) → upto body K (l1.length : Int) l2.length (l1 ++ l2) = K (l1 ++ l2.map g)
  | [], l1, _ => by simp [upto]
  | a :: l2, l1, h => by
    rw [List.length_cons, Jm, hb l1.length (l1 ++ a :: l2) a _ (by simp) (h a (by simp))]
    have := LW (K := K) hb l2 (l1 ++ [g a]) (fun b hb => h b (List.mem_cons_of_mem _ hb))
    rw [show (l1 ++ a :: l2).set l1.length (g a) = (l1 ++ [g a]) ++ l2 by simp, show ((l1.length : Int) + 1) = ((l1 ++ [g a]).length : Nat) by simp, this]
    simp
theorem ET {α ρ : Type} {body : Int → List α → (List α → Option ρ) → Option ρ} {K : List α → Option ρ} {g : α → α} {P : α → Prop}
    (hb : ∀ (i : Nat) (x : List α) a nx, x[i]? = some a → P a → body (i : Int) x nx = nx (x.set i (g a))) (l : List α) (hp : ∀ a ∈ l, P a) : upto body K 0 l.length l = K (l.map g) := by
  have := LW (K := K) hb l [] hp
  simpa using this
def Hw (l : List Int) (m : List (Int × Int)) : Prop := ∀ k, lk k m = if k ∈ l then some ((l.idxOf k : Nat) : Int) else none
theorem OT {l : List Int} {m : List (Int × Int)} (h : Hw l m) (vs : List Val) (hr : jR vs l) : GG vs m = some (vs.map (ren l)) := by
  unfold GG
  rw [Int.toNat_natCast]
  refine ET (P := fun v => v.kind = 2 → v.n ∈ l) (fun i x a nx hx hp => ?_) vs (fun v hv => hr v hv)
  unfold Bj Bi
  rw [uj, hx, bnd]
  by_cases hk : a.kind = 2
  · rw [dT hk, cond_true, h a.n, if_pos (hp hk)]
    simp [ren, hk]
  · rw [dF hk, cond_false]
    have : x.set i a = x := by
      obtain ⟨h1, rfl⟩ := List.getElem?_eq_some_iff.1 hx
      exact List.set_getElem_self h1
    simp [ren, hk, this]
theorem Hy {s : LX.State} (hc : mE s.cells) {K : List (List Val) × List Int × List (Int × Int) → Option LX.State} : ∀ (l2 l1 : List Int) (m : List (Int × Int)), oW s.cells.length (l1 ++ l2) → Hw l1 m →
    ∃ m', Hw (l1 ++ l2) m' ∧ fT (nV s) K (l1.length : Int) l2 (l1.map (cellAt s.cells), l1, m) = K ((l1 ++ l2).map (cellAt s.cells), l1 ++ l2, m')
  | [], l1, m, _, h => ⟨m, by simpa using h, by simp [fT]⟩
  | k :: l2, l1, m, hm, h => by
    have e1 : l1 ++ k :: l2 = (l1 ++ [k]) ++ l2 := by simp
    have hk : k ∉ l1 := by
      intro hk
      exact (List.nodup_append.1 hm.1).2.2 k hk k (by simp) rfl
    have hl := hm.len
    have hn := hc.1
    simp only [List.length_append, List.length_cons] at hl
    have hr := hm.2 k (by simp)
    rw [jr]
    obtain ⟨m', h1, h2⟩ := Hy hc (K := K) l2 (l1 ++ [k]) (yY k (l1.length : Int) m) (by rw [← e1]; exact hm) (fun q => by
      rw [KC]
      by_cases e : q = k
      · subst e
        rw [if_pos rfl, if_pos (by simp), List.idxOf_append, if_neg hk]
        simp
      · rw [if_neg e, h q]
        by_cases hq : q ∈ l1
        · rw [if_pos hq, if_pos (by simp [hq]), List.idxOf_append, if_pos hq]
        · rw [if_neg hq, if_neg (by simp [hq, e])])
    refine ⟨m', by rw [e1]; exact h1, ?_⟩
    have hlen : (((l1 ++ [k]).length : Nat) : Int) = (l1.length : Int) + 1 := by simp
    rw [hlen] at h2
    rw [e1, ← h2]
    generalize fT (nV s) K ((l1.length : Int) + 1) l2 = K1
    unfold nV
    simp only
    rw [(zw hr).1, bnd, wB hk, wB (room_le (by simp; omega) (by decide)), List.map_append]
    rfl
theorem KD {l : List Int} {m : List (Int × Int)} (h : Hw l m) (K : List LX.Frame → Option LX.State) (fr : List LX.Frame) (hr : ∀ f ∈ fr, jR f.regs l) : upto (tC m) K 0 fr.length fr = K (fr.map (Ht l)) :=
  ET (P := fun f => jR f.regs l) (fun i x a nx hx hp => by
    unfold tC
    rw [uj, hx, bnd, OT h a.regs hp, bnd]
    simp [Ht]) fr hr
theorem LY {l : List Int} {m : List (Int × Int)} (h : Hw l m) (K : List (List Val) → Option LX.State) (cs : List (List Val)) (hr : ∀ c ∈ cs, jR c l) : upto (uU m) K 0 cs.length cs = K (cs.map (fun c => c.map (ren l))) :=
  ET (P := fun c => jR c l) (fun i x a nx hx hp => by
    unfold uU
    rw [uj, hx, bnd, OT h a hp, bnd]
    simp) cs hr
theorem Jp {K : List Val → Option LX.State} : ∀ (fr : List LX.Frame) (acc : List Val), acc.length + (roots fr).length ≤ 1000 → each qB K fr acc = K (acc ++ roots fr)
  | [], acc, _ => by simp [gU, roots]
  | f :: fr, acc, h => by
    have e : roots (f :: fr) = f.regs ++ roots fr := rfl
    rw [e, List.length_append] at h
    rw [dO]
    have ih := Jp (K := K) fr (acc ++ f.regs) (by simp; omega)
    generalize each qB K fr = K1 at ih ⊢
    unfold qB
    rw [wB (room_le (by omega) (by decide)), ih, e, List.append_assoc]
theorem LZ {fr : List LX.Frame} {l : List Int} (h : jR (roots fr) l) : ∀ f ∈ fr, jR f.regs l := fun f hf v hv hk => h v (List.mem_flatMap.2 ⟨f, hf, hv⟩) hk
theorem TQ {N : Nat} (hN : 100 ≤ N) {s : LX.State} (h : Hu s) : Dl N s = some (qg s) := by
  have hr := h.reach
  unfold Dl
  rw [Jp s.frames [] (by have := h.rlen; simp; omega), List.nil_append]
  unfold vZ
  rw [TP hN h.cells h.roots h.rlen, bnd, dF (by simp), cond_false, copy_eq h.small, bnd]
  have e : AA s.cells (roots s.frames) = qL s := rfl
  simp only [e]
  obtain ⟨m', h1, h2⟩ := Hy h.cells (K := qA s) (qL s) [] [] (by simpa using hr.1) (fun k => by simp [lk])
  have h2' : fT (nV s) (qA s) 0 (qL s) ([], ([] : List Int), ([] : List (Int × Int))) = _ := h2
  rw [h2']
  simp only [List.nil_append] at h1 ⊢
  unfold qA
  simp only [Int.toNat_natCast]
  rw [KD h1 _ _ (LZ hr.2.1)]
  unfold vY
  rw [Int.toNat_natCast, LY h1 _ _ (fun c hc => by
    obtain ⟨k, hk, rfl⟩ := List.mem_map.1 hc
    exact hr.2.2 k hk)]
  unfold vX qg
  rw [List.map_map]; rfl
end Go.Proofs.YtfclkapelkhlpaaGreatDoor
namespace Go.Proofs.YtfclkapelkhlpaaGreatDoor
open Go Go.Proofs Go.LX
def ny (r : List Val) (i : Int) : Val := (idx r i).getD ⟨0, 0⟩
def Yf (k : Int) (b c : Val) : Option Val :=
  if k = 5 then some ⟨1, if b = c then 1 else 0⟩ else if b.kind ≠ 1 ∨ c.kind ≠ 1 then none else if k = 4 then some ⟨1, if b.n < c.n then 1 else 0⟩ else
  let n := if k = 1 then b.n + c.n else if k = 2 then b.n - c.n else b.n * c.n
  if -1000000000 ≤ n ∧ n ≤ 1000000000 then some ⟨1, n⟩ else none
def Iq (f : LX.Frame) (x : bP) : LX.Frame := { f with at_ := min (f.at_ + 1) ((x.code.length : Int) - 1) }
def L6 (s : LX.State) (c : Ins) : Option LX.State :=
  if s.cells.length = 24 then none else some ⟨s.frames.dropLast ++ (s.frames.getLast?.map fun h => { h with regs := h.regs.set c.a.toNat ⟨2, s.cells.length⟩ }).toList, s.cells ++ [List.replicate c.b.toNat ⟨0, 0⟩], s.status, s.aW⟩
def nz (a : List bP) (pre : List LX.Frame) (f : LX.Frame) (cells : List (List Val)) (st wh : Int) (x : bP) (c : Ins) : Option (LX.State × Option Int × Bool) :=
  let g := Iq f x
  let r := ny f.regs
  let put := fun (v : Val) => (⟨pre ++ [{ g with regs := f.regs.set c.a.toNat v }], cells, st, wh⟩ : LX.State)
  let stay := (⟨pre ++ [g], cells, st, wh⟩ : LX.State)
  let jump := (⟨pre ++ [{ g with at_ := c.b }], cells, st, wh⟩ : LX.State)
  let bad := fun (v : Val) => v.kind ≠ 2 ∨ ((cellAt cells v.n).length : Int) ≤ c.c
  if c.op = 1 then some (put ⟨1, c.b⟩, none, false) else
  if c.op = 2 then some (put (r c.b), none, false) else
  if c.op = 3 then (Yf (c.args.headD 0) (r c.b) (r c.c)).map fun v => (put v, none, false) else
  if c.op = 4 then (if bad (r c.b) then none else some (put (ny (cellAt cells (r c.b).n) c.c), none, false)) else
  if c.op = 6 then (if bad (r c.a) then none else some (⟨pre ++ [g], cells.set (r c.a).n.toNat ((cellAt cells (r c.a).n).set c.c.toNat (r c.b)), st, wh⟩, none, false)) else
  if c.op = 5 then (L6 (if cells.length = 24 then qg stay else stay) c).map fun t => (t, none, false) else
  if c.op = 7 then (if pre.length + 1 = 10 then none else some (⟨pre ++ [g] ++ [⟨c.b, 0, c.args.map r ++ List.replicate (((idx a c.b).map (·.regs)).getD 0 - c.args.length).toNat ⟨0, 0⟩, c.a⟩], cells, st, wh⟩, none, false)) else
  if c.op = 8 then some (match pre.getLast? with
    | none => ⟨[], cells, 1, wh⟩
    | some h => ⟨pre.dropLast ++ [{ h with regs := h.regs.set f.qY.toNat (r c.a) }], cells, st, wh⟩, none, false) else
  if c.op = 9 then (if (r c.a).kind = 1 then some (stay, some (r c.a).n, false) else none) else
  if c.op = 11 then (if (r c.a).kind = 1 then some (⟨pre ++ [g], cells, 3, (r c.a).n⟩, none, true) else none) else
  if c.op = 12 then some (jump, none, false) else
  if c.op = 13 then some (if (r c.a).kind ≠ 2 ∧ (r c.a).n = 0 then jump else stay, none, false) else
  some (stay, none, true)
def R1 (r : Option (BM × Bool × LX.State)) (q : Option (LX.State × Option Int × Bool)) : Prop := ∃ o ok s', r = some (o, ok, s') ∧ match q with | none => ok = false | some (t, said, p) => ok = true ∧ s' = t ∧ o = ⟨said.isSome, said.getD 0, p⟩
theorem AJ {R : Int} {r : List Val} (hr : (r.length : Int) = R) {i : Int} (h : wO R i) : idx r i = some (ny r i) ∧ ny r i ∈ r := by
  obtain ⟨h1, h2⟩ := h
  obtain ⟨n, rfl⟩ := Int.eq_ofNat_of_zero_le h1
  unfold ny
  rw [xq (by omega)]
  exact ⟨rfl, List.getElem_mem _⟩
theorem Dy (pre : List LX.Frame) (f : LX.Frame) : idx (pre ++ [f]) (pre.length : Int) = some f := by rw [uj]; simp
theorem qD (pre : List LX.Frame) (f g : LX.Frame) : (pre ++ [f]).set pre.length g = pre ++ [g] := by simp
theorem nY (pre : List LX.Frame) (f : LX.Frame) : (((pre ++ [f]).length : Int) - 1) = (pre.length : Int) := by simp
theorem Yg {x y : Int} (hx : -1000000000 ≤ x ∧ x ≤ 1000000000) (hy : -1000000000 ≤ y ∧ y ≤ 1000000000) : -1000000000000000000 ≤ x * y ∧ x * y ≤ 1000000000000000000 := by
  have h1 : (x * y).natAbs ≤ 1000000000 * 1000000000 := by
    rw [Int.natAbs_mul]
    exact Nat.mul_le_mul (by omega) (by omega)
  omega
theorem gJ.int {n : Nat} {v : Val} (h : gJ n v) (hk : v.kind = 1) : -1000000000 ≤ v.n ∧ v.n ≤ 1000000000 := by unfold gJ at h; omega
theorem op_eq {n : Nat} {k : Int} {b c : Val} (hk : 1 ≤ k ∧ k ≤ 5) (hb : gJ n b) (hc : gJ n c) : ∃ v, Lu k b c = some (v, (Yf k b c).isSome) ∧ ∀ w, Yf k b c = some w → v = w := by
  unfold Lu Yf yA
  by_cases h5 : k = 5
  · rw [dT h5, cond_true, if_pos h5]
    by_cases e : b = c
    · subst e; simp
    · rw [if_neg e]
      have : (decide (b.kind = c.kind) && decide (b.n = c.n)) = false := by
        obtain ⟨k1, n1⟩ := b; obtain ⟨k2, n2⟩ := c
        rw [Bool.and_eq_false_iff]; simp at e ⊢
        by_cases h : k1 = k2
        · right; exact e h
        · left; exact h
      rw [this]; simp
  rw [dF h5, cond_false, if_neg h5]
  by_cases hi : b.kind = 1 ∧ c.kind = 1
  · rw [show (decide ((b.kind : Int) ≠ 1) || decide ((c.kind : Int) ≠ 1)) = false by simp [hi.1, hi.2], cond_false, if_neg (by simp [hi.1, hi.2])]
    have b1 := hb.int hi.1
    have c1 := hc.int hi.2
    have m1 := Yg b1 c1
    have fin : ∀ z : Int, ∃ v, some ((⟨1, z⟩ : Val), (decide ((-1000000000 : Int) ≤ z) && decide ((z : Int) ≤ 1000000000))) = some (v, (if -1000000000 ≤ z ∧ z ≤ 1000000000 then some (⟨1, z⟩ : Val) else none).isSome) ∧ ∀ w, (if -1000000000 ≤ z ∧ z ≤ 1000000000 then some (⟨1, z⟩ : Val) else none) = some w → v = w := by
      intro z
      by_cases h : -1000000000 ≤ z ∧ z ≤ 1000000000
      · rw [if_pos h, dT h.1, dT h.2]; exact ⟨_, rfl, fun w e => by cases e; rfl⟩
      · rw [if_neg h]
        refine ⟨⟨1, z⟩, ?_, fun w e => by cases e⟩
        · congr 2
          rw [Option.isSome_none, Bool.and_eq_false_iff]; simp only [decide_eq_false_iff_not]; omega
    by_cases h4 : k = 4
    · subst h4
      rw [if_pos rfl]
      simp only [Int.reduceEq, decide_false, decide_true, cond_false, cond_true]
      by_cases e : b.n < c.n <;> simp [e]
    rw [if_neg h4]
    by_cases h1 : k = 1
    · subst h1
      simp only [Int.reduceEq, decide_true, cond_true, if_true]
      rw [gI (by omega) (by omega)]
      exact fin _
    by_cases h2 : k = 2
    · subst h2
      simp only [Int.reduceEq, decide_true, decide_false, cond_true, cond_false, if_true, if_false]
      rw [gI (by omega) (by omega)]
      exact fin _
    · obtain rfl : k = 3 := by omega
      simp only [Int.reduceEq, decide_true, decide_false, cond_true, cond_false, if_true, if_false]
      rw [gI (by omega) (by omega)]
      exact fin _
  · rw [show (decide ((b.kind : Int) ≠ 1) || decide ((c.kind : Int) ≠ 1)) = true by simp; omega, cond_true, if_pos (by omega)]
    exact ⟨_, rfl, fun w e => by cases e⟩
end Go.Proofs.YtfclkapelkhlpaaGreatDoor
namespace Go.Proofs.YtfclkapelkhlpaaGreatDoor
open Go Go.Proofs Go.LX
theorem kv {a : List bP} {n : Nat} {f : LX.Frame} : ∀ {l : List LX.Frame} {t : Int}, jd a n t (l ++ [f]) ↔ jd a n t l ∧ (∃ x, xJ a n f x) ∧ (0 ≤ f.qY ∧ f.qY < (match l.getLast? with | none => t | some g => g.regs.length))
  | [], t => by simp [jd]
  | g :: l, t => by
    show ((∃ x, xJ a n g x) ∧ (0 ≤ g.qY ∧ g.qY < t) ∧ jd a n g.regs.length (l ++ [f])) ↔ _
    rw [kv (l := l)]
    have e : (match (g :: l).getLast? with | none => t | some g => ((g.regs.length : Int))) = (match l.getLast? with | none => ((g.regs.length : Int)) | some g => (g.regs.length : Int)) := by
      rw [List.getLast?_cons]
      cases l.getLast? <;> rfl
    rw [e]
    simp only [jd, and_assoc]
structure qh (a : List bP) (pre : List LX.Frame) (f : LX.Frame) (cells : List (List Val)) (x : bP) (c : Ins) : Prop where
  fr : xJ a cells.length f x
  ins : idx x.code f.at_ = some c
  good : zP a x.regs x.code.length c
  chain : jd a cells.length 1 pre
  qY : 0 ≤ f.qY ∧ f.qY < ahead pre
  many : pre.length + 1 ≤ 10
  L8 : mE cells
  proc : (1 ≤ x.regs ∧ x.regs ≤ 40) ∧ oV x
theorem Yh {a : List bP} (ha : mh a) {pre : List LX.Frame} {f : LX.Frame} {cells : List (List Val)} {st wh : Int} (h : rY a ⟨pre ++ [f], cells, st, wh⟩) : ∃ x c, qh a pre f cells x c := by
  obtain ⟨h1, ⟨x, g⟩, h3⟩ := kv.1 h.frames
  have hm := ha.mem g.proc
  have hat := g.at_
  obtain ⟨n, hn⟩ := Int.eq_ofNat_of_zero_le hat.1
  have hlt : n < x.code.length := by omega
  refine ⟨x, x.code[n], g, by rw [hn, xq hlt], ha.ins x hm.1 _ (List.getElem_mem _), h1, h3, ?_, h.cells, ⟨by omega, hm.2.2.2⟩⟩
  have := h.many
  simpa using this
theorem qh.Iq {a : List bP} {pre : List LX.Frame} {f : LX.Frame} {cells : List (List Val)} {x : bP} {c : Ins} (h : qh a pre f cells x c) : xJ a cells.length (Iq f x) x where
  proc := h.fr.proc
  at_ := by
    have := h.fr.at_
    have := h.proc.2
    unfold oV at this
    simp only [YtfclkapelkhlpaaGreatDoor.Iq]
    omega
  regs := h.fr.regs
  vals := h.fr.vals
theorem qh.reg {a : List bP} {pre : List LX.Frame} {f : LX.Frame} {cells : List (List Val)} {x : bP} {c : Ins} (h : qh a pre f cells x c) {i : Int} (hi : wO x.regs i) : idx f.regs i = some (ny f.regs i) ∧ gJ cells.length (ny f.regs i) := by
  have := AJ h.fr.regs hi
  exact ⟨this.1, h.fr.vals _ this.2⟩
theorem qh.sw {a : List bP} {pre : List LX.Frame} {f : LX.Frame} {cells : List (List Val)} {x : bP} {c : Ins} (ha : mh a) (h : qh a pre f cells x c) {st wh : Int} {g : LX.Frame} (hg : xJ a cells.length g x) : Hu ⟨pre ++ [g], cells, st, wh⟩ where
  small := ⟨by have := h.many; simp; omega, fun k hk => by
    rcases List.mem_append.1 hk with hk | hk
    · obtain ⟨y, hy⟩ := tF h.chain k hk
      have := hy.regs
      have := (ha.mem hy.proc).2.2.1
      omega
    · simp at hk; subst hk
      have := hg.regs
      have := h.proc.1
      omega, h.L8.1, fun c hc => (h.L8.2 c hc).1.2⟩
  cells := h.L8
  vals k hk := by
    rcases List.mem_append.1 hk with hk | hk
    · obtain ⟨y, hy⟩ := tF h.chain k hk
      exact hy.vals
    · simp at hk; subst hk; exact hg.vals
section
variable {a : List bP} {pre : List LX.Frame} {f : LX.Frame} {cells : List (List Val)} {st wh : Int} {x : bP} {c : Ins} {N : Nat}
theorem tH (h : qh a pre f cells x c) : nW N ⟨pre ++ [f], cells, st, wh⟩ a = (bif decide ((c.op : Int) = 1) then (idx f.regs c.a).bind fun x41 => jQ false (pre ++ [{ Iq f x with regs := (f.regs.set (c.a).toNat (⟨1, c.b⟩ : Val)) }]) cells st wh else bif decide ((c.op : Int) = 2) then (idx f.regs c.b).bind fun Cz => (idx f.regs c.a).bind fun Vu => jQ false (pre ++ [{ Iq f x with regs := (f.regs.set (c.a).toNat Cz) }]) cells st wh else bif decide ((c.op : Int) = 3) then (idx c.args 0).bind fun q5 => (idx f.regs c.b).bind fun q10 => (idx f.regs c.c).bind fun q15 => (Lu q5 q10 q15).bind fun q17 => (idx f.regs c.a).bind fun q21 => zu ⟨pre ++ [f], cells, st, wh⟩ q17.2 (pre ++ [{ Iq f x with regs := (f.regs.set (c.a).toNat q17.1) }]) else bif decide ((c.op : Int) = 4) then iI N ⟨pre ++ [f], cells, st, wh⟩ f x c a (decide ((c.op : Int) = 4)) else iI N ⟨pre ++ [f], cells, st, wh⟩ f x c a (decide ((c.op : Int) = 6))) := by
  have hm := h.many
  have hat := h.fr.at_
  have hl := h.proc.2
  unfold oV at hl
  unfold nW
  simp only [nY]
  rw [gI (by omega) (by omega), Dy, bnd, h.fr.proc, bnd, h.ins, bnd, gI (by omega) (by omega), gI (by omega) (by omega)]
  simp only [Int.toNat_natCast, qD]
  rfl
theorem step1 (h : qh a pre f cells x c) (hop : c.op = 1) (hr : wO x.regs c.a) : R1 (nW N ⟨pre ++ [f], cells, st, wh⟩ a) (nz a pre f cells st wh x c) := by
  rw [tH h, hop]
  simp only [Int.reduceEq, decide_true, decide_false, cond_true, cond_false]
  rw [(h.reg hr).1, bnd]
  unfold nz
  simp only [hop, if_true]
  exact ⟨_, _, _, rfl, rfl, rfl, rfl⟩
theorem step2 (h : qh a pre f cells x c) (hop : c.op = 2) (hr : wO x.regs c.a) (hb : wO x.regs c.b) : R1 (nW N ⟨pre ++ [f], cells, st, wh⟩ a) (nz a pre f cells st wh x c) := by
  rw [tH h, hop]
  simp only [Int.reduceEq, decide_true, decide_false, cond_true, cond_false]
  rw [(h.reg hb).1, bnd, (h.reg hr).1, bnd]
  unfold nz
  simp only [hop, Int.reduceEq, if_true, if_false]
  exact ⟨_, _, _, rfl, rfl, rfl, rfl⟩
theorem step3 (h : qh a pre f cells x c) (hop : c.op = 3) (hr : wO x.regs c.a) (hb : wO x.regs c.b) (hc : wO x.regs c.c) {n : Int} (hn : c.args = [n]) (hn2 : 1 ≤ n ∧ n ≤ 5) : R1 (nW N ⟨pre ++ [f], cells, st, wh⟩ a) (nz a pre f cells st wh x c) := by
  rw [tH h, hop, hn]
  simp only [Int.reduceEq, decide_true, decide_false, cond_true, cond_false]
  obtain ⟨v, h1, h2⟩ := op_eq hn2 (h.reg hb).2 (h.reg hc).2
  rw [VE, bnd, (h.reg hb).1, bnd, (h.reg hc).1, bnd, h1, bnd, (h.reg hr).1, bnd]
  unfold nz zu
  simp only [hop, hn, Int.reduceEq, if_true, if_false, List.headD_cons]
  cases e : Yf n (ny f.regs c.b) (ny f.regs c.c) with
  | none => exact ⟨_, _, _, rfl, rfl⟩
  | some w => rw [h2 w e]; exact ⟨_, _, _, rfl, rfl, rfl, rfl⟩
theorem L9 {v : Val} (hc : mE cells) (h : gJ cells.length v) (hk : v.kind = 2) : idx cells v.n = some (cellAt cells v.n) ∧ (1 ≤ (cellAt cells v.n).length ∧ (cellAt cells v.n).length ≤ 4) := by
  have hr := h.ref hk
  exact ⟨(zw hr).1, (hc.at hr).1⟩
theorem OU {v : Val} {i : Int} (hi : 0 ≤ i) (h : i < ((cellAt cells v.n).length : Int)) : idx (cellAt cells v.n) i = some (ny (cellAt cells v.n) i) := (AJ rfl ⟨hi, h⟩).1
theorem Qu (h : qh a pre f cells x c) (hop : c.op = 4) (hr : wO x.regs c.a) (hb : wO x.regs c.b) (hc : 0 ≤ c.c ∧ c.c < 4) : R1 (nW N ⟨pre ++ [f], cells, st, wh⟩ a) (nz a pre f cells st wh x c) := by
  rw [tH h, hop]
  simp only [Int.reduceEq, decide_true, decide_false, cond_true, cond_false]
  unfold iI Dj uT uS
  simp only [nY, Int.toNat_natCast, qD, hop, Int.reduceEq, decide_true, decide_false, cond_true, cond_false]
  have hv := h.reg hb
  rw [hv.1]
  simp only [bnd]
  unfold nz
  simp only [hop, Int.reduceEq, if_true, if_false]
  by_cases hk : (ny f.regs c.b).kind = 2
  · have hcell := L9 h.L8 hv.2 hk
    rw [dF (by omega), cond_false, hcell.1]
    simp only [bnd]
    by_cases hl : ((cellAt cells (ny f.regs c.b).n).length : Int) ≤ c.c
    · rw [dT hl, cond_true, if_pos (by omega)]
      exact ⟨_, _, _, rfl, rfl⟩
    · rw [dF hl, cond_false, if_neg (by omega), OU hc.1 (by omega), bnd, (h.reg hr).1, bnd]
      exact ⟨_, _, _, rfl, rfl, rfl, rfl⟩
  · rw [dT hk, cond_true, if_pos (.inl hk)]
    exact ⟨_, _, _, rfl, rfl⟩
theorem Qv (h : qh a pre f cells x c) (hop : c.op = 6) (hr : wO x.regs c.a) (hb : wO x.regs c.b) (hc : 0 ≤ c.c ∧ c.c < 4) : R1 (nW N ⟨pre ++ [f], cells, st, wh⟩ a) (nz a pre f cells st wh x c) := by
  rw [tH h, hop]
  simp only [Int.reduceEq, decide_true, decide_false, cond_true, cond_false]
  unfold iI Dj uT uS
  simp only [nY, Int.toNat_natCast, qD, hop, Int.reduceEq, decide_true, decide_false, cond_true, cond_false]
  have hv := h.reg hr
  rw [hv.1]
  simp only [bnd]
  unfold nz
  simp only [hop, Int.reduceEq, if_true, if_false]
  by_cases hk : (ny f.regs c.a).kind = 2
  · have hcell := L9 h.L8 hv.2 hk
    rw [dF (by omega), cond_false, hcell.1]
    simp only [bnd]
    by_cases hl : ((cellAt cells (ny f.regs c.a).n).length : Int) ≤ c.c
    · rw [dT hl, cond_true, if_pos (by omega)]
      exact ⟨_, _, _, rfl, rfl⟩
    · rw [dF hl, cond_false, if_neg (by omega), (h.reg hb).1, bnd, OU hc.1 (by omega), bnd]
      exact ⟨_, _, _, rfl, rfl, rfl, rfl⟩
  · rw [dT hk, cond_true, if_pos (.inl hk)]
    exact ⟨_, _, _, rfl, rfl⟩
theorem Jq (g : LX.Frame) : qg ⟨pre ++ [g], cells, st, wh⟩ = ⟨pre.map (Ht (qL ⟨pre ++ [g], cells, st, wh⟩)) ++ [Ht (qL ⟨pre ++ [g], cells, st, wh⟩) g], (qg ⟨pre ++ [g], cells, st, wh⟩).cells, st, wh⟩ := by
  unfold qg; simp
theorem Qw {s : LX.State} (h : Hu s) : (qg s).cells.length ≤ s.cells.length ∧ (qg s).cells.length ≤ 24 := by
  have h1 := h.reach.1.len
  have := h.cells.1
  unfold qg; simp; omega
theorem Ma (p2 : List LX.Frame) (g : LX.Frame) (cs : List (List Val)) (hl : p2.length ≤ 20) (hcs : cs.length ≤ 24) (hr : wO g.regs.length c.a) (hb : 1 ≤ c.b ∧ c.b ≤ 4) : ∃ ok t, pY c (p2 ++ [g]) cs st wh = some (ok, t) ∧ match L6 ⟨p2 ++ [g], cs, st, wh⟩ c with | none => ok = false | some u => ok = true ∧ t = u := by
  unfold pY L6
  simp only [nY]
  by_cases h : cs.length = 24
  · rw [dT (by omega), cond_true, if_pos h]; exact ⟨_, _, rfl, rfl⟩
  · rw [dF (by omega), cond_false, if_neg h, gI (by omega) (by omega), Dy, bnd, (AJ rfl hr).1, bnd, wB (by omega), wB (room_le (by simp; omega) (by decide)), Int.toNat_natCast, qD]
    refine ⟨_, _, rfl, rfl, ?_⟩
    simp
theorem step5 (ha : mh a) (hN : 100 ≤ N) (h : qh a pre f cells x c) (hop : c.op = 5) (hr : wO x.regs c.a) (hb : 1 ≤ c.b ∧ c.b ≤ 4) : R1 (nW N ⟨pre ++ [f], cells, st, wh⟩ a) (nz a pre f cells st wh x c) := by
  rw [tH h, hop]
  simp only [Int.reduceEq, decide_true, decide_false, cond_true, cond_false]
  unfold iI GI
  simp only [nY, Int.toNat_natCast, qD, hop, Int.reduceEq, decide_true, decide_false, cond_true, cond_false]
  unfold nz
  simp only [hop, Int.reduceEq, if_true, if_false]
  have hm := h.many
  have hsw := qh.sw ha h (st := st) (wh := wh) h.Iq
  have hrr : wO (Iq f x).regs.length c.a := by have := h.Iq.regs; rw [this]; exact hr
  have fin : ∀ s2 : LX.State, (∃ ok t, pY c s2.frames s2.cells s2.status s2.aW = some (ok, t) ∧ match L6 s2 c with | none => ok = false | some u => ok = true ∧ t = u) →
      R1 ((pY c s2.frames s2.cells s2.status s2.aW).bind fun y => some ((⟨false, 0, false⟩ : BM), y.1, y.2)) ((L6 s2 c).map fun t => (t, none, false)) := by
    rintro s2 ⟨ok, t, h1, h2⟩
    rw [h1, bnd]
    cases e : L6 s2 c with
    | none => rw [e] at h2; exact ⟨_, _, _, rfl, h2⟩
    | some u => rw [e] at h2; exact ⟨_, _, _, rfl, h2.1, h2.2, rfl⟩
  by_cases h24 : cells.length = 24
  · rw [dT (by omega), cond_true, if_pos h24]
    have e1 : ({ f with at_ := min (f.at_ + 1) ((x.code.length : Int) - 1) } : LX.Frame) = Iq f x := rfl
    rw [e1, TQ hN hsw, bnd]
    refine fin _ ?_
    rw [Jq]
    exact Ma _ _ _ (by simp; omega) (Qw hsw).2 (by simpa [Ht] using hrr) hb
  · rw [dF (by omega), cond_false, if_neg h24]
    exact fin ⟨pre ++ [Iq f x], cells, st, wh⟩ (Ma _ _ _ (by omega) h.L8.1 hrr hb)
theorem Jr {ρ : Type} {body : Int → Int → List Val → (List Val → Option ρ) → Option ρ} {K : List Val → Option ρ} {r : Int → Val} {P : Int → Prop}
    (hb : ∀ (i : Nat) k y nx, i < y.length → P k → body (i : Int) k y nx = nx (y.set i (r k))) : ∀ (l : List Int) (done rest : List Val), (∀ k ∈ l, P k) → l.length ≤ rest.length → fT body K (done.length : Int) l (done ++ rest) = K (done ++ l.map r ++ rest.drop l.length)
  | [], done, rest, _, _ => by simp [fT]
  | k :: l, done, z :: rest, h, hl => by
    rw [jr, hb done.length k (done ++ z :: rest) _ (by simp) (h k (by simp)), show (done ++ z :: rest).set done.length (r k) = (done ++ [r k]) ++ rest by simp, show ((done.length : Int) + 1) = ((done ++ [r k]).length : Nat) by simp, Jr hb l (done ++ [r k]) rest (fun q hq => h q (List.mem_cons_of_mem _ hq)) (by simpa using hl)]
    simp
  | k :: l, done, [], h, hl => by simp at hl
theorem step7 (ha : mh a) (h : qh a pre f cells x c) (hop : c.op = 7) (hr : wO x.regs c.a) {p : bP} (hp : idx a c.b = some p) (hl : (c.args.length : Int) = p.params) (hargs : ∀ k ∈ c.args, wO x.regs k) : R1 (nW N ⟨pre ++ [f], cells, st, wh⟩ a) (nz a pre f cells st wh x c) := by
  rw [tH h, hop]
  simp only [Int.reduceEq, decide_true, decide_false, cond_true, cond_false]
  unfold iI Kq
  simp only [nY, Int.toNat_natCast, qD, hop, Int.reduceEq, decide_true, decide_false, cond_true, cond_false]
  unfold nz
  simp only [hop, Int.reduceEq, if_true, if_false]
  have hm := h.many
  have hpr := ha.mem hp
  by_cases h10 : pre.length + 1 = 10
  · rw [dT (by simp; omega), cond_true, if_pos h10]; exact ⟨_, _, _, rfl, rfl⟩
  · rw [dF (by simp; omega), cond_false, if_neg h10, hp, bnd, wB (by omega)]
    have Q3 := Jr (K := tZ ⟨pre ++ [Iq f x], cells, st, wh⟩ c a) (body := tY ⟨pre ++ [Iq f x], cells, st, wh⟩) (r := ny f.regs) (P := fun k => wO x.regs k) (fun i k y nx hi hk => by
      unfold tY
      simp only [nY]
      rw [gI (by omega) (by omega), Dy, bnd]
      show ((idx f.regs k).bind fun yg => (idx y (i : Int)).bind fun x41 => nx (y.set ((i : Int)).toNat yg)) = _
      rw [(h.reg hk).1, bnd, xq hi, bnd, Int.toNat_natCast]) c.args [] (List.replicate p.regs.toNat ⟨0, 0⟩) hargs (by simp; omega)
    have Yi : fT (tY ⟨pre ++ [Iq f x], cells, st, wh⟩) (tZ ⟨pre ++ [Iq f x], cells, st, wh⟩ c a) 0 c.args (List.replicate p.regs.toNat ⟨0, 0⟩) = _ := Q3
    have e1 : ({ f with at_ := min (f.at_ + 1) ((x.code.length : Int) - 1) } : LX.Frame) = Iq f x := rfl
    rw [e1, Yi]
    unfold tZ
    simp only
    rw [wB (room_le (by simp; omega) (by decide)), bnd]
    refine ⟨_, _, _, rfl, rfl, ?_, rfl⟩
    simp only [List.nil_append, List.drop_replicate, hp, Option.map_some, Option.getD_some]
    rw [show p.regs.toNat - c.args.length = (p.regs - (c.args.length : Int)).toNat by omega]
theorem step8 (ha : mh a) (h : qh a pre f cells x c) (hop : c.op = 8) (hr : wO x.regs c.a) : R1 (nW N ⟨pre ++ [f], cells, st, wh⟩ a) (nz a pre f cells st wh x c) := by
  rw [tH h, hop]
  simp only [Int.reduceEq, decide_true, decide_false, cond_true, cond_false]
  unfold iI Kr
  simp only [nY, Int.toNat_natCast, qD, hop, Int.reduceEq, decide_true, decide_false, cond_true, cond_false]
  unfold nz
  simp only [hop, Int.reduceEq, if_true, if_false]
  have hm := h.many
  rw [(h.reg hr).1, bnd, gI (by omega) (by omega)]
  rw [show sub? (pre ++ [({ f with at_ := min (f.at_ + 1) ((x.code.length : Int) - 1) } : LX.Frame)]) 0 (pre.length : Int) = some pre by unfold sub?; rw [if_pos (by simp; omega)]; simp [cut], bnd]
  rw [show (pre ++ [({ f with at_ := min (f.at_ + 1) ((x.code.length : Int) - 1) } : LX.Frame)]).take pre.length = pre by simp]
  rcases List.eq_nil_or_concat pre with hp | ⟨q, g, hp⟩
  · subst hp
    exact ⟨_, _, _, rfl, rfl, rfl, rfl⟩
  · rw [List.concat_eq_append] at hp
    subst hp
    have hto := h.qY
    rw [Cv] at hto
    simp only [List.length_append, List.length_cons, List.length_nil] at hm
    rw [dF (by simp; omega), cond_false, nY, gI (by omega) (by omega), Dy, bnd, (AJ rfl hto).1, bnd, Int.toNat_natCast, qD, bnd]
    simp only [List.getLast?_append, List.getLast?_singleton, Option.some_or, List.dropLast_concat]
    exact ⟨_, _, _, rfl, rfl, rfl, rfl⟩
theorem yM (h : qh a pre f cells x c) (hop : (c.op = 9 ∨ c.op = 11 ∨ c.op = 13) ∧ wO x.regs c.a ∨ c.op = 10 ∨ c.op = 12) : R1 (nW N ⟨pre ++ [f], cells, st, wh⟩ a) (nz a pre f cells st wh x c) := by
  rw [tH h]
  rcases hop with ⟨hop | hop | hop, hr⟩ | hop | hop
  · rw [hop]
    simp only [Int.reduceEq, decide_true, decide_false, cond_true, cond_false]
    unfold iI
    simp only [nY, Int.toNat_natCast, qD, hop, Int.reduceEq, decide_true, decide_false, cond_true, cond_false]
    unfold nz
    simp only [hop, Int.reduceEq, if_true, if_false]
    rw [(h.reg hr).1, bnd]
    by_cases hk : (ny f.regs c.a).kind = 1
    · rw [dT hk, if_pos hk]; exact ⟨_, _, _, rfl, rfl, rfl, rfl⟩
    · rw [dF hk, if_neg hk]; exact ⟨_, _, _, rfl, rfl⟩
  · rw [hop]
    simp only [Int.reduceEq, decide_true, decide_false, cond_true, cond_false]
    unfold iI
    simp only [nY, Int.toNat_natCast, qD, hop, Int.reduceEq, decide_true, decide_false, cond_true, cond_false]
    unfold nz
    simp only [hop, Int.reduceEq, if_true, if_false]
    rw [(h.reg hr).1, bnd]
    by_cases hk : (ny f.regs c.a).kind = 1
    · rw [dF (by omega), cond_false, if_pos hk]; exact ⟨_, _, _, rfl, rfl, rfl, rfl⟩
    · rw [dT hk, cond_true, if_neg hk]; exact ⟨_, _, _, rfl, rfl⟩
  · rw [hop]
    simp only [Int.reduceEq, decide_true, decide_false, cond_true, cond_false]
    unfold iI
    simp only [nY, Int.toNat_natCast, qD, hop, Int.reduceEq, decide_true, decide_false, cond_true, cond_false]
    unfold nz
    simp only [hop, Int.reduceEq, if_true, if_false]
    have hv := h.reg hr
    rw [hv.1, bnd]
    have hval := hv.2
    unfold gJ at hval
    by_cases hk : (ny f.regs c.a).kind ≠ 2 ∧ (ny f.regs c.a).n = 0
    · rw [if_pos hk, show (decide ((ny f.regs c.a).kind = 0) || (decide ((ny f.regs c.a).kind = 1) && decide ((ny f.regs c.a).n = 0))) = true by simp; omega, cond_true]
      exact ⟨_, _, _, rfl, rfl, rfl, rfl⟩
    · rw [if_neg hk, show (decide ((ny f.regs c.a).kind = 0) || (decide ((ny f.regs c.a).kind = 1) && decide ((ny f.regs c.a).n = 0))) = false by rw [Bool.or_eq_false_iff, Bool.and_eq_false_iff]; simp only [decide_eq_false_iff_not]; omega, cond_false]
      exact ⟨_, _, _, rfl, rfl, rfl, rfl⟩
  · rw [hop]
    simp only [Int.reduceEq, decide_true, decide_false, cond_true, cond_false]
    unfold iI
    simp only [nY, Int.toNat_natCast, qD, hop, Int.reduceEq, decide_true, decide_false, cond_true, cond_false]
    unfold nz
    simp only [hop, Int.reduceEq, if_true, if_false]
    exact ⟨_, _, _, rfl, rfl, rfl, rfl⟩
  · rw [hop]
    simp only [Int.reduceEq, decide_true, decide_false, cond_true, cond_false]
    unfold iI
    simp only [nY, Int.toNat_natCast, qD, hop, Int.reduceEq, decide_true, decide_false, cond_true, cond_false]
    unfold nz
    simp only [hop, Int.reduceEq, if_true, if_false]
    exact ⟨_, _, _, rfl, rfl, rfl, rfl⟩
theorem NL (ha : mh a) (hN : 100 ≤ N) (h : qh a pre f cells x c) : R1 (nW N ⟨pre ++ [f], cells, st, wh⟩ a) (nz a pre f cells st wh x c) := by
  rcases h.good with g | g | g | g | g | g | g | g | g | g
  · exact step1 h g.1 g.2.1
  · exact step2 h g.1 g.2.1 g.2.2
  · obtain ⟨g1, g2, g3, g4, n, g5, g6, g7⟩ := g
    exact step3 h g1 g2 g3 g4 g5 ⟨g6, g7⟩
  · obtain ⟨g1 | g1, g2, g3, g4⟩ := g
    · exact Qu h g1 g2 g3 g4
    · exact Qv h g1 g2 g3 g4
  · exact step5 ha hN h g.1 g.2.1 g.2.2
  · obtain ⟨g1, g2, ⟨p, g3, g4⟩, g5⟩ := g
    exact step7 ha h g1 g2 g3 g4 g5
  · obtain ⟨g1 | g1 | g1, g2⟩ := g
    · exact step8 ha h g1 g2
    · exact yM h (.inl ⟨.inl g1, g2⟩)
    · exact yM h (.inl ⟨.inr (.inl g1), g2⟩)
  · exact yM h (.inr (.inl g))
  · exact yM h (.inr (.inr g.1))
  · exact yM h (.inl ⟨.inr (.inr g.1), g.2.1⟩)
end
end Go.Proofs.YtfclkapelkhlpaaGreatDoor
namespace Go.Proofs.YtfclkapelkhlpaaGreatDoor
open Go Go.Proofs Go.LX
theorem gJ.up {n m : Nat} {v : Val} (h : gJ n v) (hm : n ≤ m) : gJ m v := by unfold gJ at *; omega
theorem xJ.up {a : List bP} {n m : Nat} {f : LX.Frame} {x : bP} (h : xJ a n f x) (hm : n ≤ m) : xJ a m f x := ⟨h.proc, h.at_, h.regs, fun v hv => (h.vals v hv).up hm⟩
theorem AL {a : List bP} {n m : Nat} (hm : n ≤ m) : ∀ {l : List LX.Frame} {t : Int}, jd a n t l → jd a m t l
  | [], _, _ => trivial
  | f :: l, t, h => by obtain ⟨⟨x, g⟩, h2, h3⟩ := h; exact ⟨⟨x, g.up hm⟩, h2, AL hm h3⟩
theorem TR {n : Nat} {l : List Int} {v : Val} (h : gJ n v) (hr : v.kind = 2 → v.n ∈ l) : gJ l.length (ren l v) := by
  unfold ren
  by_cases hk : v.kind = 2
  · rw [if_pos hk]
    have := List.idxOf_lt_length_of_mem (hr hk)
    unfold gJ
    simp only
    omega
  · rw [if_neg hk]; unfold gJ at *; omega
theorem xJ.ren {a : List bP} {n : Nat} {l : List Int} {f : LX.Frame} {x : bP} (h : xJ a n f x) (hr : jR f.regs l) : xJ a l.length (Ht l f) x where
  proc := h.proc
  at_ := h.at_
  regs := by unfold Ht; simpa using h.regs
  vals v hv := by
    unfold Ht at hv
    simp only [List.mem_map] at hv
    obtain ⟨w, hw, rfl⟩ := hv
    exact TR (h.vals w hw) (hr w hw)
theorem Dz {a : List bP} {n : Nat} {r : List Int} : ∀ {l : List LX.Frame} {t : Int}, jd a n t l → (∀ f ∈ l, jR f.regs r) → jd a r.length t (l.map (Ht r))
  | [], _, _, _ => trivial
  | f :: l, t, h, hr => by
    obtain ⟨⟨x, g⟩, h2, h3⟩ := h
    refine ⟨⟨x, g.ren (hr f (by simp))⟩, h2, ?_⟩
    have := Dz h3 (fun k hk => hr k (List.mem_cons_of_mem _ hk))
    simpa [Ht] using this
theorem Mc {s : LX.State} (h : Hu s) : mE (qg s).cells := by
  have hr := h.reach
  have hl := hr.1.len
  have hn := h.cells.1
  refine ⟨by simp [qg]; omega, fun c hc => ?_⟩
  unfold qg at hc ⊢
  simp only [List.mem_map, List.length_map] at hc ⊢
  obtain ⟨k, hk, rfl⟩ := hc
  have hk2 := h.cells.at (hr.1.2 k hk)
  refine ⟨by simpa using hk2.1, fun v hv => ?_⟩
  obtain ⟨w, hw, rfl⟩ := List.mem_map.1 hv
  exact TR (hk2.2 w hw) (hr.2.2 k hk w hw)
theorem TS {a : List bP} (ha : mh a) {s : LX.State} (h : rY a s) : rY a (qg s) where
  status := h.status
  aW := h.aW
  stay := h.stay
  ended := by rw [show (qg s).status = s.status from rfl, h.ended]; simp [qg]
  many := by simpa [qg] using h.many
  cells := Mc (h.sw ha)
  frames := by
    have hr := (h.sw ha).reach
    have := Dz h.frames (LZ hr.2.1)
    simpa [qg] using this
theorem Md {n : Nat} {r : List Val} {i : Nat} {v : Val} (h : ∀ w ∈ r, gJ n w) (hv : gJ n v) : ∀ w ∈ r.set i v, gJ n w := fun w hw => by
  rcases List.mem_or_eq_of_mem_set hw with hw | rfl
  · exact h w hw
  · exact hv
section
variable {a : List bP} {pre : List LX.Frame} {f : LX.Frame} {cells : List (List Val)} {wh : Int} {x : bP} {c : Ins} {N : Nat}
theorem qh.st (h : qh a pre f cells x c) {g : LX.Frame} {y : bP} {cs : List (List Val)} {s w : Int} (hg : xJ a cs.length g y) (hto : g.qY = f.qY) (hc : mE cs) (hl : cells.length ≤ cs.length) (hs : (s = 0 ∧ w = 0) ∨ (s = 3 ∧ -1000000000 ≤ w ∧ w ≤ 1000000000)) : rY a ⟨pre ++ [g], cs, s, w⟩ where
  status := by simp only; omega
  aW := by simp only; omega
  stay := by simp only; omega
  ended := by simp; omega
  many := by have := h.many; simp; omega
  cells := hc
  frames := kv.2 ⟨AL hl h.chain, ⟨y, hg⟩, by rw [hto]; exact h.qY⟩
theorem Yj {n : Nat} {k : Int} {b c v : Val} (hk : 1 ≤ k ∧ k ≤ 5) (h : Yf k b c = some v) : gJ n v := by
  unfold Yf at h
  split at h
  · cases h; split <;> (unfold gJ; simp)
  split at h
  · cases h
  split at h
  · cases h; split <;> (unfold gJ; simp)
  simp only at h
  generalize (if k = 1 then b.n + c.n else if k = 2 then b.n - c.n else b.n * c.n) = z at h
  split at h
  · rename_i hz; cases h; exact .inr (.inl ⟨rfl, hz.1, hz.2⟩)
  · cases h
theorem xJ.put {n : Nat} {f : LX.Frame} {x : bP} (h : xJ a n f x) {i : Nat} {v : Val} (hv : gJ n v) : xJ a n { f with regs := f.regs.set i v } x := ⟨h.proc, h.at_, by simpa using h.regs, Md h.vals hv⟩
theorem xJ.jump {n : Nat} {f : LX.Frame} {x : bP} (h : xJ a n f x) {b : Int} (hb : 0 ≤ b ∧ b < x.code.length) : xJ a n { f with at_ := b } x := ⟨h.proc, hb, h.regs, h.vals⟩
theorem OV {s t : LX.State} {g : LX.Frame} (h : L6 ⟨pre ++ [g], cells, 0, wh⟩ c = some t) (hs : rY a ⟨pre ++ [g], cells, 0, wh⟩) (hb : 1 ≤ c.b ∧ c.b ≤ 4) : rY a t ∧ t.status = 0 := by
  unfold L6 at h
  split at h
  · cases h
  rename_i h24
  simp only [List.dropLast_concat, List.getLast?_append, List.getLast?_singleton, Option.some_or, Option.map_some, Option.toList_some] at h h24
  cases h
  obtain ⟨h1, ⟨x, h2⟩, h3⟩ := kv.1 hs.frames
  have hc := hs.cells
  simp only at h1 h2 h3 hc
  have hle : cells.length ≤ (cells ++ [List.replicate c.b.toNat (⟨0, 0⟩ : Val)]).length := by simp
  refine ⟨⟨hs.status, hs.aW, hs.stay, by simp, by simpa using hs.many, ⟨?_, ?_⟩, kv.2 ⟨AL hle h1, ⟨x, (h2.up hle).put ?_⟩, h3⟩⟩, rfl⟩
  · have := hc.1; simp; omega
  · intro d hd
    rcases List.mem_append.1 hd with hd | hd
    · have := hc.2 d hd
      exact ⟨this.1, fun v hv => (this.2 v hv).up hle⟩
    · simp at hd; subst hd
      refine ⟨by simp; omega, fun v hv => ?_⟩
      have := List.eq_of_mem_replicate hv
      subst this
      unfold gJ; simp
  · unfold gJ; simp; try omega
theorem NM (ha : mh a) (h : qh a pre f cells x c) (hw : wh = 0) {t : LX.State} {said : Option Int} {p : Bool} (hs : nz a pre f cells 0 wh x c = some (t, said, p)) :
    rY a t ∧ (t.status = 0 ∨ t.status = 1 ∧ p = false ∨ t.status = 3 ∧ p = true) ∧ (said.isSome → t.status = 0 ∧ c.op = 9) := by
  subst hw
  have Qx := h.Iq
  have hput : ∀ {v : Val}, gJ cells.length v → rY a ⟨pre ++ [{ Iq f x with regs := f.regs.set c.a.toNat v }], cells, 0, 0⟩ := fun hv => h.st (Qx.put hv) rfl h.L8 (Nat.le_refl _) (.inl ⟨rfl, rfl⟩)
  have Js : rY a ⟨pre ++ [Iq f x], cells, 0, 0⟩ := h.st Qx rfl h.L8 (Nat.le_refl _) (.inl ⟨rfl, rfl⟩)
  have Wv : (0 ≤ c.b ∧ c.b < x.code.length) → rY a ⟨pre ++ [{ Iq f x with at_ := c.b }], cells, 0, 0⟩ := fun hb => h.st (Qx.jump hb) rfl h.L8 (Nat.le_refl _) (.inl ⟨rfl, rfl⟩)
  unfold nz at hs
  rcases h.good with g | g | g | g | g | g | g | g | g | g
  · obtain ⟨hop, hr, hb⟩ := g
    simp only [hop, Int.reduceEq, if_true, if_false] at hs
    cases hs
    exact ⟨hput (.inr (.inl ⟨rfl, hb.1, hb.2⟩)), .inl rfl, by simp⟩
  · obtain ⟨hop, hr, hb⟩ := g
    simp only [hop, Int.reduceEq, if_true, if_false] at hs
    cases hs
    exact ⟨hput (h.reg hb).2, .inl rfl, by simp⟩
  · obtain ⟨hop, hr, hb, hc, n, hn, hn1⟩ := g
    simp only [hop, hn, Int.reduceEq, if_true, if_false, List.headD_cons] at hs
    obtain ⟨v, hv, hs⟩ := Option.map_eq_some_iff.1 hs
    cases hs
    exact ⟨hput (Yj hn1 hv), .inl rfl, by simp⟩
  · obtain ⟨hop, hr, hb, hc⟩ := g
    rcases hop with hop | hop
    · simp only [hop, Int.reduceEq, if_true, if_false] at hs
      split at hs
      · cases hs
      · rename_i hbad
        cases hs
        have hk : (ny f.regs c.b).kind = 2 := by omega
        have hv := (h.reg hb).2
        have hcell := h.L8.at (hv.ref hk)
        exact ⟨hput (hcell.2 _ (AJ rfl ⟨hc.1, by omega⟩).2), .inl rfl, by simp⟩
    · simp only [hop, Int.reduceEq, if_true, if_false] at hs
      split at hs
      · cases hs
      · rename_i hbad
        cases hs
        have hk : (ny f.regs c.a).kind = 2 := by omega
        have hv := (h.reg hr).2
        have hcell := h.L8.at (hv.ref hk)
        refine ⟨h.st (by simpa using Qx) rfl ⟨by simpa using h.L8.1, fun d hd => ?_⟩ (by simp) (.inl ⟨rfl, rfl⟩), .inl rfl, by simp⟩
        rw [List.length_set]
        rcases List.mem_or_eq_of_mem_set hd with hd | rfl
        · exact h.L8.2 d hd
        · exact ⟨by simpa using hcell.1, Md hcell.2 (h.reg hb).2⟩
  · obtain ⟨hop, hr, hb⟩ := g
    simp only [hop, Int.reduceEq, if_true, if_false] at hs
    obtain ⟨u, hu, hs⟩ := Option.map_eq_some_iff.1 hs
    cases hs
    split at hu
    · have hsw := TS ha Js
      rw [Jq] at hu hsw
      have := OV (s := t) hu hsw hb
      exact ⟨this.1, .inl this.2, by simp⟩
    · have := OV (s := t) hu Js hb
      exact ⟨this.1, .inl this.2, by simp⟩
  · obtain ⟨hop, hr, ⟨p1, hp, hl⟩, hargs⟩ := g
    simp only [hop, Int.reduceEq, if_true, if_false] at hs
    split at hs
    · cases hs
    · rename_i h10
      cases hs
      have hpr := ha.mem hp
      have hm := h.many
      refine ⟨⟨by simp, by simp, by simp, by simp, by simp; omega, h.L8, kv.2 ⟨Js.frames, ⟨p1, ⟨hp, ?_, ?_, ?_⟩⟩, ?_⟩⟩, .inl rfl, by simp⟩
      · have := hpr.2.2.2; unfold oV at this; simp only; omega
      · simp only [hp, Option.map_some, Option.getD_some, List.length_append, List.length_map, List.length_replicate]; omega
      · intro v hv
        rcases List.mem_append.1 hv with hv | hv
        · obtain ⟨k, hk, rfl⟩ := List.mem_map.1 hv
          exact (h.reg (hargs k hk)).2
        · have := List.eq_of_mem_replicate hv
          subst this; unfold gJ; simp
      · simp only [List.getLast?_append, List.getLast?_singleton, Option.some_or]
        have h1 := Qx.regs
        rw [h1]; exact hr
  · obtain ⟨hop, hr⟩ := g
    rcases hop with hop | hop | hop
    · simp only [hop, Int.reduceEq, if_true, if_false] at hs
      rcases List.eq_nil_or_concat pre with hp | ⟨q, g, hp⟩
      · subst hp
        simp only [List.getLast?_nil] at hs
        cases hs
        exact ⟨⟨by simp, by simp, by simp, by simp, by simp, h.L8, trivial⟩, .inr (.inl ⟨rfl, rfl⟩), by simp⟩
      · rw [List.concat_eq_append] at hp
        subst hp
        simp only [List.getLast?_append, List.getLast?_singleton, Option.some_or, List.dropLast_concat] at hs
        cases hs
        obtain ⟨c1, ⟨y, c2⟩, c3⟩ := kv.1 h.chain
        have hm := h.many
        simp only [List.length_append, List.length_cons, List.length_nil] at hm
        exact ⟨⟨by simp, by simp, by simp, by simp, by simp; omega, h.L8, kv.2 ⟨c1, ⟨y, c2.put (h.reg hr).2⟩, c3⟩⟩, .inl rfl, by simp⟩
    · simp only [hop, Int.reduceEq, if_true, if_false] at hs
      split at hs
      · cases hs; exact ⟨Js, .inl rfl, fun _ => ⟨rfl, hop⟩⟩
      · cases hs
    · simp only [hop, Int.reduceEq, if_true, if_false] at hs
      split at hs
      · rename_i hk
        cases hs
        exact ⟨h.st Qx rfl h.L8 (Nat.le_refl _) (.inr ⟨rfl, (h.reg hr).2.int hk⟩), .inr (.inr ⟨rfl, rfl⟩), by simp⟩
      · cases hs
  · simp only [g, Int.reduceEq, if_true, if_false] at hs
    cases hs; exact ⟨Js, .inl rfl, by simp⟩
  · obtain ⟨hop, hb⟩ := g
    simp only [hop, Int.reduceEq, if_true, if_false] at hs
    cases hs; exact ⟨Wv hb, .inl rfl, by simp⟩
  · obtain ⟨hop, hr, hb⟩ := g
    simp only [hop, Int.reduceEq, if_true, if_false] at hs
    cases hs
    split
    · exact ⟨Wv hb, .inl rfl, by simp⟩
    · exact ⟨Js, .inl rfl, by simp⟩
end
end Go.Proofs.YtfclkapelkhlpaaGreatDoor
namespace Go.Proofs.YtfclkapelkhlpaaGreatDoor
open Go Go.Proofs Go.LX
def OW (a : List bP) (f : LX.Frame) : Option (bP × Ins) := (idx a f.proc).bind fun x => (idx x.code f.at_).map fun c => (x, c)
def wP (a : List bP) (s : LX.State) : Option (LX.State × Option Int × Bool) :=
  s.frames.getLast?.bind fun f => (OW a f).bind fun q => nz a s.frames.dropLast f s.cells s.status s.aW q.1 q.2
def BJ (a : List bP) (s : LX.State) : Int := ((s.frames.getLast?.bind fun f => OW a f).map fun q => q.2.op).getD 0
def qi (a : List bP) : Nat → List Int → Nat → LX.State → LX.State × List Int × Nat
  | 0, said, n, s => (s, said, n)
  | m + 1, said, n, s =>
    if s.status ≠ 0 then (s, said, n) else
    if said.length = 40 ∧ BJ a s = 9 then (s, said, n) else
    match wP a s with
    | none => ({ s with status := 2 }, said, n + 1)
    | some (t, o, p) => if p then (t, said ++ o.toList, n + 1) else qi a m (said ++ o.toList) (n + 1) t
theorem EU {a : List bP} (ha : mh a) {s : LX.State} (h : rY a s) (hs : s.status = 0) : ∃ pre f x c, s = ⟨pre ++ [f], s.cells, 0, 0⟩ ∧ qh a pre f s.cells x c ∧ wP a s = nz a pre f s.cells 0 0 x c ∧ BJ a s = c.op := by
  obtain ⟨fr, cells, st, wh⟩ := s
  simp only at hs
  subst hs
  have hw : wh = 0 := h.stay (by simp)
  subst hw
  rcases List.eq_nil_or_concat fr with hp | ⟨pre, f, hp⟩
  · have := h.ended.2 hp; simp at this
  · rw [List.concat_eq_append] at hp
    subst hp
    obtain ⟨x, c, g⟩ := Yh ha h
    refine ⟨pre, f, x, c, rfl, g, ?_, ?_⟩
    · unfold wP OW
      simp only [List.getLast?_append, List.getLast?_singleton, Option.some_or, List.dropLast_concat, bnd, g.fr.proc, g.ins, Option.map_some]
    · unfold BJ OW
      simp only [List.getLast?_append, List.getLast?_singleton, Option.some_or, bnd, g.fr.proc, g.ins, Option.map_some, Option.getD_some]
theorem Qy {a : List bP} (ha : mh a) {s : LX.State} (h : rY a s) (hs : s.status = 0) {N : Nat} (hN : 100 ≤ N) : R1 (nW N s a) (wP a s) := by
  obtain ⟨pre, f, x, c, h1, h2, h3, -⟩ := EU ha h hs
  rw [h3]
  generalize s.cells = cells at *
  subst h1
  exact NL ha hN h2
theorem Fs {a : List bP} (ha : mh a) {s : LX.State} (h : rY a s) (hs : s.status = 0) {t : LX.State} {o : Option Int} {p : Bool} (hq : wP a s = some (t, o, p)) :
    rY a t ∧ (t.status = 0 ∨ t.status = 1 ∧ p = false ∨ t.status = 3 ∧ p = true) ∧ (o.isSome → t.status = 0 ∧ BJ a s = 9) := by
  obtain ⟨pre, f, x, c, h1, h2, h3, h4⟩ := EU ha h hs
  rw [h3] at hq
  rw [h4]
  exact NM ha h2 rfl hq
theorem Qz {a : List bP} (ha : mh a) {s : LX.State} (h : rY a s) (hs : s.status = 0) : (s.frames.length ≤ 10 ∧ 1 ≤ s.frames.length) ∧ ∃ f x c, idx s.frames ((s.frames.length : Int) - 1) = some f ∧ idx a f.proc = some x ∧ idx x.code f.at_ = some c ∧ c.op = BJ a s := by
  obtain ⟨pre, f, x, c, h1, h2, h3, h4⟩ := EU ha h hs
  refine ⟨⟨h.many, by rw [h1]; simp⟩, f, x, c, ?_, h2.fr.proc, h2.ins, h4.symm⟩
  have : s.frames = pre ++ [f] := by rw [h1]
  rw [this, nY, Dy]
theorem VH {a : List bP} {s : LX.State} (h : rY a s) (hs : s.status = 0) : rY a { s with status := 2 } := by
  have hw : s.aW = 0 := h.stay (by omega)
  refine ⟨by simp, h.aW, fun _ => hw, ?_, h.many, h.cells, h.frames⟩
  constructor
  · intro e; simp at e
  · intro e
    have := h.ended.2 e
    omega
theorem Me {a : List bP} (ha : mh a) {N : Nat} (hN : 100 ≤ N) (c : Int) : ∀ (m M : Nat) (said : List Int) (n : Nat) (s : LX.State), rY a s → said.length ≤ 40 → c = (n : Int) + m → c ≤ 2000 → m < M →
    again (rD N c a) M (said, (n : Int), s.frames, s.cells, s.status, s.aW) = some ((qi a m said n s).1, (qi a m said n s).2.1, ((qi a m said n s).2.2 : Int), 0)
  | m, 0, said, n, s, h, hl, hc, hb, hM => by omega
  | 0, M + 1, said, n, s, h, hl, hc, hb, hM => by
    rw [Dt]
    unfold rD rU qi
    simp only
    rw [show (decide ((n : Int) < c) && decide ((s.status : Int) = 0)) = false by rw [dF (by omega)]; rfl, cond_false]
  | m + 1, M + 1, said, n, s, h, hl, hc, hb, hM => by
    rw [Dt]
    have ih := Me ha hN c m M
    generalize again (rD N c a) M = K at ih ⊢
    unfold rD qi
    simp only
    by_cases hs : s.status = 0
    · rw [dT (by omega), dT hs, Bool.true_and, cond_true, if_neg (by omega)]
      obtain ⟨hfr, f, x, i, r1, r2, r3, r4⟩ := Qz ha h hs
      rw [gI (by omega) (by omega), r1, bnd]
      have go : wN N said n s.frames s.cells s.status s.aW a K false = some (match wP a s with
          | none => ({ s with status := 2 }, said, ((n + 1 : Nat) : Int), 0)
          | some (t, o, p) => if p then (t, said ++ o.toList, ((n + 1 : Nat) : Int), 0) else ((qi a m (said ++ o.toList) (n + 1) t).1, (qi a m (said ++ o.toList) (n + 1) t).2.1, ((qi a m (said ++ o.toList) (n + 1) t).2.2 : Int), 0)) ∨ (said.length = 40 ∧ BJ a s = 9) := by
        by_cases hstop : said.length = 40 ∧ BJ a s = 9
        · exact .inr hstop
        left
        unfold wN
        rw [cond_false, show (⟨s.frames, s.cells, s.status, s.aW⟩ : LX.State) = s from rfl, copy_eq (h.small ha), bnd]
        obtain ⟨o, ok, s', e1, e2⟩ := Qy ha h hs hN
        rw [e1, bnd, gI (by omega) (by omega)]
        cases eq : wP a s with
        | none =>
          rw [eq] at e2
          simp only at e2
          subst e2
          simp only [Bool.not_false, cond_true]
          unfold rU
          push_cast; rfl
        | some q =>
          obtain ⟨t, o2, p⟩ := q
          rw [eq] at e2
          obtain ⟨rfl, rfl, rfl⟩ := e2
          have hk := Fs ha h hs eq
          simp only [Bool.not_true, cond_false]
          have fin : ∀ l, l = said ++ o2.toList → l.length ≤ 40 → wM (⟨o2.isSome, o2.getD 0, p⟩, true, s') n K l = some (if p then (s', said ++ o2.toList, ((n + 1 : Nat) : Int), 0) else ((qi a m (said ++ o2.toList) (n + 1) s').1, (qi a m (said ++ o2.toList) (n + 1) s').2.1, ((qi a m (said ++ o2.toList) (n + 1) s').2.2 : Int), 0)) := by
            intro l hl1 hl2
            subst hl1
            unfold wM rU
            simp only
            cases p with
            | true => rw [cond_true, if_pos rfl]; push_cast; rfl
            | false =>
              rw [cond_false, if_neg (by simp)]
              have := ih (said ++ o2.toList) (n + 1) s' hk.1 hl2 (by push_cast; omega) hb (by omega)
              rw [← this]; push_cast; rfl
          cases o2 with
          | none =>
            simp only [Option.isSome_none, cond_false]
            exact fin said (by simp) hl
          | some z =>
            have h9 := (hk.2.2 rfl).2
            simp only [Option.isSome_some, cond_true]
            rw [wB (room_le (by simp; omega) (by decide))]
            exact fin (said ++ [z]) (by simp) (by simp; omega)
      by_cases Uy : said.length = 40
      · rw [dT (by omega), cond_true, r2, bnd, r3, bnd, r4]
        by_cases h9 : BJ a s = 9
        · rw [if_pos ⟨Uy, h9⟩, dT h9]; rfl
        · rw [if_neg (fun e => h9 e.2), dF h9]
          rcases go with go | go
          · rw [go]; cases wP a s with
            | none => rfl
            | some q => obtain ⟨t, o, p⟩ := q; cases p <;> rfl
          · exact absurd go.2 h9
      · rw [dF (by omega), cond_false, if_neg (fun e => Uy e.1)]
        rcases go with go | go
        · rw [go]; cases wP a s with
          | none => rfl
          | some q => obtain ⟨t, o, p⟩ := q; cases p <;> rfl
        · exact absurd go.1 Uy
    · rw [dF hs, Bool.and_false, cond_false, if_pos hs]; rfl
theorem Jt {a : List bP} (ha : mh a) : ∀ (m : Nat) (said : List Int) (n : Nat) (s : LX.State), rY a s → said.length ≤ 40 →
    rY a (qi a m said n s).1 ∧ (qi a m said n s).2.1.length ≤ 40 ∧ n ≤ (qi a m said n s).2.2 ∧ (qi a m said n s).2.2 ≤ n + m ∧ said <+: (qi a m said n s).2.1 ∧ (qi a m said n s).2.1.length ≤ said.length + ((qi a m said n s).2.2 - n) ∧ ((qi a m said n s).2.2 = n → (qi a m said n s).1 = s)
  | 0, said, n, s, h, hl => ⟨h, hl, Nat.le_refl _, Nat.le_refl _, List.prefix_refl _, by simp [qi], fun _ => rfl⟩
  | m + 1, said, n, s, h, hl => by
    unfold qi
    by_cases hs : s.status = 0
    · rw [if_neg (by omega)]
      by_cases Uy : said.length = 40 ∧ BJ a s = 9
      · rw [if_pos Uy]; exact ⟨h, hl, Nat.le_refl _, by simp, List.prefix_refl _, by simp, fun _ => rfl⟩
      · rw [if_neg Uy]
        cases eq : wP a s with
        | none => exact ⟨VH h hs, hl, by simp, by simp, List.prefix_refl _, by simp, fun e => by simp at e⟩
        | some q =>
          obtain ⟨t, o, p⟩ := q
          have hk := Fs ha h hs eq
          have hlen : (said ++ o.toList).length ≤ 40 := by
            cases o with
            | none => simpa using hl
            | some z => have h9 := (hk.2.2 rfl).2; simp; omega
          have ho : o.toList.length ≤ 1 := by cases o <;> simp
          simp only
          split
          · exact ⟨hk.1, hlen, by simp, by simp, List.prefix_append _ _, by show (said ++ o.toList).length ≤ said.length + (n + 1 - n); rw [List.length_append]; omega, fun e => by simp at e⟩
          · obtain ⟨i1, i2, i3, i4, i5, i6, i7⟩ := Jt ha m (said ++ o.toList) (n + 1) t hk.1 hlen
            refine ⟨i1, i2, by omega, by omega, (List.prefix_append _ _).trans i5, ?_, fun e => by omega⟩
            rw [List.length_append] at i6; omega
    · rw [if_pos hs]; exact ⟨h, hl, Nat.le_refl _, by simp, List.prefix_refl _, by simp, fun _ => rfl⟩
theorem QA (a : List bP) (s : LX.State) (c : Int) {N : Nat} (hN : 3000 ≤ N) : Ku N a s c = some (if Jk a ≠ 0 then (⟨[], [], 0, 0⟩, [], 0, Jk a) else if TK a s ≠ 0 then (⟨[], [], 0, 0⟩, [], 0, TK a s) else if c < 0 ∨ 2000 < c then (⟨[], [], 0, 0⟩, [], 0, 3) else if s.status ≠ 0 then (⟨[], [], 0, 0⟩, [], 0, 7) else ((qi a c.toNat [] 0 s).1, (qi a c.toNat [] 0 s).2.1, ((qi a c.toNat [] 0 s).2.2 : Int), 0)) := by
  unfold Ku
  rw [Fq, bnd]
  by_cases h1 : Jk a = 0
  · rw [if_neg (by omega), if_neg (by omega)]
    by_cases h2 : TK a s = 0
    · rw [dF (by omega), cond_false, if_neg (by omega)]
      by_cases h3 : c < 0 ∨ 2000 < c
      · rw [show (decide ((c : Int) < 0) || decide ((2000 : Int) < c)) = true by rw [Bool.or_eq_true]; simp only [decide_eq_true_eq]; exact h3, cond_true, if_pos h3]
      · rw [show (decide ((c : Int) < 0) || decide ((2000 : Int) < c)) = false by rw [Bool.or_eq_false_iff]; simp only [decide_eq_false_iff_not]; omega, cond_false, if_neg h3]
        by_cases h4 : s.status = 0
        · rw [dF (by omega), cond_false, if_neg (by omega)]
          have ha := yL h1
          have hs := Kz.1 h2
          rw [copy_eq (hs.small ha), bnd]
          have := Me ha (N := N) (by omega) c c.toNat N [] 0 s hs (by simp) (by omega) (by omega) (by omega)
          exact this
        · rw [dT h4, cond_true, if_pos h4]
    · rw [dT h2, cond_true, if_pos h2]
  · rw [if_pos h1, if_pos h1, dT h1, cond_true]
theorem NP (a : List bP) (s : LX.State) : FU a s = some (if Jk a ≠ 0 then (⟨[], [], 0, 0⟩, Jk a) else if TK a s ≠ 0 then (⟨[], [], 0, 0⟩, TK a s) else if s.status ≠ 3 then (⟨[], [], 0, 0⟩, 7) else (⟨s.frames, s.cells, 0, 0⟩, 0)) := by
  unfold FU
  rw [Fq, bnd]
  by_cases h1 : Jk a = 0
  · rw [if_neg (by omega), if_neg (by omega)]
    by_cases h2 : TK a s = 0
    · rw [dF (by omega), cond_false, if_neg (by omega)]
      by_cases h4 : s.status = 3
      · rw [dF (by omega), cond_false, if_neg (by omega), copy_eq ((Kz.1 h2).small (yL h1)), bnd]
      · rw [dT h4, cond_true, if_pos h4]
    · rw [dT h2, cond_true, if_pos h2]
  · rw [if_pos h1, if_pos h1, dT h1, cond_true]
def mi (a : List bP) : LX.State := ⟨[⟨0, 0, List.replicate (((idx a 0).map (fun x : bP => x.regs)).getD 0).toNat ⟨0, 0⟩, 0⟩], [], 0, 0⟩
theorem Hz {a : List bP} (ha : mh a) : ∃ x, idx a 0 = some x := by
  have := ha.many
  cases a with
  | nil => simp at this
  | cons x l => exact ⟨x, VE x l⟩
theorem QB (a : List bP) : Kj a = some (if Jk a ≠ 0 then (⟨[], [], 0, 0⟩, Jk a) else (mi a, 0)) := by
  unfold Kj
  rw [NJ, bnd]
  by_cases h1 : Jk a = 0
  · rw [dF (by omega), cond_false, if_neg (by omega)]
    obtain ⟨x, hx⟩ := Hz (yL h1)
    have := ((yL h1).mem hx).2.2.1
    rw [hx, bnd, wB (by omega)]
    unfold mi
    rw [hx]; rfl
  · rw [dT h1, cond_true, if_pos h1]
theorem TT {a : List bP} (ha : mh a) : rY a (mi a) := by
  obtain ⟨x, hx⟩ := Hz ha
  have hm := ha.mem hx
  have hl := hm.2.2.2
  unfold oV at hl
  refine ⟨by simp [mi], by simp [mi], by simp [mi], by simp [mi], by simp [mi], ⟨by simp [mi], fun c hc => by simp [mi] at hc⟩, ⟨x, hx, by simp only; omega, ?_, fun v hv => ?_⟩, by simp, trivial⟩
  · simp only [hx, Option.map_some, Option.getD_some, List.length_replicate]; omega
  · have := List.eq_of_mem_replicate hv
    subst this; unfold gJ; simp
end Go.Proofs.YtfclkapelkhlpaaGreatDoor
namespace Go.Proofs.YtfclkapelkhlpaaGreatDoor
open Go Go.Proofs Go.LX
theorem NQ : 3000 ≤ NN := by decide
end Go.Proofs.YtfclkapelkhlpaaGreatDoor
namespace Go.Proofs.YtfclkapelkhlpaaGreatDoor
open Go Go.Proofs Go.LX
def Mf (ρ : Int → Int) (v : Val) : Val := if v.kind = 2 then ⟨v.kind, ρ v.n⟩ else v
def TU (ρ : Int → Int) (f : LX.Frame) : LX.Frame := { f with regs := f.regs.map (Mf ρ) }
structure Ww (ρ : Int → Int) (R : List Int) (s t : LX.State) : Prop where
  frames : t.frames = s.frames.map (TU ρ)
  status : t.status = s.status
  aW : t.aW = s.aW
  roots : jR (YtfclkapelkhlpaaGreatDoor.roots s.frames) R
  range : ∀ x ∈ R, 0 ≤ x ∧ x < s.cells.length
  range' : ∀ x ∈ R, 0 ≤ ρ x ∧ ρ x < t.cells.length
  inj : ∀ x ∈ R, ∀ y ∈ R, ρ x = ρ y → x = y
  cells : ∀ x ∈ R, cellAt t.cells (ρ x) = (cellAt s.cells x).map (Mf ρ) ∧ jR (cellAt s.cells x) R
theorem TV (ρ : Int → Int) {v : Val} (h : v.kind = 2) : Mf ρ v = ⟨v.kind, ρ v.n⟩ := if_pos h
theorem VI (ρ : Int → Int) {v : Val} (h : v.kind ≠ 2) : Mf ρ v = v := if_neg h
section
variable {ρ : Int → Int} {R : List Int} {s t : LX.State}
theorem Mg (hi : ∀ x ∈ R, ∀ y ∈ R, ρ x = ρ y → x = y) {l : List Int} (hl : ∀ x ∈ l, x ∈ R) {x : Int} (hx : x ∈ R) : ρ x ∈ l.map ρ ↔ x ∈ l := by
  constructor
  · intro h
    obtain ⟨y, hy, e⟩ := List.mem_map.1 h
    rw [← hi y (hl y hy) x hx e]; exact hy
  · exact fun h => List.mem_map_of_mem h
theorem TW (hi : ∀ x ∈ R, ∀ y ∈ R, ρ x = ρ y → x = y) {l : List Int} (hl : ∀ x ∈ l, x ∈ R) {v : Val} (hv : v.kind = 2 → v.n ∈ R) : Dv (l.map ρ) (Mf ρ v) = (Dv l v).map ρ ∧ ∀ x ∈ Dv l v, x ∈ R := by
  unfold Dv
  by_cases hk : v.kind = 2
  · rw [TV ρ hk]
    simp only [hk, true_and]
    have hm' := Mg hi hl (hv hk)
    by_cases hm : v.n ∈ l
    · rw [if_neg (fun h => h (hm'.2 hm)), if_neg (fun h => h hm)]; exact ⟨rfl, hl⟩
    · rw [if_pos (fun h => hm (hm'.1 h)), if_pos hm]
      refine ⟨by simp, fun x hx => ?_⟩
      rcases List.mem_append.1 hx with hx | hx
      · exact hl x hx
      · simp at hx; subst hx; exact hv hk
  · rw [VI ρ hk, if_neg (fun h => hk h.1), if_neg (fun h => hk h.1)]; exact ⟨rfl, hl⟩
theorem HV (hi : ∀ x ∈ R, ∀ y ∈ R, ρ x = ρ y → x = y) : ∀ {vs : List Val} {l : List Int}, (∀ x ∈ l, x ∈ R) → jR vs R → Dw (l.map ρ) (vs.map (Mf ρ)) = (Dw l vs).map ρ ∧ ∀ x ∈ Dw l vs, x ∈ R
  | [], l, hl, _ => ⟨rfl, hl⟩
  | v :: vs, l, hl, hv => by
    obtain ⟨h1, h2⟩ := TW hi hl (hv v (by simp))
    rw [List.map_cons, Bq, Bq, h1]
    exact HV hi h2 (fun w hw => hv w (List.mem_cons_of_mem _ hw))
theorem Ww.Ip (h : Ww ρ R s t) : ∀ (m k : Nat) (l : List Int), (∀ x ∈ l, x ∈ R) → Ip t.cells m k (l.map ρ) = (Ip s.cells m k l).map ρ ∧ ∀ x ∈ Ip s.cells m k l, x ∈ R
  | 0, k, l, hl => ⟨rfl, hl⟩
  | m + 1, k, l, hl => by
    unfold YtfclkapelkhlpaaGreatDoor.Ip
    by_cases hk : k < l.length
    · rw [dif_pos hk, dif_pos (by simpa using hk)]
      have hx := hl _ (List.getElem_mem hk)
      have hc := h.cells _ hx
      rw [List.getElem_map, hc.1]
      obtain ⟨h1, h2⟩ := HV h.inj hl hc.2
      rw [h1]
      exact Ww.Ip h m (k + 1) _ h2
    · rw [dif_neg hk, dif_neg (by simpa using hk)]; exact ⟨rfl, hl⟩
theorem Ju (ρ : Int → Int) : ∀ fr : List LX.Frame, YtfclkapelkhlpaaGreatDoor.roots (fr.map (TU ρ)) = (YtfclkapelkhlpaaGreatDoor.roots fr).map (Mf ρ)
  | [] => rfl
  | f :: fr => by
    have := Ju ρ fr
    unfold YtfclkapelkhlpaaGreatDoor.roots at *
    rw [List.map_cons, List.flatMap_cons, List.flatMap_cons, List.map_append, this]; rfl
theorem Ww.reach (h : Ww ρ R s t) : qL t = (qL s).map ρ ∧ ∀ x ∈ qL s, x ∈ R := by
  unfold qL AA
  rw [h.frames, Ju]
  obtain ⟨h1, h2⟩ := HV h.inj (l := []) (fun x hx => by cases hx) h.roots
  rw [List.map_nil] at h1
  rw [h1]
  exact h.Ip 25 0 _ h2
end
end Go.Proofs.YtfclkapelkhlpaaGreatDoor
namespace Go.Proofs.YtfclkapelkhlpaaGreatDoor
open Go Go.Proofs Go.LX
section
variable {a : List bP} {ρ : Int → Int} {R : List Int} {s t : LX.State}
theorem HY {cells : List (List Val)} {k j : Int} {c : List Val} (hk : 0 ≤ k ∧ k < cells.length) (hj : 0 ≤ j ∧ j < cells.length) : cellAt (cells.set k.toNat c) j = if j = k then c else cellAt cells j := by
  obtain ⟨n, rfl⟩ := Int.eq_ofNat_of_zero_le hk.1
  obtain ⟨m, rfl⟩ := Int.eq_ofNat_of_zero_le hj.1
  unfold cellAt
  rw [Int.toNat_natCast, uj, uj, List.getElem?_set]
  by_cases e : n = m
  · subst e; rw [if_pos rfl, if_pos (by omega), if_pos rfl]; rfl
  · rw [if_neg e, if_neg (by omega)]
theorem TY {vs : List Val} {i : Nat} {v : Val} (h : jR vs R) (hv : v.kind = 2 → v.n ∈ R) : jR (vs.set i v) R := fun w hw hk => by
  rcases List.mem_or_eq_of_mem_set hw with hw | rfl
  · exact h w hw hk
  · exact hv hk
theorem Ww.put (h : Ww ρ R s t) {fr : List LX.Frame} (hr : jR (YtfclkapelkhlpaaGreatDoor.roots fr) R) {k : Int} (hk : k ∈ R) {i : Nat} {v : Val} (hv : v.kind = 2 → v.n ∈ R) (st wh : Int) :
    Ww ρ R ⟨fr, s.cells.set k.toNat ((cellAt s.cells k).set i v), st, wh⟩ ⟨fr.map (TU ρ), t.cells.set (ρ k).toNat ((cellAt t.cells (ρ k)).set i (Mf ρ v)), st, wh⟩ := by
  refine ⟨rfl, rfl, rfl, hr, fun x hx => by simpa using h.range x hx, fun x hx => by simpa using h.range' x hx, h.inj, fun x hx => ?_⟩
  simp only
  rw [HY (h.range' k hk) (h.range' x hx), HY (h.range k hk) (h.range x hx)]
  have hc := h.cells x hx
  by_cases e : x = k
  · subst e
    rw [if_pos rfl, if_pos rfl, hc.1, List.map_set]
    exact ⟨rfl, TY hc.2 hv⟩
  · rw [if_neg e, if_neg (fun q => e (h.inj x hx k hk q))]
    exact hc
end
end Go.Proofs.YtfclkapelkhlpaaGreatDoor
namespace Go.Proofs.YtfclkapelkhlpaaGreatDoor
open Go Go.Proofs Go.LX
def iter (a : List bP) : Nat → LX.State → LX.State × List Int
  | 0, s => (s, [])
  | n + 1, s => if s.status ≠ 0 then (s, []) else match wP a s with
    | none => ({ s with status := 2 }, [])
    | some (t, o, _) => ((iter a n t).1, o.toList ++ (iter a n t).2)
theorem Mh {a : List bP} : ∀ (m : Nat) (said : List Int) (n : Nat) (s : LX.State), ∃ k, k ≤ m ∧ qi a m said n s = ((iter a k s).1, said ++ (iter a k s).2, n + k) ∧ (∀ j, j < k → (iter a j s).1.status = 0) ∧ (1 ≤ m → s.status = 0 → said = [] → 1 ≤ k)
  | 0, said, n, s => ⟨0, Nat.le_refl _, by simp [qi, iter], fun j hj => absurd hj (Nat.not_lt_zero _), fun h => absurd h (by omega)⟩
  | m + 1, said, n, s => by
    unfold qi
    by_cases h0 : s.status ≠ 0
    · rw [if_pos h0]
      exact ⟨0, by omega, by simp [iter], fun j hj => absurd hj (Nat.not_lt_zero _), fun _ h => absurd h h0⟩
    · rw [if_neg h0]
      by_cases Uy : said.length = 40 ∧ BJ a s = 9
      · rw [if_pos Uy]
        exact ⟨0, by omega, by simp [iter], fun j hj => absurd hj (Nat.not_lt_zero _), fun _ _ h => by subst h; simp at Uy⟩
      · rw [if_neg Uy]
        have hs0 : s.status = 0 := Decidable.not_not.1 h0
        cases e : wP a s with
        | none =>
          refine ⟨1, by omega, ?_, fun j hj => ?_, fun _ _ _ => Nat.le_refl _⟩
          · unfold iter; rw [if_neg h0, e]; simp
          · obtain rfl : j = 0 := by omega
            exact hs0
        | some q =>
          obtain ⟨t, o, p⟩ := q
          have e1 : ∀ q, iter a (q + 1) s = ((iter a q t).1, o.toList ++ (iter a q t).2) := fun q => by
            conv => lhs; unfold iter
            rw [if_neg h0, e]
          simp only
          cases p with
          | true =>
            refine ⟨1, by omega, ?_, fun j hj => ?_, fun _ _ _ => Nat.le_refl _⟩
            · rw [e1]; simp [iter]
            · obtain rfl : j = 0 := by omega
              exact hs0
          | false =>
            obtain ⟨k, k1, k2, k3, -⟩ := Mh m (said ++ o.toList) (n + 1) t
            refine ⟨k + 1, by omega, ?_, fun j hj => ?_, fun _ _ _ => by omega⟩
            · simp only [Bool.false_eq_true, if_false]
              rw [k2, e1]
              simp only [List.append_assoc]
              congr 2
              omega
            · cases j with
              | zero => exact hs0
              | succ j => rw [e1]; exact k3 j (by omega)
end Go.Proofs.YtfclkapelkhlpaaGreatDoor
namespace Go.Proofs.YtfclkapelkhlpaaGreatDoor
open Go Go.Proofs Go.LX
theorem at_eq (k : Int) {n : Int} (hn : 0 < n) (hb : n ≤ 1000000000) : ∃ r, lu k n = some r ∧ 0 ≤ r ∧ r < n := by
  unfold lu
  rw [wB hn]
  have h1 : Int.tmod k n < n := Int.tmod_lt_of_pos k hn
  have h2 : -n < Int.tmod k n := by
    have := Int.tmod_lt_of_pos (-k) hn
    rw [Int.neg_tmod] at this
    omega
  by_cases h : Int.tmod k n < 0
  · rw [dT h, cond_true, gI (by omega) (by omega)]
    exact ⟨_, rfl, by omega, by omega⟩
  · rw [dF h, cond_false]
    exact ⟨_, rfl, by omega, h1⟩
end Go.Proofs.YtfclkapelkhlpaaGreatDoor
