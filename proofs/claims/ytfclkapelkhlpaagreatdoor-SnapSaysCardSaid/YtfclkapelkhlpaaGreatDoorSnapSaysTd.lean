/-
  What the law SnapSays needs of our own library and of the walks, no more.
-/
import Derived.Test.YtfclkapelkhlpaaGreatDoorProg
import Derived.Test.YtfclkapelkhlpaaGreatDoorSnapSaysTc
set_option linter.unusedSimpArgs false
set_option linter.unusedVariables false
set_option maxRecDepth 10000
namespace Go.Proofs.YtfclkapelkhlpaaGreatDoor
open Go Go.Proofs Go.LX
noncomputable section
theorem zN (N : Nat) (w0 : World) (M : BS) (hM : ∀ b, M b → b < w0.heap.size) (hT : xg Tryz.prog 4 w0) (a : Str) (r : List gG × Int) (hs : mo N a = some r) :
    Calls Tryz.prog 77 #[(aN a)] w0 (fun e w' => Grow w0 w' ∧ ∃ u0, e = .returned (.tuple #[u0, .int .i64 r.2]) ∧ fI jM 113 w' M u0 r.1 ∧ (∀ b, ob u0 b → w0.heap.size ≤ b)) := by
 refine aL (args := [(aN a)]) Tryz.func77 rfl Tryz.ntmps77 (bH rfl) ?_
 have h := SH.init hM
 refine nG (aa (ae (v := (.slice none 0 0)) rfl) (aa (ae (v := (I6 0)) rfl) (nJ (aa (ag (v := (aN a)) rfl) ?_))))
 obtain ⟨y1, e2, hs⟩ := aM hs
 refine aO WS rfl rfl (GZ _ _ h.lt (hT.go h.keep) a [32] _ e2) ?_
 rintro _ w ⟨k5, u3, rfl, g4⟩
 refine ⟨_, rfl, ?_⟩
 replace h := h.EG 1 k5 g4
 refine lZ h 2 pV fun w b6 h => dS h 2 [u3] rfl pV rfl rfl rfl rfl (h.gy 1 rfl).one fun w h => nJ (lZ h 3 Af fun w b7 h => nK (aa (aB h 2 rfl pV rfl rfl) (aa (aX fU rfl (h.lF 1 rfl)) (aa (ag (v := (I6 0)) rfl) (nN (aH ?_))))))
 replace h := h.uZ (R := jM) (E := 113) 7
 refine eF (σ := Nat × Int × Value × List gG) (inl (rg 6 6 ++ rg 24 39)) (fun ⟨k16, i17, v14, yj⟩ => [(24, (I6 i17))]) (fun ⟨k16, i17, v14, yj⟩ w => SH w0 M BE w (hset [(1, .rd qD u3 y1), (2, .blk b6 [u3]), (3, .blk b7 [v14]), (7, .own jM 113 v14 yj)]) ∧ i17 = (k16 : Int) ∧ dQ (kC y1) (jk N y1 a) i17 (y1.drop k16) yj = some r) (fun ⟨k16, i17, v14, yj⟩ => y1.length - k16) ⟨0, 0, (.slice none 0 0), []⟩ ⟨rfl, trivial⟩ ?_ ?_
 exact ⟨h.cn _, rfl, hs⟩
 rintro ⟨k16, i17, v14, yj⟩ w dC ⟨h, hik, hs⟩
 refine nG ?_
 refine aa (dK rfl rfl) (nN ?_)
 refine aJ (fD rfl (fun e21 => ?_) (fun e21 => ?_))
 refine aG (aj ?_)
 obtain ⟨yF, e22a, e22b⟩ := eU (hik ▸ e21)
 rw [e22b, jC] at hs
 generalize hnx20 : dQ (kC y1) (jk N y1 a) (i17 + 1) (y1.drop (k16 + 1)) = JZ at hs
 have e22r := eZ ((h.lF 1 rfl)).bD hik e21
 refine dm (σ := Value × List gG) (inl (rg 6 6 ++ rg 26 36)) (fun ⟨v23, y24⟩ => []) (fun ⟨v23, y24⟩ w => SH w0 M BE w (hset [(1, .rd qD u3 y1), (2, .blk b6 [u3]), (3, .blk b7 [v23]), (7, .own jM 113 v23 y24)]) ∧ og JZ y24 = some r) ?_ ?_
 rintro ⟨v23, y24⟩ w dC ⟨h, hs⟩
 refine ay (aa (dz rfl rfl e22r) (aa (ag (v := (I6 ((i17 + 1)))) rfl) (aC (ak ?_))))
 subst hnx20
 exact iw ⟨k16 + 1, i17 + 1, v23, y24⟩ ⟨h.cn _, by omega, hs⟩ (by have := kQ e21; dsimp only; omega)
 refine aH (nG (aa (ag (v := (I6 i17)) rfl) ?_))
 obtain ⟨ZB, o27, Xr, h, Xt, i25⟩ := h.FH 1 8 rfl fU rfl (gB hik) (eY hik e22a)
 obtain rfl := Xt
 refine aa (i25 _ _ _ _ _ _ _ _ _ rfl rfl) (aa (eQ (k := 0) h 8 rfl Ag rfl rfl) (aa (ae (v := (I6 i17)) rfl) (aa (ae (v := (aN yF)) rfl) (nN (dm (σ := Bool) (inl (rg 29 9)) (fun x30 => [(37, (.bool (x30)))]) (fun x30 w => SH w0 M BE w (hset [(1, .rd qD u3 y1), (2, .blk b6 [u3]), (3, .blk b7 [v14]), (7, .own jM 113 v14 yj)]) ∧ oh y1 i17 yj JZ x30 = some r) ?_ ?_)))))
 rintro x30 w dC ⟨h, hs⟩
 refine aK hs rfl (fun c31 hs => ?_) (fun c31 hs => ?_)
 refine nG (aa (aB h 2 rfl pV rfl rfl) (aa (ag (v := (I6 i17)) rfl) (aa (dz rfl rfl e22r) ?_)))
 obtain ⟨x32, e33, hs⟩ := aM hs
 obtain ⟨b35, o36, cs37, h, r38, i34⟩ := h.FH 1 9 rfl fU rfl (aR e33).1 (aR e33).2
 obtain rfl := r38
 refine aa (i34 _ _ _ _ _ _ _ _ _ rfl rfl) (aa (eQ (k := 0) h 9 rfl Ag rfl rfl) ?_)
 obtain ⟨y39, e40, hs⟩ := aM hs
 refine aO EX rfl rfl (si _ _ h.lt (hT.go h.keep) x32 _ e40) ?_
 rintro _ w ⟨k43, u41, rfl, g42⟩
 refine ⟨_, rfl, ?_⟩
 replace h := h.grow k43
 refine aa (ag (v := (.tuple #[(I6 y39.1), u41])) rfl) (aa (bJ rfl rfl) (aa (bJ rfl rfl) (aa (ae (v := (I6 y39.1)) rfl) (aa (ae (v := u41) rfl) (nJ (aa (aB h 2 rfl pV rfl rfl) (aa (ag (v := (I6 i17)) rfl) ?_)))))))
 obtain ⟨a44, hs⟩ := bE hs
 refine aa (dz rfl rfl a44) ?_
 obtain ⟨x45, e46, hs⟩ := aM hs
 obtain ⟨b48, o49, cs50, h, r51, i47⟩ := h.FH 1 10 rfl fU rfl (aR e46).1 (aR e46).2
 obtain rfl := r51
 refine aa (i47 _ _ _ _ _ _ _ _ _ rfl rfl) (aa (eQ (k := 0) h 10 rfl Ag rfl rfl) ?_)
 obtain ⟨sV, e53, hs⟩ := aM hs
 refine aO EX rfl rfl (si _ _ h.lt (hT.go h.keep) x45 _ e53) ?_
 rintro _ w ⟨k56, u54, rfl, g55⟩
 refine ⟨_, rfl, ?_⟩
 replace h := h.grow k56
 refine aa (ag (v := (.tuple #[(I6 sV.1), u54])) rfl) (aa (bJ rfl rfl) (aa (bJ rfl rfl) (aa (ae (v := (I6 sV.1)) rfl) (aa (ae (v := u54) rfl) (nN (ay (aa (aB h 3 rfl Af rfl rfl) (aa (ag (v := (I6 y39.1)) rfl) (aa (ag (v := (I6 sV.1)) rfl) (aa (fE (pv := [(0, (I6 y39.1)), (1, (I6 sV.1))]) (out := [(I6 y39.1), (I6 sV.1), (.slice none 0 0)]) Rm rfl ⟨0, 1, [(I6 y39.1)], rfl, rfl, rfl, bH rfl, ⟨1, 1, [(I6 sV.1)], rfl, rfl, rfl, bH rfl, rfl⟩⟩) (mX (R := jM) (vs := [(.agg #[(I6 y39.1), (I6 sV.1), (.slice none 0 0)])]) (xs := [(⟨y39.1, sV.1, []⟩ : gG)]) h 11 M9 rfl rfl rfl ⟨⟨_, rfl, fK.nil⟩, trivial⟩ rfl fun w u57 h => ?_)))))))))))
 obtain ⟨a58, hs⟩ := bE hs
 refine jb (R := jM) (m := [(⟨y39.1, sV.1, []⟩ : gG)]) h 7 rfl (h.dJ 11 rfl) M9 rfl rfl rfl a58.1 a58.2 fun w u59 h => dS h 3 [u59] rfl Af rfl rfl rfl rfl (h.eD 7 rfl).one fun w h => aC (au (ak ?_))
 exact cO (u59, (yj ++ [(⟨y39.1, sV.1, []⟩ : gG)])) ⟨h.cn _, hs⟩
 refine aG (au (ak ?_))
 exact cO (v14, yj) ⟨h.cn _, hs⟩
 refine ay (aa (ag (v := (aN yF)) rfl) (aa (FP rfl rfl) (aa (ag (v := (.bool (decide ((yF : Str) = [102, 117, 110])))) rfl) (jT (b := decide ((yF : Str) = [102, 117, 110])) hs (fun Fb hs => ?_) (fun Fb hs => ?_)))))
 refine dx rfl (cB Fb) (aa (ag (v := (I6 i17)) rfl) (dx rfl (cB Fb) ?_))
 obtain ⟨a61, hs⟩ := bE hs
 refine aa (dz rfl rfl a61) (dx rfl (cB Fb) (aa (aB h 2 rfl pV rfl rfl) (dx rfl (cB Fb) (aa (aX fU rfl (h.lF 1 rfl)) (dx rfl (cB Fb) (aa (dK rfl rfl) (aa (eO (b := true) (v := (.bool (decide (((i17 + 2) : Int) < (y1.length : Int))))) (cB Fb) rfl) (aC (ak ?_)))))))))
 exact cO (decide (((i17 + 2) : Int) < (y1.length : Int))) ⟨h.cn _, hs⟩
 refine qc rfl (cB Fb) rfl (qc rfl (cB Fb) rfl (qc rfl (cB Fb) rfl (qc rfl (cB Fb) rfl (qc rfl (cB Fb) rfl (aa (eO (b := false) (v := (.bool (false))) (cB Fb) rfl) (aC (ak ?_)))))))
 exact cO false ⟨h.cn _, hs⟩
 rw [eX (hik ▸ e21), mY] at hs
 refine iI (bC (bC (dV (aj (aJ (nG (aa (aB h 3 rfl Af rfl rfl) (aa (aX jw rfl (h.dJ 7 rfl)) (aa (bW rfl rfl) (aa (ag (v := (.bool (decide (((yj.length : Int) : Int) = 0)))) rfl) (az rfl rfl (fun q => aB h 3 rfl Af rfl rfl) (az rfl rfl (fun q => aX jw (dE q) (h.dJ 7 rfl)) (az rfl rfl (fun q => jK (dE q) rfl) (aa (iO rfl rfl lW) (nN (aK hs rfl (fun c62 hs => ?_) (fun c62 hs => ?_)))))))))))))))))
 refine nG (aa (ae (v := (.slice none 0 0)) rfl) (aa (ae (v := (I6 1)) rfl) (nR (ax (Dz (v1 := (.slice none 0 0)) (v2 := (I6 1)) Tryz.results77 rfl rfl ?_)))))
 obtain rfl := gK hs
 exact ⟨h.grown, _, rfl, fI.nil, qa⟩
 refine aG (aj (aJ (nG (aa (aB h 3 rfl Af rfl rfl) (aa (aX jw rfl (h.dJ 7 rfl)) (aa (ag (v := (I6 0)) rfl) (nN (aH ?_))))))))
 have hli64 := (h.dJ 7 rfl).bD
 refine eF (σ := Nat × Int) (inl ([2, 3, 13] ++ rg 73 9)) (fun ⟨Ye, i64⟩ => [(73, (I6 i64))]) (fun ⟨Ye, i64⟩ w => SH w0 M BE w (hset [(1, .rd qD u3 y1), (2, .blk b6 [u3]), (3, .blk b7 [v14]), (7, .own jM 113 v14 yj)]) ∧ i64 = (Ye : Int) ∧ upto (kz yj) (ji N y1 a yj) i64 (((yj.length : Int)).toNat - Ye) () = some r) (fun ⟨Ye, i64⟩ => ((yj.length : Int)).toNat - Ye) ⟨0, 0⟩ ⟨rfl, trivial⟩ ?_ ?_
 exact ⟨h.cn _, rfl, hs⟩
 rintro ⟨Ye, i64⟩ w dC ⟨h, hik, hs⟩
 refine nG ?_
 refine aa (dK rfl rfl) (nN ?_)
 refine aJ (fD rfl (fun Xh => ?_) (fun Xh => ?_))
 refine aG (aj ?_)
 rw [lv (by have := kQ Xh; omega)] at hs
 generalize hnx67 : upto (kz yj) (ji N y1 a yj) (i64 + 1) (((yj.length : Int)).toNat - (Ye + 1)) = nx67 at hs
 have e69r : jN (i64 + 1) := (by have := kQ Xh; have := hli64; exact jN.mk (by omega) (by omega))
 refine aJ (aH (nG ?_))
 obtain ⟨Xq, Xu, hs⟩ := aM hs
 obtain ⟨b73, q74, i72⟩ := h.FL 7 rfl jw rfl (aR Xu).1 (aR Xu).2
 refine aa (i72 _ _ _ _ _ _ _ _ _ rfl rfl) ?_
 obtain ⟨cs75, m76, r77⟩ := h.JU 7 rfl q74 (aR Xu).2
 obtain ⟨JO, rfl, g79⟩ := uN r77
 replace h := h.bK 12 g79
 refine aa (zF (k := 0) (vs := [(I6 Xq.params), (I6 Xq.locals), JO]) m76 oC rfl rfl rfl (bH rfl)) (bu h 13 oC fun w b80 h => dN (vs := [(I6 Xq.params), (I6 Xq.locals), JO]) h 13 [(I6 Xq.params), (I6 Xq.locals), JO] rfl oC rfl rfl rfl rfl rfl (ai rfl (ai rfl (ai (h.gy 12 rfl).one aS))) fun w h => nJ (aa (ah xh rfl) (aa (aB h 13 rfl aP rfl rfl) (aO pU rfl rfl (dD _ _ h.lt Xq.params 0 3 _ rfl) ?_))))
 rintro _ w ⟨k81, rfl⟩
 refine ⟨_, rfl, ?_⟩
 replace h := h.grow k81
 refine aa (dU rfl) (nN (aK hs rfl (fun c82 hs => ?_) (fun c82 hs => ?_)))
 refine nG (aa (ae (v := (.slice none 0 0)) rfl) (aa (ae (v := (I6 1)) rfl) (nR (aD (ax (ax (aD (ax (Dz (v1 := (.slice none 0 0)) (v2 := (I6 1)) Tryz.results77 rfl rfl ?_)))))))))
 obtain rfl := gK hs
 exact ⟨h.grown, _, rfl, fI.nil, qa⟩
 refine aG (au (aj (ay (aa (dz rfl rfl e69r) (aa (ag (v := (I6 ((i64 + 1)))) rfl) (aC (ak ?_)))))))
 subst hnx67
 exact iw ⟨Ye + 1, i64 + 1⟩ ⟨h.cn _, by omega, hs⟩ (by have := kQ Xh; dsimp only; omega)
 rw [lC (by have := of_decide_eq_false Xh; omega)] at hs
 refine nE (lZ h 14 aP fun w GH h => dS h 14 [(I6 0)] rfl aP rfl rfl rfl rfl rfl fun w h => nJ (lZ h 15 vE fun w Bc h => dS h 15 [(.bool (true))] rfl vE rfl rfl rfl rfl rfl fun w h => nJ (aa (ng (c1 := []) (c2 := [(.pointer (some ⟨GH, 0, none⟩)), (.pointer (some ⟨b6, 0, none⟩)), (.pointer (some ⟨Bc, 0, none⟩))]) rfl rfl) (lZ h 16 Bq fun w JM h => dS h 16 [(.func (.func 103) #[] #[(.pointer (some ⟨GH, 0, none⟩)), (.pointer (some ⟨b6, 0, none⟩)), (.pointer (some ⟨Bc, 0, none⟩))])] rfl Bq rfl rfl rfl rfl rfl fun w h => nN ?_))))
 refine nG (aa (ng (c1 := []) (c2 := [(.pointer (some ⟨Bc, 0, none⟩)), (.pointer (some ⟨JM, 0, none⟩)), (.pointer (some ⟨b7, 0, none⟩))]) rfl rfl) (lZ h 17 LP fun w Rz h => dS h 17 [(.func (.func 104) #[] #[(.pointer (some ⟨Bc, 0, none⟩)), (.pointer (some ⟨JM, 0, none⟩)), (.pointer (some ⟨b7, 0, none⟩))])] rfl LP rfl rfl rfl rfl rfl fun w h => nJ (lZ h 18 Iq fun w RA h => nJ (aa (ng (c1 := []) (c2 := [(.pointer (some ⟨JM, 0, none⟩)), (.pointer (some ⟨Bc, 0, none⟩)), (.pointer (some ⟨Rz, 0, none⟩)), (.pointer (some ⟨RA, 0, none⟩))]) rfl rfl) (dS h 18 [(.func (.func 109) #[] #[(.pointer (some ⟨JM, 0, none⟩)), (.pointer (some ⟨Bc, 0, none⟩)), (.pointer (some ⟨Rz, 0, none⟩)), (.pointer (some ⟨RA, 0, none⟩))])] rfl Iq rfl rfl rfl rfl rfl fun w h => nK (aa (aB h 3 rfl Af rfl rfl) (aa (aX jw rfl (h.dJ 7 rfl)) (aa (ag (v := (I6 0)) rfl) ?_))))))))
 refine nN (aH ?_)
 have ZY := (h.dJ 7 rfl).bD
 refine eF (σ := Nat × Int × List gG × Int × Bool) (inl ([19] ++ rg 87 17)) (fun ⟨Nz, i101, tX, y98, y99⟩ => [(87, (I6 i101))]) (fun ⟨Nz, i101, tX, y98, y99⟩ w => SH w0 M BE w (hset [(1, .rd qD u3 y1), (2, .blk b6 [u3]), (3, .blk b7 [v14]), (7, .own jM 113 v14 tX), (14, .blk GH [(I6 y98)]), (15, .blk Bc [(.bool (y99))]), (16, .blk JM [(.func (.func 103) #[] #[(.pointer (some ⟨GH, 0, none⟩)), (.pointer (some ⟨b6, 0, none⟩)), (.pointer (some ⟨Bc, 0, none⟩))])]), (17, .blk Rz [(.func (.func 104) #[] #[(.pointer (some ⟨Bc, 0, none⟩)), (.pointer (some ⟨JM, 0, none⟩)), (.pointer (some ⟨b7, 0, none⟩))])]), (18, .blk RA [(.func (.func 109) #[] #[(.pointer (some ⟨JM, 0, none⟩)), (.pointer (some ⟨Bc, 0, none⟩)), (.pointer (some ⟨Rz, 0, none⟩)), (.pointer (some ⟨RA, 0, none⟩))])])]) ∧ i101 = (Nz : Int) ∧ upto (jh N y1) (ky N y1 a) i101 (((yj.length : Int)).toNat - Nz) (tX, y98, y99) = some r) (fun ⟨Nz, i101, tX, y98, y99⟩ => ((yj.length : Int)).toNat - Nz) ⟨0, 0, yj, 0, true⟩ ⟨rfl, trivial⟩ ?_ ?_
 exact ⟨h.cn _, rfl, hs⟩
 rintro ⟨Nz, i101, tX, y98, y99⟩ w dC ⟨h, hik, hs⟩
 refine nG ?_
 refine aa (dK rfl rfl) (nN ?_)
 refine aJ (fD rfl (fun L6 => ?_) (fun L6 => ?_))
 refine aG (aj ?_)
 rw [lv (by have := kQ L6; omega)] at hs
 generalize ZZ : upto (jh N y1) (ky N y1 a) (i101 + 1) (((yj.length : Int)).toNat - (Nz + 1)) = mV at hs
 have e106r : jN (i101 + 1) := (by have := kQ L6; have := ZY; exact jN.mk (by omega) (by omega))
 refine aJ (aH (nG (aa (ag (v := (I6 i101)) rfl) (aa (ae (v := (I6 i101)) rfl) (nN (dm (σ := Int × Bool) (inl [90, 91, 92]) (fun ⟨rC, yl⟩ => []) (fun ⟨rC, yl⟩ w => SH w0 M BE w (hset [(1, .rd qD u3 y1), (2, .blk b6 [u3]), (3, .blk b7 [v14]), (7, .own jM 113 v14 tX), (14, .blk GH [(I6 rC)]), (15, .blk Bc [(.bool (yl))]), (16, .blk JM [(.func (.func 103) #[] #[(.pointer (some ⟨GH, 0, none⟩)), (.pointer (some ⟨b6, 0, none⟩)), (.pointer (some ⟨Bc, 0, none⟩))])]), (17, .blk Rz [(.func (.func 104) #[] #[(.pointer (some ⟨Bc, 0, none⟩)), (.pointer (some ⟨JM, 0, none⟩)), (.pointer (some ⟨b7, 0, none⟩))])]), (18, .blk RA [(.func (.func 109) #[] #[(.pointer (some ⟨JM, 0, none⟩)), (.pointer (some ⟨Bc, 0, none⟩)), (.pointer (some ⟨Rz, 0, none⟩)), (.pointer (some ⟨RA, 0, none⟩))])])]) ∧ jf N y1 tX i101 mV rC yl = some r) ?_ ?_))))))
 rintro ⟨rC, yl⟩ w dC ⟨h, hs⟩
 refine dm (σ := Int × Bool) (inl [93, 94]) (fun ⟨kZ, zk⟩ => []) (fun ⟨kZ, zk⟩ w => SH w0 M BE w (hset [(1, .rd qD u3 y1), (2, .blk b6 [u3]), (3, .blk b7 [v14]), (7, .own jM 113 v14 tX), (14, .blk GH [(I6 kZ)]), (15, .blk Bc [(.bool (zk))]), (16, .blk JM [(.func (.func 103) #[] #[(.pointer (some ⟨GH, 0, none⟩)), (.pointer (some ⟨b6, 0, none⟩)), (.pointer (some ⟨Bc, 0, none⟩))])]), (17, .blk Rz [(.func (.func 104) #[] #[(.pointer (some ⟨Bc, 0, none⟩)), (.pointer (some ⟨JM, 0, none⟩)), (.pointer (some ⟨b7, 0, none⟩))])]), (18, .blk RA [(.func (.func 109) #[] #[(.pointer (some ⟨JM, 0, none⟩)), (.pointer (some ⟨Bc, 0, none⟩)), (.pointer (some ⟨Rz, 0, none⟩)), (.pointer (some ⟨RA, 0, none⟩))])])]) ∧ je N y1 tX i101 mV kZ zk = some r) ?_ ?_
 rintro ⟨kZ, zk⟩ w dC ⟨h, hs⟩
 refine dm (σ := Int × Bool) (inl [95, 96]) (fun ⟨uF, y112⟩ => []) (fun ⟨uF, y112⟩ w => SH w0 M BE w (hset [(1, .rd qD u3 y1), (2, .blk b6 [u3]), (3, .blk b7 [v14]), (7, .own jM 113 v14 tX), (14, .blk GH [(I6 uF)]), (15, .blk Bc [(.bool (y112))]), (16, .blk JM [(.func (.func 103) #[] #[(.pointer (some ⟨GH, 0, none⟩)), (.pointer (some ⟨b6, 0, none⟩)), (.pointer (some ⟨Bc, 0, none⟩))])]), (17, .blk Rz [(.func (.func 104) #[] #[(.pointer (some ⟨Bc, 0, none⟩)), (.pointer (some ⟨JM, 0, none⟩)), (.pointer (some ⟨b7, 0, none⟩))])]), (18, .blk RA [(.func (.func 109) #[] #[(.pointer (some ⟨JM, 0, none⟩)), (.pointer (some ⟨Bc, 0, none⟩)), (.pointer (some ⟨Rz, 0, none⟩)), (.pointer (some ⟨RA, 0, none⟩))])])]) ∧ jd N y1 tX i101 mV uF y112 = some r) ?_ ?_
 rintro ⟨uF, y112⟩ w dC ⟨h, hs⟩
 refine uf (L := (fun b => b = GH ∨ b = Bc ∨ ob v14 b)) mixed h fun w h => dW 0 (aQ.refl _ _) rfl aA (by kernel_rfl) (by kernel_rfl) (by kernel_rfl) (fun w hk => have h := h.TB 14 15 7 (by decide) (by decide) (by decide) rfl rfl rfl hk; aB h 3 rfl Af rfl rfl) (dW 1 (aQ.refl _ _) rfl aA (by kernel_rfl) (by kernel_rfl) (by kernel_rfl) (fun w hk => ag (v := (I6 i101)) rfl) (dW 2 (aQ.refl _ _) rfl aA (by kernel_rfl) (by kernel_rfl) (by kernel_rfl) (fun w hk => have h := h.TB 14 15 7 (by decide) (by decide) (by decide) rfl rfl rfl hk; aB h 18 rfl Iq rfl rfl) ?_))
 obtain ⟨ws123, UK⟩ : ∃ x, x = w := ⟨_, rfl⟩
 have GI : aQ (fun b => b = GH ∨ b = Bc ∨ ob v14 b) ws123 w := UK ▸ aQ.refl (fun b => b = GH ∨ b = Bc ∨ ob v14 b) w
 refine zG UK.symm (dB 3 (by kernel_rfl) rfl aA ?_)
 replace h := h.pair 14 15 (by decide)
 obtain ⟨Pk, Pm, Pn⟩ := h.j5 14 (C := (.two (.blk GH [(I6 uF)]) (.blk Bc [(.bool (y112))]) : Chunk)) rfl ⟨trivial, trivial⟩
 obtain ⟨lT, RB, hs⟩ := aM hs
 refine aO LF rfl rfl (Pj N _ _ Pn (hT.go h.keep) GH Bc b6 JM b7 Rz RA (⟨uF, y112⟩ : dL) Pk Pm u3 y1 (h.Cr 14 1 rfl rfl) v14 tX (h.X9 14 7 (by decide) rfl rfl) (h.lH 2 rfl) (fun hb => h.apart 14 2 (by decide) _ hb rfl) (h.lH 16 rfl) (fun hb => h.apart 14 16 (by decide) _ hb rfl) (h.lH 3 rfl) (fun hb => h.apart 14 3 (by decide) _ hb rfl) (h.lH 17 rfl) (fun hb => h.apart 14 17 (by decide) _ hb rfl) (h.lH 18 rfl) (fun hb => h.apart 14 18 (by decide) _ hb rfl) 1 (h.Il hT (fun _ h => h.elim) 14 (C := (.two (.blk GH [(I6 uF)]) (.blk Bc [(.bool (y112))]) : Chunk)) rfl) _ RB) ?_
 rintro _ w ⟨Kt, uq122x3_4, rfl, RD, RF, RG⟩
 refine ⟨_, rfl, ?_⟩
 replace h := h.back 14 (C := (.two (.blk GH [(I6 uF)]) (.blk Bc [(.bool (y112))]) : Chunk)) (C' := (.two (.blk GH [(I6 lT.2.at_)]) (.blk Bc [(.bool (lT.2.ok))]) : Chunk)) rfl ⟨trivial, trivial⟩ RD Kt RF
 replace h := h.bK 55 (j6 RG)
 replace h := h.gJ 14 15 (by decide) rfl rfl
 replace GI := aQ.step GI Kt (fun _ hx _ => hx.elim (fun hx => .inl (hx)) (fun hx => .inr (.inl (hx))))
 refine aC (aV GI ?_)
 obtain ⟨yG, FX, hs⟩ := aM hs
 obtain ⟨bq122x4_4, RH, RI⟩ := h.FL 7 rfl jw rfl (aR FX).1 (aR FX).2
 refine iQ 4 GI rfl (by kernel_rfl) (fun w hk => RI _ _ _ _ _ _ _ _ _ rfl rfl) (iQ 5 GI rfl (by kernel_rfl) (fun w hk => ah Cu rfl) (dB 6 (by kernel_rfl) rfl aA (Tm (a' := { yG with body := lT.1 }) h 7 rfl RH rfl (aR FX).2 rH rfl rfl (h.gy 55 rfl).one rfl (by rintro _ hq; obtain ⟨p2, rfl, q2⟩ := uN hq; exact ⟨_, rfl, (h.gy 55 rfl)⟩) fun w h RJ => ?_)))
 replace GI := aQ.step GI RJ (fun _ hx _ => .inr (.inr (hx)))
 refine aC (aV GI (j3 (by kernel_rfl) (au (aj (ay (aa (dz rfl rfl e106r) (aa (ag (v := (I6 ((i101 + 1)))) rfl) (aC (ak ?_)))))))))
 subst ZZ
 exact iw ⟨Nz + 1, i101 + 1, (tX.set (i101).toNat { yG with body := lT.1 }), lT.2.at_, lT.2.ok⟩ ⟨h.cn _, by omega, hs⟩ (by have := kQ L6; dsimp only; omega)
 refine ay (aa (aB h 16 rfl Bq rfl rfl) (iL (args := [(.pointer (some ⟨GH, 0, none⟩)), (.pointer (some ⟨b6, 0, none⟩)), (.pointer (some ⟨Bc, 0, none⟩))]) Bo rfl rfl (aL (args := [(.pointer (some ⟨GH, 0, none⟩)), (.pointer (some ⟨b6, 0, none⟩)), (.pointer (some ⟨Bc, 0, none⟩))]) Tryz.func103 rfl Tryz.ntmps103 (bH rfl) (nG (aa (ae (v := (aN [])) rfl) (nK (aa (aB h 14 rfl aP rfl rfl) (aa (aB h 2 rfl pV rfl rfl) (aa (aX fU rfl (h.lF 1 rfl)) (aa (qE rfl rfl) (nN (aK hs rfl (fun Z0 hs => ?_) (fun Z0 hs => ?_)))))))))))))
 refine nG (dS h 15 [(.bool (false))] rfl vE rfl rfl rfl rfl rfl fun w h => nJ (aa (ae (v := (aN [])) rfl) (nR (ax (bI (v := (aN [])) Tryz.results103 rfl (⟨_, rfl, ?_⟩))))))
 refine aC (ak ?_)
 exact cO (kZ, false) ⟨h.cn _, hs⟩
 refine nS (aa (aB h 14 rfl aP rfl rfl) ?_)
 obtain ⟨a126, hs⟩ := bE hs
 refine aa (dz rfl rfl a126) (dS h 14 [(I6 ((kZ + 1)))] rfl aP rfl rfl rfl rfl rfl fun w h => nJ (aa (aB h 2 rfl pV rfl rfl) (aa (aB h 14 rfl aP rfl rfl) ?_)))
 obtain ⟨a127, hs⟩ := bE hs
 refine aa (tY rfl rfl a127) ?_
 obtain ⟨Xo, e129, hs⟩ := aM hs
 obtain ⟨b131, o132, cs133, h, r134, i130⟩ := h.FH 1 115 rfl fU rfl (aR e129).1 (aR e129).2
 obtain rfl := r134
 refine aa (i130 _ _ _ _ _ _ _ _ _ rfl rfl) (aa (eQ (k := 0) h 115 rfl Ag rfl rfl) (aa (ae (v := (aN Xo)) rfl) (nR (bI (v := (aN Xo)) Tryz.results103 rfl (⟨_, rfl, ?_⟩)))))
 refine aC (ak ?_)
 exact cO ((kZ + 1), zk) ⟨h.cn _, hs⟩
 refine ay (aa (aB h 16 rfl Bq rfl rfl) (iL (args := [(.pointer (some ⟨GH, 0, none⟩)), (.pointer (some ⟨b6, 0, none⟩)), (.pointer (some ⟨Bc, 0, none⟩))]) Bo rfl rfl (aL (args := [(.pointer (some ⟨GH, 0, none⟩)), (.pointer (some ⟨b6, 0, none⟩)), (.pointer (some ⟨Bc, 0, none⟩))]) Tryz.func103 rfl Tryz.ntmps103 (bH rfl) (nG (aa (ae (v := (aN [])) rfl) (nK (aa (aB h 14 rfl aP rfl rfl) (aa (aB h 2 rfl pV rfl rfl) (aa (aX fU rfl (h.lF 1 rfl)) (aa (qE rfl rfl) (nN (aK hs rfl (fun c135 hs => ?_) (fun c135 hs => ?_)))))))))))))
 refine nG (dS h 15 [(.bool (false))] rfl vE rfl rfl rfl rfl rfl fun w h => nJ (aa (ae (v := (aN [])) rfl) (nR (ax (bI (v := (aN [])) Tryz.results103 rfl (⟨_, rfl, ?_⟩))))))
 refine aC (ak ?_)
 exact cO (rC, false) ⟨h.cn _, hs⟩
 refine nS (aa (aB h 14 rfl aP rfl rfl) ?_)
 obtain ⟨a136, hs⟩ := bE hs
 refine aa (dz rfl rfl a136) (dS h 14 [(I6 ((rC + 1)))] rfl aP rfl rfl rfl rfl rfl fun w h => nJ (aa (aB h 2 rfl pV rfl rfl) (aa (aB h 14 rfl aP rfl rfl) ?_)))
 obtain ⟨a137, hs⟩ := bE hs
 refine aa (tY rfl rfl a137) ?_
 obtain ⟨qi, RL, hs⟩ := aM hs
 obtain ⟨b141, o142, cs143, h, r144, i140⟩ := h.FH 1 116 rfl fU rfl (aR RL).1 (aR RL).2
 obtain rfl := r144
 refine aa (i140 _ _ _ _ _ _ _ _ _ rfl rfl) (aa (eQ (k := 0) h 116 rfl Ag rfl rfl) (aa (ae (v := (aN qi)) rfl) (nR (bI (v := (aN qi)) Tryz.results103 rfl (⟨_, rfl, ?_⟩)))))
 refine aC (ak ?_)
 exact cO ((rC + 1), yl) ⟨h.cn _, hs⟩
 refine dm (σ := Bool × Int × Bool) (inl [90, 91, 92]) (fun ⟨Ny, Ha, L8⟩ => [(92, (.bool (Ny)))]) (fun ⟨Ny, Ha, L8⟩ w => SH w0 M BE w (hset [(1, .rd qD u3 y1), (2, .blk b6 [u3]), (3, .blk b7 [v14]), (7, .own jM 113 v14 tX), (14, .blk GH [(I6 Ha)]), (15, .blk Bc [(.bool (L8))]), (16, .blk JM [(.func (.func 103) #[] #[(.pointer (some ⟨GH, 0, none⟩)), (.pointer (some ⟨b6, 0, none⟩)), (.pointer (some ⟨Bc, 0, none⟩))])]), (17, .blk Rz [(.func (.func 104) #[] #[(.pointer (some ⟨Bc, 0, none⟩)), (.pointer (some ⟨JM, 0, none⟩)), (.pointer (some ⟨b7, 0, none⟩))])]), (18, .blk RA [(.func (.func 109) #[] #[(.pointer (some ⟨JM, 0, none⟩)), (.pointer (some ⟨Bc, 0, none⟩)), (.pointer (some ⟨Rz, 0, none⟩)), (.pointer (some ⟨RA, 0, none⟩))])])]) ∧ jg N y1 tX i101 mV Ny Ha L8 = some r) ?_ ?_
 rintro ⟨Ny, Ha, L8⟩ w dC ⟨h, hs⟩
 refine aK hs rfl (fun c148 hs => ?_) (fun c148 hs => ?_)
 refine ay (dS h 15 [(.bool (false))] rfl vE rfl rfl rfl rfl rfl fun w h => aC (ak ?_))
 exact cO (Ha, false) ⟨h.cn _, hs⟩
 refine aG (ak ?_)
 exact cO (Ha, L8) ⟨h.cn _, hs⟩
 refine ay (aa (aB h 16 rfl Bq rfl rfl) (iL (args := [(.pointer (some ⟨GH, 0, none⟩)), (.pointer (some ⟨b6, 0, none⟩)), (.pointer (some ⟨Bc, 0, none⟩))]) Bo rfl rfl (aL (args := [(.pointer (some ⟨GH, 0, none⟩)), (.pointer (some ⟨b6, 0, none⟩)), (.pointer (some ⟨Bc, 0, none⟩))]) Tryz.func103 rfl Tryz.ntmps103 (bH rfl) (nG (aa (ae (v := (aN [])) rfl) (nK (aa (aB h 14 rfl aP rfl rfl) (aa (aB h 2 rfl pV rfl rfl) (aa (aX fU rfl (h.lF 1 rfl)) (aa (qE rfl rfl) (nN (aK hs rfl (fun c149 hs => ?_) (fun c149 hs => ?_)))))))))))))
 refine nG (dS h 15 [(.bool (false))] rfl vE rfl rfl rfl rfl rfl fun w h => nJ (aa (ae (v := (aN [])) rfl) (nR (ax (bI (v := (aN [])) Tryz.results103 rfl (⟨_, rfl, ?_⟩))))))
 refine aa (Ij rfl rfl) (aC (ak ?_))
 exact cO (true, y98, false) ⟨h.cn _, hs⟩
 refine nS (aa (aB h 14 rfl aP rfl rfl) ?_)
 obtain ⟨a150, hs⟩ := bE hs
 refine aa (dz rfl rfl a150) (dS h 14 [(I6 ((y98 + 1)))] rfl aP rfl rfl rfl rfl rfl fun w h => nJ (aa (aB h 2 rfl pV rfl rfl) (aa (aB h 14 rfl aP rfl rfl) ?_)))
 obtain ⟨a151, hs⟩ := bE hs
 refine aa (tY rfl rfl a151) ?_
 obtain ⟨x152, e153, hs⟩ := aM hs
 obtain ⟨b155, o156, cs157, h, r158, i154⟩ := h.FH 1 117 rfl fU rfl (aR e153).1 (aR e153).2
 obtain rfl := r158
 refine aa (i154 _ _ _ _ _ _ _ _ _ rfl rfl) (aa (eQ (k := 0) h 117 rfl Ag rfl rfl) (aa (ae (v := (aN x152)) rfl) (nR (bI (v := (aN x152)) Tryz.results103 rfl (⟨_, rfl, ?_⟩)))))
 refine aa (Ij rfl rfl) (aC (ak ?_))
 exact cO (decide ((x152 : Str) ≠ [102, 117, 110]), (y98 + 1), y99) ⟨h.cn _, hs⟩
 rw [lC (by have := of_decide_eq_false L6; omega)] at hs
 refine iI (bC (bC (dV (aj (aJ (dm (σ := Bool) (inl (rg 104 19)) (fun x159 => [(122, (.bool (x159)))]) (fun x159 w => SH w0 M BE w (hset [(3, .blk b7 [v14]), (7, .own jM 113 v14 tX)]) ∧ kv tX x159 = some r) ?_ ?_))))))
 rintro x159 w dC ⟨h, hs⟩
 refine aK hs rfl (fun c160 hs => ?_) (fun c160 hs => ?_)
 refine nG (aa (ae (v := (.slice none 0 0)) rfl) (aa (ae (v := (I6 1)) rfl) (nR (ax (Dz (v1 := (.slice none 0 0)) (v2 := (I6 1)) Tryz.results77 rfl rfl ?_)))))
 obtain rfl := gK hs
 exact ⟨h.grown, _, rfl, fI.nil, qa⟩
 refine nS (aa (aB h 3 rfl Af rfl rfl) (aa (ae (v := v14) rfl) (aa (ae (v := (I6 0)) rfl) (nR (Dz (v1 := v14) (v2 := (I6 0)) Tryz.results77 rfl rfl ?_)))))
 obtain rfl := gK hs
 exact ⟨h.grown, _, rfl, (h.mh 7 rfl).1, (h.mh 7 rfl).2⟩
 refine ay (aa (aB h 15 rfl vE rfl rfl) (aa (dU rfl) (aa (ag (v := (.bool ((!y99)))) rfl) (az rfl rfl (fun q => aB h 14 rfl aP rfl rfl) (az rfl rfl (fun q => aB h 2 rfl pV rfl rfl) (az rfl rfl (fun q => aX fU (dE q) (h.lF 1 rfl)) (az rfl rfl (fun q => dK (dE q) (dE q)) (aa (iO rfl rfl lW) (aa (ag (v := (.bool (((!y99) || decide ((y98 : Int) < (y1.length : Int)))))) rfl) (jT (b := ((!y99) || decide ((y98 : Int) < (y1.length : Int)))) hs (fun L9 hs => ?_) (fun L9 hs => ?_)))))))))))
 refine Oy rfl (cB L9) rfl (Oy rfl (cB L9) rfl (Oy rfl (cB L9) rfl (aa (eO (b := true) (v := (.bool (true))) (cB L9) rfl) (aa (ag (v := (.bool (true))) rfl) (lG (b' := true) rfl rfl rfl (lG (b' := true) rfl rfl rfl (lG (b' := true) rfl rfl rfl (lG (b' := true) rfl rfl rfl (aa (eO (b := true) (v := (.bool (true))) rfl rfl) (aC (ak ?_)))))))))))
 exact cO true ⟨h.cn _, hs⟩
 refine dx rfl (cB L9) (aa (aB h 3 rfl Af rfl rfl) (dx rfl (cB L9) ?_))
 obtain ⟨UJ, e163, hs⟩ := aM hs
 refine aO WV rfl rfl (zi N _ _ h.lt v14 tX (h.dJ 7 rfl) _ e163) ?_
 rintro _ w ⟨k164, rfl⟩
 refine ⟨_, rfl, ?_⟩
 replace h := h.grow k164
 refine dx rfl (cB L9) (aa (gV rfl rfl) (aa (eO (b := false) (v := (.bool (decide ((UJ : Int) ≠ 0)))) (cB L9) rfl) (aa (ag (v := (.bool (decide ((UJ : Int) ≠ 0)))) rfl) (jT (b := decide ((UJ : Int) ≠ 0)) hs (fun IJ hs => ?_) (fun IJ hs => ?_)))))
 refine Oy rfl (cB IJ) rfl (Oy rfl (cB IJ) rfl (Oy rfl (cB IJ) rfl (Oy rfl (cB IJ) rfl (aa (eO (b := true) (v := (.bool (true))) (cB IJ) rfl) (aC (ak ?_))))))
 exact cO true ⟨h.cn _, hs⟩
 refine dx rfl (cB IJ) (aa (aB h 3 rfl Af rfl rfl) (dx rfl (cB IJ) ?_))
 obtain ⟨Xp, e167, hs⟩ := aM hs
 refine aO WW rfl rfl (zL N _ _ h.lt (hT.go h.keep) v14 tX (h.dJ 7 rfl) _ e167) ?_
 rintro _ w ⟨k168, rfl⟩
 refine ⟨_, rfl, ?_⟩
 replace h := h.grow k168
 refine dx rfl (cB IJ) (aa (ag (v := (aN a)) rfl) (dx rfl (cB IJ) (aa (Ij rfl rfl) (aa (eO (b := false) (v := (.bool (decide ((Xp : Str) ≠ a)))) (cB IJ) rfl) (aC (ak ?_))))))
 exact cO (decide ((Xp : Str) ≠ a)) ⟨h.cn _, hs⟩
def l9 (N : Nat) : Option (List gG) :=
  (mo N [102, 117, 110, 32, 48, 32, 49, 32, 123, 32, 115, 101, 116, 32, 48, 32, 51, 32, 119, 104, 105, 108, 101, 32, 118, 48, 32, 123, 32, 115, 97, 121, 32, 102, 49, 32, 118, 48, 32, 118, 48, 32, 103, 111, 32, 118, 48, 32, 112, 97, 117, 115, 101, 32, 115, 101, 116, 32, 48, 32, 45, 32, 118, 48, 32, 49, 32, 125, 32, 125, 32, 102, 117, 110, 32, 50, 32, 50, 32, 123, 32, 114, 101, 116, 117, 114, 110, 32, 42, 32, 118, 48, 32, 118, 49, 32, 125]).bind fun y1 => some y1.1
theorem BZ (N : Nat) (w0 : World) (M : BS) (hM : ∀ b, M b → b < w0.heap.size) (hT : xg Tryz.prog 4 w0)  (r : List gG) (hs : l9 N = some r) :
    Calls Tryz.prog 40 #[] w0 (fun e w' => Grow w0 w' ∧ ∃ u0, e = .returned (u0) ∧ fI jM 113 w' M u0 r ∧ (∀ b, ob u0 b → w0.heap.size ≤ b)) := by
 refine aL (args := []) Tryz.func40 rfl Tryz.ntmps40 (bH rfl) ?_
 have h := SH.init hM
 refine nG (aa (ae (v := (.slice none 0 0)) rfl) (nJ ?_))
 obtain ⟨y1, e2, hs⟩ := aM hs
 refine aO Zr rfl rfl (zN N _ _ h.lt (hT.go h.keep) [102, 117, 110, 32, 48, 32, 49, 32, 123, 32, 115, 101, 116, 32, 48, 32, 51, 32, 119, 104, 105, 108, 101, 32, 118, 48, 32, 123, 32, 115, 97, 121, 32, 102, 49, 32, 118, 48, 32, 118, 48, 32, 103, 111, 32, 118, 48, 32, 112, 97, 117, 115, 101, 32, 115, 101, 116, 32, 48, 32, 45, 32, 118, 48, 32, 49, 32, 125, 32, 125, 32, 102, 117, 110, 32, 50, 32, 50, 32, 123, 32, 114, 101, 116, 117, 114, 110, 32, 42, 32, 118, 48, 32, 118, 49, 32, 125] _ e2) ?_
 rintro _ w ⟨k6, u3, rfl, g4, g5⟩
 refine ⟨_, rfl, ?_⟩
 replace h := h.mg 1 k6 g4 g5
 refine aa (ag (v := (.tuple #[u3, (I6 y1.2)])) rfl) (aa (bJ rfl rfl) (aa (bJ rfl rfl) (aa (ae (v := u3) rfl) (aa (ae (v := (I6 y1.2)) rfl) (nJ (aa (ag (v := u3) rfl) (aa (ae (v := u3) rfl) (nR (bI (v := u3) Tryz.results40 rfl ?_)))))))))
 obtain rfl := gK hs
 exact ⟨h.grown, _, rfl, (h.mh 1 rfl).1, (h.mh 1 rfl).2⟩
def gY (x31 : List Ins) (c : Int) (x34 : Int) (Bd : Int) (Oz : Int) (EZ : Int) (xx : List Int) : Option (List Ins × Int) :=
  iA (Room 56 x31 [(⟨Bd, c, Oz, EZ, xx⟩ : Ins)]) (some ((x31 ++ [(⟨Bd, c, Oz, EZ, xx⟩ : Ins)]), x34))
def rO (F0 : List Tok → List gG → Int → Option (List Ins × Int)) (y9 : Int) (a : List Tok) (c : Int) (b : List gG) (x1 : Tok) (s : List Ins × List Int × Int × Int) (UL : List Ins × List Int × Int × Int → Option (List Ins × Int)) : Option (List Ins × Int) :=
  match s with | (x31, ED, x34, Ba) => bif decide ((Ba : Int) < y9) then (sub? a x34 (a.length : Int)).bind fun ym => iA (jN (c + Ba)) ((F0 ym b (c + Ba)).bind fun uO => iA (Room 56 x31 uO.1) (iA (jN (x34 + uO.2)) (iA (jN (c + Ba)) (iA (Room 8 ED [(c + Ba)]) (iA (jN (Ba + 1)) (UL ((x31 ++ uO.1), (ED ++ [(c + Ba)]), (x34 + uO.2), (Ba + 1)))))))) else bif decide ((x1.kind : Int) = 1) then gY x31 c x34 1 x1.n 0 [] else bif decide ((x1.kind : Int) = 2) then gY x31 c x34 2 x1.n 0 [] else bif decide ((x1.kind : Int) = 5) then gY x31 c x34 5 x1.n 0 [] else bif decide ((x1.kind : Int) = 3) then iA (jN (c + 1)) (gY x31 c x34 3 c (c + 1) [x1.n]) else bif decide ((x1.kind : Int) = 4) then gY x31 c x34 4 c x1.n [] else bif decide ((x1.kind : Int) = 6) then gY x31 c x34 7 x1.n 0 ED else gY x31 c x34 0 x1.n 0 []
def xA (N : Nat) (F0 : List Tok → List gG → Int → Option (List Ins × Int)) (a : List Tok) (b : List gG) (c : Int) : Option (List Ins × Int) :=
  (idx a 0).bind fun x1 => (tu x1 b).bind fun y9 => again (rO F0 y9 a c b x1) N ([], [], 1, 0)
def lg : Nat → List Tok → List gG → Int → Option (List Ins × Int)
  | 0 => fun _ _ _ => none
  | N + 1 => xA N (lg N)
theorem xB : ∀ (N : Nat) (w0 : World) (M : BS) (hM : ∀ b, M b → b < w0.heap.size) (va : Value) (a : List Tok) (ha : fK mi w0 BE M va a) (vb : Value) (b : List gG) (hb : fK jM w0 BE M vb b) (c : Int) (r : List Ins × Int) (hs : lg N a b c = some r),
    Calls Tryz.prog 100 #[va, vb, (I6 c)] w0 (fun e w' => Grow w0 w' ∧ ∃ u0, e = .returned (.tuple #[u0, .int .i64 r.2]) ∧ fI jH 93 w' M u0 r.1 ∧ (∀ b, ob u0 b → w0.heap.size ≤ b)) := by
 intro N
 induction N with
 | zero => intro w0 M hM va a ha vb b hb c r hs; cases hs
 | succ N ih =>
 intro w0 M hM va a ha vb b hb c r hs
 replace hs : xA N (lg N) a b c = some r := hs
 generalize lg N = F0 at hs ih
 refine aL (args := [va, vb, (I6 c)]) Tryz.func100 rfl Tryz.ntmps100 (bH rfl) ?_
 have h := SH.init hM
 replace h := h.eu 1 ha aT
 replace h := h.eu 2 hb (aW aT)
 have tQ := ha.bD
 have FU := hb.bD
 refine nG (aa (ae (v := (.slice none 0 0)) rfl) (aa (ae (v := (I6 0)) rfl) (nJ (aa (ag (v := va) rfl) ?_))))
 obtain ⟨x1, e2, hs⟩ := aM hs
 obtain ⟨b4, o5, cs6, h, r7, i3⟩ := h.vo 1 3 rfl lX rfl (aR e2).1 (aR e2).2
 obtain rfl := r7
 refine aa (i3 _ _ _ _ _ _ _ _ _ rfl rfl) (aa (iD (k := 0) (vs := [(I6 x1.kind), (I6 x1.n)]) h 3 rfl lS rfl rfl rfl (bH rfl)) (bu h 4 lS fun w b8 h => dN (vs := [(I6 x1.kind), (I6 x1.n)]) h 4 [(I6 x1.kind), (I6 x1.n)] rfl lS rfl rfl rfl rfl rfl (ai rfl (ai rfl aS)) fun w h => nJ (aa (ae (v := (.slice none 0 0)) rfl) (nJ (aa (ae (v := (.slice none 0 0)) rfl) (nJ (aa (ae (v := (I6 1)) rfl) (nK ?_))))))))
 refine aa (eB (vs := [(I6 x1.kind), (I6 x1.n)]) h 4 rfl lS rfl rfl rfl) (aa (ag (v := vb) rfl) ?_)
 obtain ⟨y9, e10, hs⟩ := aM hs
 refine aO LD rfl rfl (uD _ _ h.lt x1 vb b (h.fQ 2 rfl) _ e10) ?_
 rintro _ w ⟨k11, rfl⟩
 refine ⟨_, rfl, ?_⟩
 replace h := h.grow k11
 refine aa (ag (v := (I6 0)) rfl) (nN (aH ?_))
 replace h := h.uZ (R := jH) (E := 93) 11
 replace h := h.uZ (R := dw) (E := 3) 12
 refine eF (σ := Nat × Value × List Ins × Value × List Int × Int × Int) (inl (rg 9 6 ++ rg 22 27)) (fun ⟨Z4, v30, x31, v32, ED, x34, Ba⟩ => [(9, v30), (10, v32), (11, (I6 x34)), (22, (I6 Ba))]) (fun ⟨Z4, v30, x31, v32, ED, x34, Ba⟩ w => SH w0 M BE w (hset [(1, .sr mi va a), (2, .sr jM vb b), (4, .blk b8 [(I6 x1.kind), (I6 x1.n)]), (11, .own jH 93 v30 x31), (12, .own dw 3 v32 ED)]) ∧ again (rO F0 y9 a c b x1) Z4 (x31, ED, x34, Ba) = some r) (fun ⟨Z4, v30, x31, v32, ED, x34, Ba⟩ => Z4) ⟨N, (.slice none 0 0), [], (.slice none 0 0), [], 1, 0⟩ ⟨rfl, rfl, rfl, rfl, trivial⟩ ?_ ?_
 exact ⟨h.cn _, hs⟩
 rintro ⟨Z4, v30, x31, v32, ED, x34, Ba⟩ w dC ⟨h, hs⟩
 obtain ⟨m391, m39e, m39h⟩ := lQ hs
 subst m39e
 replace hs := m39h
 generalize UM : again (rO F0 y9 a c b x1) m391 = UL at hs
 refine nG (aa (dK rfl rfl) (nN (aJ (aK hs rfl (fun Ng hs => ?_) (fun Ng hs => ?_)))))
 refine aG (aj (aJ (aH (nG (aa (ag (v := (I6 Ba)) rfl) (aa (ae (v := (I6 Ba)) rfl) (nJ (aa (ag (v := va) rfl) (aa (ag (v := (I6 x34)) rfl) ?_)))))))))
 obtain ⟨ym, e45, hs⟩ := aM hs
 obtain ⟨e48, UN, UO, e48c⟩ := Qj e45
 obtain ⟨u46, h, i47⟩ := h.slS 1 13 rfl lX rfl UN UO e48c
 rw [← e48] at h
 refine aa (i47 _ _ _ _ _ _ _ _ _ _ rfl (.inr (congrArg some rfl)) (.inl ⟨rfl, rfl⟩)) (aa (ag (v := vb) rfl) (aa (ag (v := (I6 c)) rfl) (aa (ag (v := (I6 Ba)) rfl) ?_)))
 obtain ⟨a49, hs⟩ := bE hs
 refine aa (dz rfl rfl a49) ?_
 obtain ⟨uO, e51, hs⟩ := aM hs
 refine aO LB rfl rfl (ih _ _ h.lt u46 ym (h.fQ 13 rfl) vb b (h.fQ 2 rfl) (c + Ba) _ e51) ?_
 rintro _ w ⟨ZC, u52, rfl, g53, g54⟩
 refine ⟨_, rfl, ?_⟩
 replace h := h.mg 14 ZC g53 g54
 refine aa (ag (v := (.tuple #[u52, (I6 uO.2)])) rfl) (aa (bJ rfl rfl) (aa (bJ rfl rfl) (aa (ae (v := u52) rfl) (aa (ae (v := (I6 uO.2)) rfl) (nN (ay (aa (ag (v := v30) rfl) (aa (ag (v := u52) rfl) ?_))))))))
 obtain ⟨a56, hs⟩ := bE hs
 refine jb (R := jH) (m := uO.1) h 11 rfl (h.dJ 14 rfl) gz rfl rfl rfl a56.1 a56.2 fun w u57 h => aa (ag (v := (I6 x34)) rfl) (aa (ag (v := (I6 uO.2)) rfl) ?_)
 obtain ⟨a58, hs⟩ := bE hs
 refine aa (dz rfl rfl a58) (aa (ag (v := v32) rfl) (aa (ag (v := (I6 c)) rfl) (aa (ag (v := (I6 Ba)) rfl) ?_)))
 obtain ⟨a59, hs⟩ := bE hs
 refine aa (dz rfl rfl a59) (mX (R := dw) (vs := [(I6 ((c + Ba)))]) (xs := [(c + Ba)]) h 15 fq rfl rfl rfl ⟨rfl, trivial⟩ rfl fun w u60 h => ?_)
 obtain ⟨a61, hs⟩ := bE hs
 refine jb (R := dw) (m := [(c + Ba)]) h 12 rfl (h.dJ 15 rfl) fq rfl rfl rfl a61.1 a61.2 fun w Wo h => aa (ae (v := u57) rfl) (aa (ae (v := (I6 ((x34 + uO.2)))) rfl) (aa (ae (v := Wo) rfl) (aC (au (aj (ay ?_))))))
 obtain ⟨a63, hs⟩ := bE hs
 refine aa (dz rfl rfl a63) (aa (ag (v := (I6 ((Ba + 1)))) rfl) (aC (ak ?_)))
 subst UM
 exact iw ⟨m391, u57, (x31 ++ uO.1), Wo, (ED ++ [(c + Ba)]), (x34 + uO.2), (Ba + 1)⟩ ⟨h.cn _, hs⟩
 refine nE (aa (ag (v := (I6 c)) rfl) (aa (ah qd rfl) (aa (aB h 4 rfl aP rfl rfl) (aa (fE (pv := [(1, (I6 c)), (2, (I6 x1.n))]) (out := [(I6 0), (I6 c), (I6 x1.n), (I6 0), (.slice none 0 0)]) pg rfl ⟨1, 1, [(I6 c)], rfl, rfl, rfl, bH rfl, ⟨2, 1, [(I6 x1.n)], rfl, rfl, rfl, bH rfl, rfl⟩⟩) (bu h 16 uC fun w b64 h => dN (vs := [(I6 0), (I6 c), (I6 x1.n), (I6 0), (.slice none 0 0)]) h 16 [(I6 0), (I6 c), (I6 x1.n), (I6 0), (.slice none 0 0)] rfl uC rfl rfl rfl rfl rfl (ai rfl (ai rfl (ai rfl (ai rfl (ai rfl aS))))) fun w h => nN (dm (σ := Int × Int × Int × Value × List Int) (inl (rg 53 33)) (fun ⟨Bd, Oz, EZ, v68, xx⟩ => []) (fun ⟨Bd, Oz, EZ, v68, xx⟩ w => SH w0 M BE w (hset [(11, .own jH 93 v30 x31), (16, .blk b64 [(I6 Bd), (I6 c), (I6 Oz), (I6 EZ), v68]), (17, .own dw 3 v68 xx)]) ∧ gY x31 c x34 Bd Oz EZ xx = some r) ?_ ?_))))))
 rintro ⟨Bd, Oz, EZ, v68, xx⟩ w dC ⟨h, hs⟩
 refine nG (aa (ag (v := v30) rfl) (aa (eB (vs := [(I6 Bd), (I6 c), (I6 Oz), (I6 EZ), v68]) h 16 rfl uC rfl rfl rfl) ?_))
 replace h := h.freeze 17 rfl
 refine mX (R := jH) (vs := [(.agg #[(I6 Bd), (I6 c), (I6 Oz), (I6 EZ), v68])]) (xs := [(⟨Bd, c, Oz, EZ, xx⟩ : Ins)]) h 18 gz rfl rfl rfl ⟨⟨_, rfl, (h.gy 17 rfl)⟩, trivial⟩ rfl fun w u70 h => ?_
 obtain ⟨a71, hs⟩ := bE hs
 refine jb (R := jH) (m := [(⟨Bd, c, Oz, EZ, xx⟩ : Ins)]) h 11 rfl (h.dJ 18 rfl) gz rfl rfl rfl a71.1 a71.2 fun w u72 h => aa (ag (v := (I6 x34)) rfl) (aa (ae (v := u72) rfl) (aa (ae (v := (I6 x34)) rfl) (nR (Dz (v1 := u72) (v2 := (I6 x34)) Tryz.results100 rfl rfl ?_))))
 obtain rfl := gK hs
 exact ⟨h.grown, _, rfl, (h.mh 11 rfl).1, (h.mh 11 rfl).2⟩
 refine nG (aa (ah EW rfl) (aa (aB h 4 rfl aP rfl rfl) (nN (aH (nG (aa (bW rfl rfl) (aa (ae (v := (.bool (decide ((x1.kind : Int) = 1)))) rfl) (nN (aK hs rfl (fun c73 hs => ?_) (fun c73 hs => ?_))))))))))
 refine ay (aa (ah rW rfl) (dS h 16 [(I6 1), (I6 c), (I6 x1.n), (I6 0), (.slice none 0 0)] rfl aP rfl rfl rfl rfl rfl fun w h => aC (au (ak ?_))))
 replace h := h.uZ (R := dw) (E := 3) 17
 exact cO (1, x1.n, 0, (.slice none 0 0), []) ⟨h.cn _, hs⟩
 refine nG (aa (bW rfl rfl) (aa (ae (v := (.bool (decide ((x1.kind : Int) = 2)))) rfl) (nN (aK hs rfl (fun c74 hs => ?_) (fun c74 hs => ?_)))))
 refine ay (aa (ah rW rfl) (dS h 16 [(I6 2), (I6 c), (I6 x1.n), (I6 0), (.slice none 0 0)] rfl aP rfl rfl rfl rfl rfl fun w h => aC (au (ak ?_))))
 replace h := h.uZ (R := dw) (E := 3) 17
 exact cO (2, x1.n, 0, (.slice none 0 0), []) ⟨h.cn _, hs⟩
 refine nG (aa (bW rfl rfl) (aa (ae (v := (.bool (decide ((x1.kind : Int) = 5)))) rfl) (nN (aK hs rfl (fun c75 hs => ?_) (fun c75 hs => ?_)))))
 refine ay (aa (ah rW rfl) (dS h 16 [(I6 5), (I6 c), (I6 x1.n), (I6 0), (.slice none 0 0)] rfl aP rfl rfl rfl rfl rfl fun w h => aC (au (ak ?_))))
 replace h := h.uZ (R := dw) (E := 3) 17
 exact cO (5, x1.n, 0, (.slice none 0 0), []) ⟨h.cn _, hs⟩
 refine nG (aa (bW rfl rfl) (aa (ae (v := (.bool (decide ((x1.kind : Int) = 3)))) rfl) (nN (aK hs rfl (fun c76 hs => ?_) (fun c76 hs => ?_)))))
 refine ay (aa (ag (v := (I6 c)) rfl) (aa (ag (v := (I6 c)) rfl) (aa (ag (v := (I6 c)) rfl) ?_)))
 obtain ⟨a77, hs⟩ := bE hs
 refine aa (dz rfl rfl a77) (aa (ah qd rfl) (aa (aB h 4 rfl aP rfl rfl) (mX (R := dw) (vs := [(I6 x1.n)]) (xs := [x1.n]) h 19 fq rfl rfl rfl ⟨rfl, trivial⟩ rfl fun w JO h => aa (fE (pv := [(0, (I6 3)), (1, (I6 c)), (2, (I6 c)), (3, (I6 ((c + 1)))), (4, JO)]) (out := [(I6 3), (I6 c), (I6 c), (I6 ((c + 1))), JO]) pg rfl ⟨0, 1, [(I6 3)], rfl, rfl, rfl, bH rfl, ⟨1, 1, [(I6 c)], rfl, rfl, rfl, bH rfl, ⟨2, 1, [(I6 c)], rfl, rfl, rfl, bH rfl, ⟨3, 1, [(I6 ((c + 1)))], rfl, rfl, rfl, bH rfl, ⟨4, 1, [JO], rfl, (mQ (h.eD 19 rfl).one), rfl, bH rfl, rfl⟩⟩⟩⟩⟩) (dN (vs := [(I6 3), (I6 c), (I6 c), (I6 ((c + 1))), JO]) h 16 [(I6 3), (I6 c), (I6 c), (I6 ((c + 1))), JO] rfl uC rfl rfl rfl rfl rfl (ai rfl (ai rfl (ai rfl (ai rfl (ai (h.eD 19 rfl).one aS))))) fun w h => aC (au (ak ?_))))))
 replace h := h.MP 19 17 rfl rfl (by decide)
 exact cO (3, c, (c + 1), JO, [x1.n]) ⟨h.cn _, hs⟩
 refine nG (aa (bW rfl rfl) (aa (ae (v := (.bool (decide ((x1.kind : Int) = 4)))) rfl) (nN (aK hs rfl (fun c79 hs => ?_) (fun c79 hs => ?_)))))
 refine ay (aa (ag (v := (I6 c)) rfl) (aa (ag (v := (I6 c)) rfl) (aa (ah qd rfl) (aa (aB h 4 rfl aP rfl rfl) (aa (fE (pv := [(0, (I6 4)), (1, (I6 c)), (2, (I6 c)), (3, (I6 x1.n))]) (out := [(I6 4), (I6 c), (I6 c), (I6 x1.n), (.slice none 0 0)]) pg rfl ⟨0, 1, [(I6 4)], rfl, rfl, rfl, bH rfl, ⟨1, 1, [(I6 c)], rfl, rfl, rfl, bH rfl, ⟨2, 1, [(I6 c)], rfl, rfl, rfl, bH rfl, ⟨3, 1, [(I6 x1.n)], rfl, rfl, rfl, bH rfl, rfl⟩⟩⟩⟩) (dN (vs := [(I6 4), (I6 c), (I6 c), (I6 x1.n), (.slice none 0 0)]) h 16 [(I6 4), (I6 c), (I6 c), (I6 x1.n), (.slice none 0 0)] rfl uC rfl rfl rfl rfl rfl (ai rfl (ai rfl (ai rfl (ai rfl (ai rfl aS))))) fun w h => aC (au (ak ?_))))))))
 replace h := h.uZ (R := dw) (E := 3) 17
 exact cO (4, c, x1.n, (.slice none 0 0), []) ⟨h.cn _, hs⟩
 refine nG (aa (bW rfl rfl) (aa (ae (v := (.bool (decide ((x1.kind : Int) = 6)))) rfl) (nN (aK hs rfl (fun c80 hs => ?_) (fun c80 hs => ?_)))))
 refine ay (aa (ag (v := v32) rfl) (aa (ah rW rfl) (dS h 16 [(I6 7), (I6 c), (I6 x1.n), (I6 0), (.slice none 0 0)] rfl aP rfl rfl rfl rfl rfl fun w h => aa (ah wU rfl) (dS h 16 [(I6 7), (I6 c), (I6 x1.n), (I6 0), v32] rfl jc rfl rfl rfl rfl (h.eD 12 rfl).one fun w h => aC (au (ak ?_))))))
 replace h := h.MP 12 17 rfl rfl (by decide)
 exact cO (7, x1.n, 0, v32, ED) ⟨h.cn _, hs⟩
 refine aG (au (ak ?_))
 replace h := h.uZ (R := dw) (E := 3) 17
 exact cO (0, x1.n, 0, (.slice none 0 0), []) ⟨h.cn _, hs⟩
def fJ (x8 : List Ins) (l8 : List Ins → Option (List Ins)) (x34 : List Ins) : Option (List Ins) :=
  iA (Room 56 x8 x34) (l8 (x8 ++ x34))
def qY (x32 : List Ins) (c : Int) (d : Int) (x8 : List Ins) (Cg : List Ins) (QJ : List Ins) (l8 : List Ins → Option (List Ins)) (x90 : Int) : Option (List Ins) :=
  iA (Room 56 x32 [(⟨13, c, (((((d + (x8.length : Int)) + (x32.length : Int)) + 1) + (Cg.length : Int)) + 1), 0, []⟩ : Ins)]) (iA (Room 56 (x32 ++ [(⟨13, c, (((((d + (x8.length : Int)) + (x32.length : Int)) + 1) + (Cg.length : Int)) + 1), 0, []⟩ : Ins)]) Cg) (iA (Room 56 ((x32 ++ [(⟨13, c, (((((d + (x8.length : Int)) + (x32.length : Int)) + 1) + (Cg.length : Int)) + 1), 0, []⟩ : Ins)]) ++ Cg) [(⟨12, 0, x90, 0, []⟩ : Ins)]) (iA (Room 56 (((x32 ++ [(⟨13, c, (((((d + (x8.length : Int)) + (x32.length : Int)) + 1) + (Cg.length : Int)) + 1), 0, []⟩ : Ins)]) ++ Cg) ++ [(⟨12, 0, x90, 0, []⟩ : Ins)]) QJ) (fJ x8 l8 ((((x32 ++ [(⟨13, c, (((((d + (x8.length : Int)) + (x32.length : Int)) + 1) + (Cg.length : Int)) + 1), 0, []⟩ : Ins)]) ++ Cg) ++ [(⟨12, 0, x90, 0, []⟩ : Ins)]) ++ QJ)))))
def qZ (F0 : List bG → List gG → Int → Int → Option (List Ins)) (d : Int) (x8 : List Ins) (x32 : List Ins) (eH : bG) (a : List bG) (b : List gG) (c : Int) (l8 : List Ins → Option (List Ins)) (x69 : Bool) : Option (List Ins) :=
  bif x69 then iA (jN ((d + (x8.length : Int)) + (x32.length : Int))) (iA (jN (((d + (x8.length : Int)) + (x32.length : Int)) + 1)) ((F0 eH.a b c (((d + (x8.length : Int)) + (x32.length : Int)) + 1)).bind fun Cg => iA (jN ((d + (x8.length : Int)) + (x32.length : Int))) (iA (jN (((d + (x8.length : Int)) + (x32.length : Int)) + 1)) (iA (jN ((((d + (x8.length : Int)) + (x32.length : Int)) + 1) + (Cg.length : Int))) (iA (jN (((((d + (x8.length : Int)) + (x32.length : Int)) + 1) + (Cg.length : Int)) + 1)) ((F0 eH.b b c (((((d + (x8.length : Int)) + (x32.length : Int)) + 1) + (Cg.length : Int)) + 1)).bind fun QJ => iA (jN ((((((d + (x8.length : Int)) + (x32.length : Int)) + 1) + (Cg.length : Int)) + 1) + (QJ.length : Int))) (bif decide ((eH.kind : Int) = 7) then qY x32 c d x8 Cg QJ l8 (d + (x8.length : Int)) else qY x32 c d x8 Cg QJ l8 ((((((d + (x8.length : Int)) + (x32.length : Int)) + 1) + (Cg.length : Int)) + 1) + (QJ.length : Int))))))))) else fJ x8 l8 x32
def q8 (N : Nat) (F0 : List bG → List gG → Int → Int → Option (List Ins)) (eH : bG) (c : Int) (x8 : List Ins) (l8 : List Ins → Option (List Ins)) (b : List gG) (d : Int) (a : List bG) (x32 : List Ins) : Option (List Ins) :=
  bif decide ((eH.kind : Int) = 1) then iA (Room 56 x32 [(⟨2, eH.n, c, 0, []⟩ : Ins)]) (fJ x8 l8 (x32 ++ [(⟨2, eH.n, c, 0, []⟩ : Ins)])) else bif decide ((eH.kind : Int) = 2) then iA (jN (c + 1)) ((lg N eH.f b (c + 1)).bind fun sS => iA (jN (c + 1)) (iA (Room 56 x32 sS.1) (iA (Room 56 (x32 ++ sS.1) [(⟨6, c, (c + 1), eH.n, []⟩ : Ins)]) (fJ x8 l8 ((x32 ++ sS.1) ++ [(⟨6, c, (c + 1), eH.n, []⟩ : Ins)]))))) else bif decide ((eH.kind : Int) = 3) then iA (Room 56 x32 [(⟨9, c, 0, 0, []⟩ : Ins)]) (fJ x8 l8 (x32 ++ [(⟨9, c, 0, 0, []⟩ : Ins)])) else bif decide ((eH.kind : Int) = 4) then iA (Room 56 x32 [(⟨10, 0, 0, 0, []⟩ : Ins)]) (fJ x8 l8 (x32 ++ [(⟨10, 0, 0, 0, []⟩ : Ins)])) else bif decide ((eH.kind : Int) = 5) then iA (Room 56 x32 [(⟨11, c, 0, 0, []⟩ : Ins)]) (fJ x8 l8 (x32 ++ [(⟨11, c, 0, 0, []⟩ : Ins)])) else bif decide ((eH.kind : Int) = 8) then iA (Room 56 x32 [(⟨8, c, 0, 0, []⟩ : Ins)]) (fJ x8 l8 (x32 ++ [(⟨8, c, 0, 0, []⟩ : Ins)])) else bif decide ((eH.kind : Int) = 6) then qZ F0 d x8 x32 eH a b c l8 (decide ((eH.kind : Int) = 6)) else qZ F0 d x8 x32 eH a b c l8 (decide ((eH.kind : Int) = 7))
def q9 (N : Nat) (F0 : List bG → List gG → Int → Int → Option (List Ins)) (d : Int) (b : List gG) (c : Int) (a : List bG) (eH : bG) (x8 : List Ins) (l8 : List Ins → Option (List Ins)) : Option (List Ins) :=
  iA (jN (d + (x8.length : Int))) (bif decide ((0 : Int) < (eH.e.length : Int)) then (lg N eH.e b c).bind fun y104 => q8 N F0 eH c x8 l8 b d a y104.1 else q8 N F0 eH c x8 l8 b d a [])
def rf (x8 : List Ins) : Option (List Ins) :=
  some x8
def xC (N : Nat) (F0 : List bG → List gG → Int → Int → Option (List Ins)) (a : List bG) (b : List gG) (c : Int) (d : Int) : Option (List Ins) :=
  each (q9 N F0 d b c a) rf a []
def om : Nat → List bG → List gG → Int → Int → Option (List Ins)
  | 0 => fun _ _ _ _ => none
  | N + 1 => xC N (om N)
theorem xD : ∀ (N : Nat) (w0 : World) (M : BS) (hM : ∀ b, M b → b < w0.heap.size) (va : Value) (a : List bG) (ha : fK fT w0 BE M va a) (vb : Value) (b : List gG) (hb : fK jM w0 BE M vb b) (c : Int) (d : Int) (r : List Ins) (hs : om N a b c d = some r),
    Calls Tryz.prog 76 #[va, vb, (I6 c), (I6 d)] w0 (fun e w' => Grow w0 w' ∧ ∃ u0, e = .returned (u0) ∧ fI jH 93 w' M u0 r ∧ (∀ b, ob u0 b → w0.heap.size ≤ b)) := by
 intro N
 induction N with
 | zero => intro w0 M hM va a ha vb b hb c d r hs; cases hs
 | succ N ih =>
 intro w0 M hM va a ha vb b hb c d r hs
 replace hs : xC N (om N) a b c d = some r := hs
 generalize om N = F0 at hs ih
 refine aL (args := [va, vb, (I6 c), (I6 d)]) Tryz.func76 rfl Tryz.ntmps76 (bH rfl) ?_
 have h := SH.init hM
 replace h := h.eu 1 ha aT
 replace h := h.eu 2 hb (aW aT)
 have tQ := ha.bD
 have FU := hb.bD
 refine nG (aa (ae (v := (.slice none 0 0)) rfl) (nJ (aa (ae (v := (.slice none 0 0)) rfl) (nK (aa (ag (v := va) rfl) (aa (aX nu rfl (h.fQ 1 rfl)) (aa (ag (v := (I6 0)) rfl) (nN (aH ?_)))))))))
 replace h := h.uZ (R := jH) (E := 93) 6
 refine eF (σ := Nat × Int × Value × List Ins) (inl ([9] ++ rg 11 9 ++ rg 22 134)) (fun ⟨k9, i10, v7, x8⟩ => [(9, v7), (22, (I6 i10))]) (fun ⟨k9, i10, v7, x8⟩ w => SH w0 M BE w (hset [(1, .sr fT va a), (2, .sr jM vb b), (6, .own jH 93 v7 x8)]) ∧ i10 = (k9 : Int) ∧ each (q9 N F0 d b c a) rf (a.drop k9) x8 = some r) (fun ⟨k9, i10, v7, x8⟩ => a.length - k9) ⟨0, 0, (.slice none 0 0), []⟩ ⟨rfl, rfl, trivial⟩ ?_ ?_
 exact ⟨h.cn _, rfl, hs⟩
 rintro ⟨k9, i10, v7, x8⟩ w dC ⟨h, hik, hs⟩
 refine nG ?_
 refine aa (dK rfl rfl) (nN ?_)
 refine aJ (fD rfl (fun e14 => ?_) (fun e14 => ?_))
 refine aG (aj ?_)
 obtain ⟨eH, IB, IC⟩ := eU (hik ▸ e14)
 rw [IC, df] at hs
 generalize Cw : each (q9 N F0 d b c a) rf (a.drop (k9 + 1)) = l8 at hs
 have IE := eZ ((h.fQ 1 rfl)).bD hik e14
 refine aJ (aH (nG ?_))
 obtain ⟨b17, o18, UA, h, Rs, i16⟩ := h.vo 1 7 rfl nu rfl (gB hik) (eY hik IB)
 obtain ⟨u21, u23, u25, u27, rfl, g22, g24, g26, g28⟩ := Bj Rs
 replace h := h.bK 8 g22.up
 replace h := h.bK 9 g24.up.up
 replace h := h.bK 10 g26.up.up.up
 replace h := h.bK 11 g28.up.up.up.up
 refine aa (i16 _ _ _ _ _ _ _ _ _ rfl rfl) (aa (iD (k := 0) (vs := [(I6 eH.kind), (I6 eH.n), u21, u23, u25, u27]) h 7 rfl qK rfl rfl rfl (bH rfl)) (bu h 12 qK fun w b29 h => dN (vs := [(I6 eH.kind), (I6 eH.n), u21, u23, u25, u27]) h 12 [(I6 eH.kind), (I6 eH.n), u21, u23, u25, u27] rfl qK rfl rfl rfl rfl rfl (ai rfl (ai rfl (ai (h.gy 8 rfl).one (ai (h.gy 9 rfl).one (ai (h.gy 10 rfl).one (ai (h.gy 11 rfl).one aS)))))) fun w h => nJ (aa (ag (v := (I6 d)) rfl) (aa (ag (v := v7) rfl) (aa (aX iU rfl (h.dJ 6 rfl)) ?_)))))
 obtain ⟨a30, hs⟩ := bE hs
 refine aa (dz rfl rfl a30) (aa (ae (v := (I6 ((d + (x8.length : Int))))) rfl) (nJ (aa (ae (v := (.slice none 0 0)) rfl) (nN (dm (σ := Value × List Ins) (inl ([13] ++ rg 30 12)) (fun ⟨v31, x32⟩ => [(13, v31)]) (fun ⟨v31, x32⟩ w => SH w0 M BE w (hset [(1, .sr fT va a), (2, .sr jM vb b), (6, .own jH 93 v7 x8), (8, .rd mi u21 eH.e), (9, .rd mi u23 eH.f), (10, .rd fT u25 eH.a), (11, .rd fT u27 eH.b), (12, .blk b29 [(I6 eH.kind), (I6 eH.n), u21, u23, u25, u27]), (13, .own jH 93 v31 x32)]) ∧ q8 N F0 eH c x8 l8 b d a x32 = some r) ?_ ?_)))))
 rintro ⟨v31, x32⟩ w dC ⟨h, hs⟩
 refine dm (σ := Value × List Ins) (inl (rg 13 7 ++ rg 42 110)) (fun ⟨v33, x34⟩ => [(13, v33)]) (fun ⟨v33, x34⟩ w => SH w0 M BE w (hset [(1, .sr fT va a), (2, .sr jM vb b), (6, .own jH 93 v7 x8), (13, .own jH 93 v33 x34)]) ∧ fJ x8 l8 x34 = some r) ?_ ?_
 rintro ⟨v33, x34⟩ w dC ⟨h, hs⟩
 refine ay (aa (ag (v := v7) rfl) (aa (ag (v := v33) rfl) ?_))
 obtain ⟨a35, hs⟩ := bE hs
 refine jb (R := jH) (m := x34) h 6 rfl (h.dJ 13 rfl) gz rfl rfl rfl a35.1 a35.2 fun w u36 h => aa (ae (v := u36) rfl) (aC (au (aj (ay (aa (dz rfl rfl IE) (aa (ag (v := (I6 ((i10 + 1)))) rfl) (aC (ak ?_))))))))
 subst Cw
 exact iw ⟨k9 + 1, i10 + 1, u36, (x8 ++ x34)⟩ ⟨h.cn _, by omega, hs⟩ (by have := kQ e14; dsimp only; omega)
 refine nG (aa (ah lI rfl) (aa (aB h 12 rfl aP rfl rfl) (nN (aH (nG (aa (bW rfl rfl) (aa (ae (v := (.bool (decide ((eH.kind : Int) = 1)))) rfl) (nN (aK hs rfl (fun c37 hs => ?_) (fun c37 hs => ?_))))))))))
 refine ay (aa (ag (v := v31) rfl) (aa (ah xk rfl) (aa (aB h 12 rfl aP rfl rfl) (aa (ag (v := (I6 c)) rfl) (aa (fE (pv := [(0, (I6 2)), (1, (I6 eH.n)), (2, (I6 c))]) (out := [(I6 2), (I6 eH.n), (I6 c), (I6 0), (.slice none 0 0)]) pg rfl ⟨0, 1, [(I6 2)], rfl, rfl, rfl, bH rfl, ⟨1, 1, [(I6 eH.n)], rfl, rfl, rfl, bH rfl, ⟨2, 1, [(I6 c)], rfl, rfl, rfl, bH rfl, rfl⟩⟩⟩) (mX (R := jH) (vs := [(.agg #[(I6 2), (I6 eH.n), (I6 c), (I6 0), (.slice none 0 0)])]) (xs := [(⟨2, eH.n, c, 0, []⟩ : Ins)]) h 14 gz rfl rfl rfl ⟨⟨_, rfl, fK.nil⟩, trivial⟩ rfl fun w u38 h => ?_))))))
 obtain ⟨a39, hs⟩ := bE hs
 refine jb (R := jH) (m := [(⟨2, eH.n, c, 0, []⟩ : Ins)]) h 13 rfl (h.dJ 14 rfl) gz rfl rfl rfl a39.1 a39.2 fun w u40 h => aa (ae (v := u40) rfl) (aC (au (ak ?_)))
 exact cO (u40, (x32 ++ [(⟨2, eH.n, c, 0, []⟩ : Ins)])) ⟨h.cn _, hs⟩
 refine nG (aa (bW rfl rfl) (aa (ae (v := (.bool (decide ((eH.kind : Int) = 2)))) rfl) (nN (aK hs rfl (fun Uf hs => ?_) (fun Uf hs => ?_)))))
 refine nG (aa (ah Cv rfl) (aa (aB h 12 rfl yL rfl rfl) (aa (ag (v := vb) rfl) (aa (ag (v := (I6 c)) rfl) ?_))))
 obtain ⟨a42, hs⟩ := bE hs
 refine aa (dz rfl rfl a42) ?_
 obtain ⟨sS, e44, hs⟩ := aM hs
 refine aO LB rfl rfl (xB N _ _ h.lt u23 eH.f (h.lF 9 rfl) vb b (h.fQ 2 rfl) (c + 1) _ e44) ?_
 rintro _ w ⟨k48, u45, rfl, g46, g47⟩
 refine ⟨_, rfl, ?_⟩
 replace h := h.mg 15 k48 g46 g47
 refine aa (ag (v := (.tuple #[u45, (I6 sS.2)])) rfl) (aa (bJ rfl rfl) (aa (bJ rfl rfl) (aa (ae (v := u45) rfl) (aa (ae (v := (I6 sS.2)) rfl) (nN (uf (L := (ob v31)) mixed h fun w h => dW 0 (aQ.refl _ _) rfl aA (by kernel_rfl) (by kernel_rfl) (by kernel_rfl) (fun w hk => ag (v := v31) rfl) (dW 1 (aQ.refl _ _) rfl aA (by kernel_rfl) (by kernel_rfl) (by kernel_rfl) (fun w hk => ag (v := u45) rfl) (dW 3 (aQ.refl _ _) rfl aA (by kernel_rfl) (by kernel_rfl) (by kernel_rfl) (fun w hk => ag (v := (I6 c)) rfl) (dW 4 (aQ.refl _ _) rfl aA (by kernel_rfl) (by kernel_rfl) (by kernel_rfl) (fun w hk => ag (v := (I6 c)) rfl) ?_)))))))))
 obtain ⟨UQ, hs⟩ := bE hs
 refine dW 5 (aQ.refl _ _) rfl aA (by kernel_rfl) (by kernel_rfl) (by kernel_rfl) (fun w hk => dz rfl rfl UQ) (dW 6 (aQ.refl _ _) rfl aA (by kernel_rfl) (by kernel_rfl) (by kernel_rfl) (fun w hk => ah xk rfl) (dW 7 (aQ.refl _ _) rfl aA (by kernel_rfl) (by kernel_rfl) (by kernel_rfl) (fun w hk => have h := h.vB 13 rfl hk; aB h 12 rfl aP rfl rfl) (dW 8 (aQ.refl _ _) rfl aA (by kernel_rfl) (by kernel_rfl) (by kernel_rfl) (fun w hk => fE (pv := [(0, (I6 6)), (1, (I6 c)), (2, (I6 ((c + 1)))), (3, (I6 eH.n))]) (out := [(I6 6), (I6 c), (I6 ((c + 1))), (I6 eH.n), (.slice none 0 0)]) pg rfl ⟨0, 1, [(I6 6)], rfl, rfl, rfl, bH rfl, ⟨1, 1, [(I6 c)], rfl, rfl, rfl, bH rfl, ⟨2, 1, [(I6 ((c + 1)))], rfl, rfl, rfl, bH rfl, ⟨3, 1, [(I6 eH.n)], rfl, rfl, rfl, bH rfl, rfl⟩⟩⟩⟩) ?_)))
 obtain ⟨Fe, hs⟩ := bE hs
 obtain ⟨Dm, hs⟩ := bE hs
 obtain ⟨Po, Yf⟩ : ∃ x, x = w := ⟨_, rfl⟩
 have vg : aQ (ob v31) Po w := Yf ▸ aQ.refl (ob v31) w
 refine zG Yf.symm (vz 2 9 (by kernel_rfl) rfl aA rfl aA ?_ ?_)
 have RN := vg.size
 refine qH (R := jH) (m := sS.1) h 13 rfl (h.dJ 15 rfl) gz rfl rfl rfl Fe.1 Fe.2 fun w IK h FY FZ => ?_
 have Al : ∀ b, ob IK b → b < Po.heap.size → ob v31 b := fun b hb hl => FZ b hb (Nat.lt_of_lt_of_le hl (vg).size)
 replace vg := vg.same FY
 refine aC (aV vg (dB 9 (by kernel_rfl) rfl aA (zZ (R := jH) (vs := [(.agg #[(I6 6), (I6 c), (I6 ((c + 1))), (I6 eH.n), (.slice none 0 0)])]) (xs := [(⟨6, c, (c + 1), eH.n, []⟩ : Ins)]) h 124 gz rfl rfl rfl ⟨⟨_, rfl, fK.nil⟩, trivial⟩ rfl fun w IL h F3 F4 => ?_)))
 have RO : ∀ b, ob IL b → Po.heap.size ≤ b := fun b hb => Nat.le_trans vg.size (F4 b hb)
 replace vg := vg.grow F3
 refine aC (aV vg (dB 10 (by kernel_rfl) rfl aA ?_))
 have Pp := vg.size
 refine qH (R := jH) (m := [(⟨6, c, (c + 1), eH.n, []⟩ : Ins)]) h 13 rfl (h.dJ 124 rfl) gz rfl rfl rfl Dm.1 Dm.2 fun w wN h D9 Ea => ?_
 have Pq : ∀ b, ob wN b → b < Po.heap.size → ob v31 b := fun b hb hl => Al b (Ea b hb (Nat.lt_of_lt_of_le hl (vg).size)) hl
 replace vg := aQ.step vg D9 (fun x hx hl => Al x hx hl)
 refine aC (aV vg (iQ 11 vg rfl (by kernel_rfl) (fun w hk => ae (v := wN) rfl) (j3 (by kernel_rfl) (au (ak ?_)))))
 exact cO (wN, ((x32 ++ sS.1) ++ [(⟨6, c, (c + 1), eH.n, []⟩ : Ins)])) ⟨h.cn _, hs⟩
 refine zZ (R := jH) (vs := [(.agg #[(I6 6), (I6 c), (I6 ((c + 1))), (I6 eH.n), (.slice none 0 0)])]) (xs := [(⟨6, c, (c + 1), eH.n, []⟩ : Ins)]) h 124 gz rfl rfl rfl ⟨⟨_, rfl, fK.nil⟩, trivial⟩ rfl fun w IL h F3 F4 => ?_
 have RO : ∀ b, ob IL b → Po.heap.size ≤ b := fun b hb => Nat.le_trans vg.size (F4 b hb)
 replace vg := vg.grow F3
 refine aC (aV vg (dB 2 (by kernel_rfl) rfl aA ?_))
 have RN := vg.size
 refine qH (R := jH) (m := sS.1) h 13 rfl (h.dJ 15 rfl) gz rfl rfl rfl Fe.1 Fe.2 fun w IK h FY FZ => ?_
 have Al : ∀ b, ob IK b → b < Po.heap.size → ob v31 b := fun b hb hl => FZ b hb (Nat.lt_of_lt_of_le hl (vg).size)
 replace vg := vg.same FY
 refine aC (aV vg (dB 10 (by kernel_rfl) rfl aA ?_))
 have Pp := vg.size
 refine qH (R := jH) (m := [(⟨6, c, (c + 1), eH.n, []⟩ : Ins)]) h 13 rfl (h.dJ 124 rfl) gz rfl rfl rfl Dm.1 Dm.2 fun w wN h D9 Ea => ?_
 have Pq : ∀ b, ob wN b → b < Po.heap.size → ob v31 b := fun b hb hl => Al b (Ea b hb (Nat.lt_of_lt_of_le hl (vg).size)) hl
 replace vg := aQ.step vg D9 (fun x hx hl => Al x hx hl)
 refine aC (aV vg (iQ 11 vg rfl (by kernel_rfl) (fun w hk => ae (v := wN) rfl) (j3 (by kernel_rfl) (au (ak ?_)))))
 exact cO (wN, ((x32 ++ sS.1) ++ [(⟨6, c, (c + 1), eH.n, []⟩ : Ins)])) ⟨h.cn _, hs⟩
 refine nG (aa (bW rfl rfl) (aa (ae (v := (.bool (decide ((eH.kind : Int) = 3)))) rfl) (nN (aK hs rfl (fun c53 hs => ?_) (fun c53 hs => ?_)))))
 refine ay (aa (ag (v := v31) rfl) (aa (ag (v := (I6 c)) rfl) (aa (fE (pv := [(0, (I6 9)), (1, (I6 c))]) (out := [(I6 9), (I6 c), (I6 0), (I6 0), (.slice none 0 0)]) pg rfl ⟨0, 1, [(I6 9)], rfl, rfl, rfl, bH rfl, ⟨1, 1, [(I6 c)], rfl, rfl, rfl, bH rfl, rfl⟩⟩) (mX (R := jH) (vs := [(.agg #[(I6 9), (I6 c), (I6 0), (I6 0), (.slice none 0 0)])]) (xs := [(⟨9, c, 0, 0, []⟩ : Ins)]) h 172 gz rfl rfl rfl ⟨⟨_, rfl, fK.nil⟩, trivial⟩ rfl fun w u54 h => ?_))))
 obtain ⟨a55, hs⟩ := bE hs
 refine jb (R := jH) (m := [(⟨9, c, 0, 0, []⟩ : Ins)]) h 13 rfl (h.dJ 172 rfl) gz rfl rfl rfl a55.1 a55.2 fun w u56 h => aa (ae (v := u56) rfl) (aC (au (ak ?_)))
 exact cO (u56, (x32 ++ [(⟨9, c, 0, 0, []⟩ : Ins)])) ⟨h.cn _, hs⟩
 refine nG (aa (bW rfl rfl) (aa (ae (v := (.bool (decide ((eH.kind : Int) = 4)))) rfl) (nN (aK hs rfl (fun c57 hs => ?_) (fun c57 hs => ?_)))))
 refine ay (aa (ag (v := v31) rfl) (aa (fE (pv := [(0, (I6 10))]) (out := [(I6 10), (I6 0), (I6 0), (I6 0), (.slice none 0 0)]) pg rfl ⟨0, 1, [(I6 10)], rfl, rfl, rfl, bH rfl, rfl⟩) (mX (R := jH) (vs := [(.agg #[(I6 10), (I6 0), (I6 0), (I6 0), (.slice none 0 0)])]) (xs := [(⟨10, 0, 0, 0, []⟩ : Ins)]) h 173 gz rfl rfl rfl ⟨⟨_, rfl, fK.nil⟩, trivial⟩ rfl fun w u58 h => ?_)))
 obtain ⟨a59, hs⟩ := bE hs
 refine jb (R := jH) (m := [(⟨10, 0, 0, 0, []⟩ : Ins)]) h 13 rfl (h.dJ 173 rfl) gz rfl rfl rfl a59.1 a59.2 fun w u60 h => aa (ae (v := u60) rfl) (aC (au (ak ?_)))
 exact cO (u60, (x32 ++ [(⟨10, 0, 0, 0, []⟩ : Ins)])) ⟨h.cn _, hs⟩
 refine nG (aa (bW rfl rfl) (aa (ae (v := (.bool (decide ((eH.kind : Int) = 5)))) rfl) (nN (aK hs rfl (fun c61 hs => ?_) (fun c61 hs => ?_)))))
 refine ay (aa (ag (v := v31) rfl) (aa (ag (v := (I6 c)) rfl) (aa (fE (pv := [(0, (I6 11)), (1, (I6 c))]) (out := [(I6 11), (I6 c), (I6 0), (I6 0), (.slice none 0 0)]) pg rfl ⟨0, 1, [(I6 11)], rfl, rfl, rfl, bH rfl, ⟨1, 1, [(I6 c)], rfl, rfl, rfl, bH rfl, rfl⟩⟩) (mX (R := jH) (vs := [(.agg #[(I6 11), (I6 c), (I6 0), (I6 0), (.slice none 0 0)])]) (xs := [(⟨11, c, 0, 0, []⟩ : Ins)]) h 174 gz rfl rfl rfl ⟨⟨_, rfl, fK.nil⟩, trivial⟩ rfl fun w Wo h => ?_))))
 obtain ⟨a63, hs⟩ := bE hs
 refine jb (R := jH) (m := [(⟨11, c, 0, 0, []⟩ : Ins)]) h 13 rfl (h.dJ 174 rfl) gz rfl rfl rfl a63.1 a63.2 fun w u64 h => aa (ae (v := u64) rfl) (aC (au (ak ?_)))
 exact cO (u64, (x32 ++ [(⟨11, c, 0, 0, []⟩ : Ins)])) ⟨h.cn _, hs⟩
 refine nG (aa (bW rfl rfl) (aa (ae (v := (.bool (decide ((eH.kind : Int) = 8)))) rfl) (nN (aK hs rfl (fun LU hs => ?_) (fun LU hs => ?_)))))
 refine ay (aa (ag (v := v31) rfl) (aa (ag (v := (I6 c)) rfl) (aa (fE (pv := [(0, (I6 8)), (1, (I6 c))]) (out := [(I6 8), (I6 c), (I6 0), (I6 0), (.slice none 0 0)]) pg rfl ⟨0, 1, [(I6 8)], rfl, rfl, rfl, bH rfl, ⟨1, 1, [(I6 c)], rfl, rfl, rfl, bH rfl, rfl⟩⟩) (mX (R := jH) (vs := [(.agg #[(I6 8), (I6 c), (I6 0), (I6 0), (.slice none 0 0)])]) (xs := [(⟨8, c, 0, 0, []⟩ : Ins)]) h 175 gz rfl rfl rfl ⟨⟨_, rfl, fK.nil⟩, trivial⟩ rfl fun w u66 h => ?_))))
 obtain ⟨a67, hs⟩ := bE hs
 refine jb (R := jH) (m := [(⟨8, c, 0, 0, []⟩ : Ins)]) h 13 rfl (h.dJ 175 rfl) gz rfl rfl rfl a67.1 a67.2 fun w u68 h => aa (ae (v := u68) rfl) (aC (au (ak ?_)))
 exact cO (u68, (x32 ++ [(⟨8, c, 0, 0, []⟩ : Ins)])) ⟨h.cn _, hs⟩
 refine dm (σ := Bool) (inl [102, 103, 104]) (fun x69 => [(102, (.bool (x69)))]) (fun x69 w => SH w0 M BE w (hset [(1, .sr fT va a), (2, .sr jM vb b), (6, .own jH 93 v7 x8), (8, .rd mi u21 eH.e), (9, .rd mi u23 eH.f), (10, .rd fT u25 eH.a), (11, .rd fT u27 eH.b), (12, .blk b29 [(I6 eH.kind), (I6 eH.n), u21, u23, u25, u27]), (13, .own jH 93 v31 x32)]) ∧ qZ F0 d x8 x32 eH a b c l8 x69 = some r) ?_ ?_
 rintro x69 w dC ⟨h, hs⟩
 refine aK hs rfl (fun c70 hs => ?_) (fun c70 hs => ?_)
 refine nG (aa (ah Ad rfl) (aa (aB h 12 rfl rH rfl rfl) (aa (ag (v := vb) rfl) (aa (ag (v := (I6 c)) rfl) (aa (ag (v := (I6 ((d + (x8.length : Int))))) rfl) (aa (ag (v := v31) rfl) (aa (aX iU rfl (h.dJ 13 rfl)) ?_)))))))
 obtain ⟨a71, hs⟩ := bE hs
 refine aa (dz rfl rfl a71) ?_
 obtain ⟨a72, hs⟩ := bE hs
 refine aa (dz rfl rfl a72) ?_
 obtain ⟨Cg, e74, hs⟩ := aM hs
 refine aO LM rfl rfl (ih _ _ h.lt u25 eH.a (h.lF 10 rfl) vb b (h.fQ 2 rfl) c (((d + (x8.length : Int)) + (x32.length : Int)) + 1) _ e74) ?_
 rintro _ w ⟨k78, u75, rfl, g76, g77⟩
 refine ⟨_, rfl, ?_⟩
 replace h := h.mg 176 k78 g76 g77
 refine aa (ae (v := u75) rfl) (nJ (aa (ag (v := (I6 ((d + (x8.length : Int))))) rfl) (aa (ag (v := v31) rfl) (aa (aX iU rfl (h.dJ 13 rfl)) ?_))))
 obtain ⟨a79, hs⟩ := bE hs
 refine aa (dz rfl rfl a79) ?_
 obtain ⟨a80, hs⟩ := bE hs
 refine aa (dz rfl rfl a80) (aa (ag (v := u75) rfl) (aa (aX iU rfl (h.dJ 176 rfl)) ?_))
 obtain ⟨a81, hs⟩ := bE hs
 refine aa (dz rfl rfl a81) ?_
 obtain ⟨a82, hs⟩ := bE hs
 refine aa (dz rfl rfl a82) (aa (ae (v := (I6 ((((((d + (x8.length : Int)) + (x32.length : Int)) + 1) + (Cg.length : Int)) + 1)))) rfl) (nJ (aa (ah Ae rfl) (aa (aB h 12 rfl rH rfl rfl) (aa (ag (v := vb) rfl) (aa (ag (v := (I6 c)) rfl) (aa (ag (v := (I6 ((((((d + (x8.length : Int)) + (x32.length : Int)) + 1) + (Cg.length : Int)) + 1)))) rfl) ?_)))))))
 obtain ⟨QJ, e84, hs⟩ := aM hs
 refine aO LM rfl rfl (ih _ _ h.lt u27 eH.b (h.lF 11 rfl) vb b (h.fQ 2 rfl) c (((((d + (x8.length : Int)) + (x32.length : Int)) + 1) + (Cg.length : Int)) + 1) _ e84) ?_
 rintro _ w ⟨k88, Yg, rfl, g86, g87⟩
 refine ⟨_, rfl, ?_⟩
 replace h := h.mg 177 k88 g86 g87
 refine aa (ae (v := Yg) rfl) (nJ (aa (ag (v := (I6 ((((((d + (x8.length : Int)) + (x32.length : Int)) + 1) + (Cg.length : Int)) + 1)))) rfl) (aa (ag (v := Yg) rfl) (aa (aX iU rfl (h.dJ 177 rfl)) ?_))))
 obtain ⟨a89, hs⟩ := bE hs
 refine aa (dz rfl rfl a89) (aa (ae (v := (I6 (((((((d + (x8.length : Int)) + (x32.length : Int)) + 1) + (Cg.length : Int)) + 1) + (QJ.length : Int))))) rfl) (nN (dm (σ := Int) (inl [19, 134, 135, 136, 137]) (fun x90 => [(19, (I6 x90))]) (fun x90 w => SH w0 M BE w (hset [(1, .sr fT va a), (2, .sr jM vb b), (6, .own jH 93 v7 x8), (13, .own jH 93 v31 x32), (176, .own jH 93 u75 Cg), (177, .own jH 93 Yg QJ)]) ∧ qY x32 c d x8 Cg QJ l8 x90 = some r) ?_ ?_)))
 rintro x90 w dC ⟨h, hs⟩
 refine ay (aa (ag (v := v31) rfl) (aa (ag (v := (I6 c)) rfl) (aa (ag (v := (I6 ((((((d + (x8.length : Int)) + (x32.length : Int)) + 1) + (Cg.length : Int)) + 1)))) rfl) (aa (fE (pv := [(0, (I6 13)), (1, (I6 c)), (2, (I6 ((((((d + (x8.length : Int)) + (x32.length : Int)) + 1) + (Cg.length : Int)) + 1))))]) (out := [(I6 13), (I6 c), (I6 ((((((d + (x8.length : Int)) + (x32.length : Int)) + 1) + (Cg.length : Int)) + 1))), (I6 0), (.slice none 0 0)]) pg rfl ⟨0, 1, [(I6 13)], rfl, rfl, rfl, bH rfl, ⟨1, 1, [(I6 c)], rfl, rfl, rfl, bH rfl, ⟨2, 1, [(I6 ((((((d + (x8.length : Int)) + (x32.length : Int)) + 1) + (Cg.length : Int)) + 1)))], rfl, rfl, rfl, bH rfl, rfl⟩⟩⟩) (mX (R := jH) (vs := [(.agg #[(I6 13), (I6 c), (I6 ((((((d + (x8.length : Int)) + (x32.length : Int)) + 1) + (Cg.length : Int)) + 1))), (I6 0), (.slice none 0 0)])]) (xs := [(⟨13, c, (((((d + (x8.length : Int)) + (x32.length : Int)) + 1) + (Cg.length : Int)) + 1), 0, []⟩ : Ins)]) h 178 gz rfl rfl rfl ⟨⟨_, rfl, fK.nil⟩, trivial⟩ rfl fun w ZO h => ?_)))))
 obtain ⟨a92, hs⟩ := bE hs
 refine jb (R := jH) (m := [(⟨13, c, (((((d + (x8.length : Int)) + (x32.length : Int)) + 1) + (Cg.length : Int)) + 1), 0, []⟩ : Ins)]) h 13 rfl (h.dJ 178 rfl) gz rfl rfl rfl a92.1 a92.2 fun w u93 h => aa (ag (v := u75) rfl) ?_
 obtain ⟨a94, hs⟩ := bE hs
 refine jb (R := jH) (m := Cg) h 13 rfl (h.dJ 176 rfl) gz rfl rfl rfl a94.1 a94.2 fun w Yh h => aa (ag (v := (I6 x90)) rfl) (aa (fE (pv := [(0, (I6 12)), (2, (I6 x90))]) (out := [(I6 12), (I6 0), (I6 x90), (I6 0), (.slice none 0 0)]) pg rfl ⟨0, 1, [(I6 12)], rfl, rfl, rfl, bH rfl, ⟨2, 1, [(I6 x90)], rfl, rfl, rfl, bH rfl, rfl⟩⟩) (mX (R := jH) (vs := [(.agg #[(I6 12), (I6 0), (I6 x90), (I6 0), (.slice none 0 0)])]) (xs := [(⟨12, 0, x90, 0, []⟩ : Ins)]) h 179 gz rfl rfl rfl ⟨⟨_, rfl, fK.nil⟩, trivial⟩ rfl fun w u96 h => ?_))
 obtain ⟨a97, hs⟩ := bE hs
 refine jb (R := jH) (m := [(⟨12, 0, x90, 0, []⟩ : Ins)]) h 13 rfl (h.dJ 179 rfl) gz rfl rfl rfl a97.1 a97.2 fun w u98 h => aa (ag (v := Yg) rfl) ?_
 obtain ⟨a99, hs⟩ := bE hs
 refine jb (R := jH) (m := QJ) h 13 rfl (h.dJ 177 rfl) gz rfl rfl rfl a99.1 a99.2 fun w Xi h => aa (ae (v := Xi) rfl) (aC (au (ak ?_)))
 exact cO (Xi, ((((x32 ++ [(⟨13, c, (((((d + (x8.length : Int)) + (x32.length : Int)) + 1) + (Cg.length : Int)) + 1), 0, []⟩ : Ins)]) ++ Cg) ++ [(⟨12, 0, x90, 0, []⟩ : Ins)]) ++ QJ)) ⟨h.cn _, hs⟩
 refine nG (aa (ah lI rfl) (aa (aB h 12 rfl aP rfl rfl) (aa (bW rfl rfl) (nN (aK hs rfl (fun c101 hs => ?_) (fun c101 hs => ?_))))))
 refine ay (aa (ag (v := (I6 ((d + (x8.length : Int))))) rfl) (aa (ae (v := (I6 ((d + (x8.length : Int))))) rfl) (aC (ak ?_))))
 exact cO (d + (x8.length : Int)) ⟨h.cn _, hs⟩
 refine aG (ak ?_)
 exact cO ((((((d + (x8.length : Int)) + (x32.length : Int)) + 1) + (Cg.length : Int)) + 1) + (QJ.length : Int)) ⟨h.cn _, hs⟩
 refine aG (au (ak ?_))
 exact cO (v31, x32) ⟨h.cn _, hs⟩
 refine nG (aa (bW rfl rfl) (aa (ae (v := (.bool (decide ((eH.kind : Int) = 6)))) rfl) (nN (aK hs rfl (fun ZW hs => ?_) (fun ZW hs => ?_)))))
 refine aG (ak ?_)
 exact cO (decide ((eH.kind : Int) = 6)) ⟨h.cn _, hs⟩
 refine ay (aa (bW rfl rfl) (aa (ae (v := (.bool (decide ((eH.kind : Int) = 7)))) rfl) (aC (ak ?_))))
 exact cO (decide ((eH.kind : Int) = 7)) ⟨h.cn _, hs⟩
 refine nG (aa (ah Ac rfl) (aa (aB h 12 rfl yL rfl rfl) (aa (aX lX rfl (h.lF 8 rfl)) (aa (jK rfl rfl) (nN (aK hs rfl (fun ZX hs => ?_) (fun ZX hs => ?_)))))))
 refine ay (aa (ah Ac rfl) (aa (aB h 12 rfl yL rfl rfl) (aa (ag (v := vb) rfl) (aa (ag (v := (I6 c)) rfl) ?_))))
 obtain ⟨y104, L6, hs⟩ := aM hs
 refine aO LB rfl rfl (xB N _ _ h.lt u21 eH.e (h.lF 8 rfl) vb b (h.fQ 2 rfl) c _ L6) ?_
 rintro _ w ⟨k109, Nv, rfl, g107, g108⟩
 refine ⟨_, rfl, ?_⟩
 replace h := h.mg 180 k109 g107 g108
 refine aa (ag (v := (.tuple #[Nv, (I6 y104.2)])) rfl) (aa (bJ rfl rfl) (aa (bJ rfl rfl) (aa (ae (v := Nv) rfl) (aC (ak ?_)))))
 replace h := h.MP 180 13 rfl rfl (by decide)
 exact cO (Nv, y104.1) ⟨h.cn _, hs⟩
 refine aG (ak ?_)
 replace h := h.uZ (R := jH) (E := 93) 13
 exact cO ((.slice none 0 0), []) ⟨h.cn _, hs⟩
 rw [eX (hik ▸ e14), dZ] at hs
 refine nE (aa (ag (v := v7) rfl) (aa (ae (v := v7) rfl) (nR (bI (v := v7) Tryz.results76 rfl ?_))))
 obtain rfl := gK hs
 exact ⟨h.grown, _, rfl, (h.mh 6 rfl).1, (h.mh 6 rfl).2⟩
def wI (x8 : List cz) (eH : gG) (l8 : List cz → Option (List cz)) (Hz : List Ins) : Option (List cz) :=
  iA (Room 40 x8 [(⟨eH.params, 30, Hz⟩ : cz)]) (l8 (x8 ++ [(⟨eH.params, 30, Hz⟩ : cz)]))
def rP (N : Nat) (a : List gG) (eH : gG) (x8 : List cz) (l8 : List cz → Option (List cz)) : Option (List cz) :=
  (om N eH.body a eH.locals 0).bind fun Cz => iA (Room 56 Cz [(⟨1, eH.locals, 0, 0, []⟩ : Ins), (⟨8, eH.locals, 0, 0, []⟩ : Ins)]) (wI x8 eH l8 (Cz ++ [(⟨1, eH.locals, 0, 0, []⟩ : Ins), (⟨8, eH.locals, 0, 0, []⟩ : Ins)]))
def rQ (x8 : List cz) : Option (List cz) :=
  some x8
def zw (N : Nat) (a : List gG) : Option (List cz) :=
  each (rP N a) rQ a []
theorem DD (N : Nat) (w0 : World) (M : BS) (hM : ∀ b, M b → b < w0.heap.size) (va : Value) (a : List gG) (ha : fK jM w0 BE M va a) (r : List cz) (hs : zw N a = some r) :
    Calls Tryz.prog 39 #[va] w0 (fun e w' => Grow w0 w' ∧ ∃ u0, e = .returned (u0) ∧ fI jE 57 w' M u0 r ∧ (∀ b, ob u0 b → w0.heap.size ≤ b)) := by
 refine aL (args := [va]) Tryz.func39 rfl Tryz.ntmps39 (bH rfl) ?_
 have h := SH.init hM
 replace h := h.eu 1 ha aT
 have tQ := ha.bD
 refine nG (aa (ae (v := (.slice none 0 0)) rfl) (nJ (aa (ae (v := (.slice none 0 0)) rfl) (nK (aa (ag (v := va) rfl) (aa (aX jw rfl (h.fQ 1 rfl)) (aa (ag (v := (I6 0)) rfl) (nN (aH ?_)))))))))
 replace h := h.uZ (R := jE) (E := 57) 5
 refine eF (σ := Nat × Int × Value × List cz) (inl ([3, 5, 6] ++ rg 9 27)) (fun ⟨k9, i10, v7, x8⟩ => [(3, v7), (9, (I6 i10))]) (fun ⟨k9, i10, v7, x8⟩ w => SH w0 M BE w (hset [(1, .sr jM va a), (5, .own jE 57 v7 x8)]) ∧ i10 = (k9 : Int) ∧ each (rP N a) rQ (a.drop k9) x8 = some r) (fun ⟨k9, i10, v7, x8⟩ => a.length - k9) ⟨0, 0, (.slice none 0 0), []⟩ ⟨rfl, rfl, trivial⟩ ?_ ?_
 exact ⟨h.cn _, rfl, hs⟩
 rintro ⟨k9, i10, v7, x8⟩ w dC ⟨h, hik, hs⟩
 refine nG ?_
 refine aa (dK rfl rfl) (nN ?_)
 refine aJ (fD rfl (fun e14 => ?_) (fun e14 => ?_))
 refine aG (aj ?_)
 obtain ⟨eH, IB, IC⟩ := eU (hik ▸ e14)
 rw [IC, df] at hs
 generalize Cw : each (rP N a) rQ (a.drop (k9 + 1)) = l8 at hs
 have IE := eZ ((h.fQ 1 rfl)).bD hik e14
 refine aJ (aH (nG ?_))
 obtain ⟨b17, o18, UA, h, Rs, i16⟩ := h.vo 1 6 rfl jw rfl (gB hik) (eY hik IB)
 obtain ⟨u21, rfl, g22⟩ := uN Rs
 replace h := h.bK 7 g22.up
 refine aa (i16 _ _ _ _ _ _ _ _ _ rfl rfl) (aa (iD (k := 0) (vs := [(I6 eH.params), (I6 eH.locals), u21]) h 6 rfl oC rfl rfl rfl (bH rfl)) (bu h 8 oC fun w Dl h => dN (vs := [(I6 eH.params), (I6 eH.locals), u21]) h 8 [(I6 eH.params), (I6 eH.locals), u21] rfl oC rfl rfl rfl rfl rfl (ai rfl (ai rfl (ai (h.gy 7 rfl).one aS))) fun w h => nJ (aa (ah xh rfl) (aa (aB h 8 rfl aP rfl rfl) (aa (fE (pv := [(0, (I6 eH.params)), (1, (I6 30))]) (out := [(I6 eH.params), (I6 30), (.slice none 0 0)]) Ub rfl ⟨0, 1, [(I6 eH.params)], rfl, rfl, rfl, bH rfl, ⟨1, 1, [(I6 30)], rfl, rfl, rfl, bH rfl, rfl⟩⟩) (bu h 9 qL fun w b24 h => dN (vs := [(I6 eH.params), (I6 30), (.slice none 0 0)]) h 9 [(I6 eH.params), (I6 30), (.slice none 0 0)] rfl qL rfl rfl rfl rfl rfl (ai rfl (ai rfl (ai rfl aS))) fun w h => nN (dm (σ := Value × List Ins) (inl (rg 16 15)) (fun ⟨v25, Hz⟩ => []) (fun ⟨v25, Hz⟩ w => SH w0 M BE w (hset [(1, .sr jM va a), (5, .own jE 57 v7 x8), (9, .blk b24 [(I6 eH.params), (I6 30), v25]), (70, .own jH 93 v25 Hz)]) ∧ wI x8 eH l8 Hz = some r) ?_ ?_)))))))
 rintro ⟨v25, Hz⟩ w dC ⟨h, hs⟩
 refine ay (aa (ag (v := v7) rfl) (aa (eB (vs := [(I6 eH.params), (I6 30), v25]) h 9 rfl qL rfl rfl rfl) ?_))
 replace h := h.freeze 70 rfl
 refine mX (R := jE) (vs := [(.agg #[(I6 eH.params), (I6 30), v25])]) (xs := [(⟨eH.params, 30, Hz⟩ : cz)]) h 71 M8 rfl rfl rfl ⟨⟨_, rfl, (h.gy 70 rfl)⟩, trivial⟩ rfl fun w u27 h => ?_
 obtain ⟨a28, hs⟩ := bE hs
 refine jb (R := jE) (m := [(⟨eH.params, 30, Hz⟩ : cz)]) h 5 rfl (h.dJ 71 rfl) M8 rfl rfl rfl a28.1 a28.2 fun w u29 h => aa (ae (v := u29) rfl) (aC (au (aj (ay (aa (dz rfl rfl IE) (aa (ag (v := (I6 ((i10 + 1)))) rfl) (aC (ak ?_))))))))
 subst Cw
 exact iw ⟨k9 + 1, i10 + 1, u29, (x8 ++ [(⟨eH.params, 30, Hz⟩ : cz)])⟩ ⟨h.cn _, by omega, hs⟩ (by have := kQ e14; dsimp only; omega)
 refine uf (L := (fun x => x = b24)) mixed h fun w h => dW 0 (aQ.refl _ _) rfl aA (by kernel_rfl) (by kernel_rfl) (by kernel_rfl) (fun w hk => ah Cu rfl) (dW 1 (aQ.refl _ _) rfl aA (by kernel_rfl) (by kernel_rfl) (by kernel_rfl) (fun w hk => have h := h.vB 9 rfl hk; aB h 8 rfl rH rfl rfl) (dW 2 (aQ.refl _ _) rfl aA (by kernel_rfl) (by kernel_rfl) (by kernel_rfl) (fun w hk => ag (v := va) rfl) (dW 3 (aQ.refl _ _) rfl aA (by kernel_rfl) (by kernel_rfl) (by kernel_rfl) (fun w hk => ah Ab rfl) (dW 4 (aQ.refl _ _) rfl aA (by kernel_rfl) (by kernel_rfl) (by kernel_rfl) (fun w hk => have h := h.vB 9 rfl hk; aB h 8 rfl aP rfl rfl) (dW 6 (aQ.refl _ _) rfl aA (by kernel_rfl) (by kernel_rfl) (by kernel_rfl) (fun w hk => ah Ab rfl) (dW 7 (aQ.refl _ _) rfl aA (by kernel_rfl) (by kernel_rfl) (by kernel_rfl) (fun w hk => have h := h.vB 9 rfl hk; aB h 8 rfl aP rfl rfl) (dW 8 (aQ.refl _ _) rfl aA (by kernel_rfl) (by kernel_rfl) (by kernel_rfl) (fun w hk => fE (pv := [(0, (I6 1)), (1, (I6 eH.locals))]) (out := [(I6 1), (I6 eH.locals), (I6 0), (I6 0), (.slice none 0 0)]) pg rfl ⟨0, 1, [(I6 1)], rfl, rfl, rfl, bH rfl, ⟨1, 1, [(I6 eH.locals)], rfl, rfl, rfl, bH rfl, rfl⟩⟩) (dW 9 (aQ.refl _ _) rfl aA (by kernel_rfl) (by kernel_rfl) (by kernel_rfl) (fun w hk => ah Ab rfl) (dW 10 (aQ.refl _ _) rfl aA (by kernel_rfl) (by kernel_rfl) (by kernel_rfl) (fun w hk => have h := h.vB 9 rfl hk; aB h 8 rfl aP rfl rfl) (dW 11 (aQ.refl _ _) rfl aA (by kernel_rfl) (by kernel_rfl) (by kernel_rfl) (fun w hk => fE (pv := [(0, (I6 8)), (1, (I6 eH.locals))]) (out := [(I6 8), (I6 eH.locals), (I6 0), (I6 0), (.slice none 0 0)]) pg rfl ⟨0, 1, [(I6 8)], rfl, rfl, rfl, bH rfl, ⟨1, 1, [(I6 eH.locals)], rfl, rfl, rfl, bH rfl, rfl⟩⟩) ?_))))))))))
 obtain ⟨Cz, NA, hs⟩ := aM hs
 obtain ⟨Dn, hs⟩ := bE hs
 obtain ⟨O3, Nl⟩ : ∃ x, x = w := ⟨_, rfl⟩
 have pY : aQ (fun x => x = b24) O3 w := Nl ▸ aQ.refl (fun x => x = b24) w
 refine zG Nl.symm (vz 5 12 (by kernel_rfl) rfl aA rfl aA ?_ ?_)
 refine aO LM rfl rfl (xD N _ _ h.lt u21 eH.body (h.lF 7 rfl) va a (h.fQ 1 rfl) eH.locals 0 _ NA) ?_
 rintro _ w ⟨CB, IM, rfl, IP, CE⟩
 refine ⟨_, rfl, ?_⟩
 replace h := h.mg 132 CB IP CE
 have Am : ∀ b, ob IM b → O3.heap.size ≤ b := fun b hb => Nat.le_trans pY.size (CE b hb)
 replace pY := pY.grow CB
 refine aC (aV pY (dB 12 (by kernel_rfl) rfl aA (zZ (R := jH) (vs := [(.agg #[(I6 1), (I6 eH.locals), (I6 0), (I6 0), (.slice none 0 0)]), (.agg #[(I6 8), (I6 eH.locals), (I6 0), (I6 0), (.slice none 0 0)])]) (xs := [(⟨1, eH.locals, 0, 0, []⟩ : Ins), (⟨8, eH.locals, 0, 0, []⟩ : Ins)]) h 216 gz rfl rfl rfl ⟨⟨_, rfl, fK.nil⟩, ⟨⟨_, rfl, fK.nil⟩, trivial⟩⟩ rfl fun w F5 h Eb Ec => ?_)))
 have Ps : ∀ b, ob F5 b → O3.heap.size ≤ b := fun b hb => Nat.le_trans pY.size (Ec b hb)
 replace pY := pY.grow Eb
 refine aC (aV pY (dB 13 (by kernel_rfl) rfl aA ?_))
 have Ed := pY.size
 refine qH (R := jH) (m := [(⟨1, eH.locals, 0, 0, []⟩ : Ins), (⟨8, eH.locals, 0, 0, []⟩ : Ins)]) h 132 rfl (h.dJ 216 rfl) gz rfl rfl rfl Dn.1 Dn.2 fun w Ao h Ee Ef => ?_
 replace pY := pY.Tk Ee Am
 have Pt := Kg Ed Am Ef
 refine aC (aV pY (iQ 14 pY rfl (by kernel_rfl) (fun w hk => ah qJ rfl) (dB 15 (by kernel_rfl) rfl aA (uB h 9 [(I6 eH.params), (I6 30), Ao] rfl yM rfl rfl rfl rfl (h.eD 132 rfl).one fun w h F6 => ?_))))
 replace pY := pY.same F6
 refine aC (aV pY (j3 (by kernel_rfl) (ak ?_)))
 replace h := h.MP 132 70 rfl rfl (by decide)
 exact cO (Ao, (Cz ++ [(⟨1, eH.locals, 0, 0, []⟩ : Ins), (⟨8, eH.locals, 0, 0, []⟩ : Ins)])) ⟨h.cn _, hs⟩
 refine zZ (R := jH) (vs := [(.agg #[(I6 1), (I6 eH.locals), (I6 0), (I6 0), (.slice none 0 0)]), (.agg #[(I6 8), (I6 eH.locals), (I6 0), (I6 0), (.slice none 0 0)])]) (xs := [(⟨1, eH.locals, 0, 0, []⟩ : Ins), (⟨8, eH.locals, 0, 0, []⟩ : Ins)]) h 216 gz rfl rfl rfl ⟨⟨_, rfl, fK.nil⟩, ⟨⟨_, rfl, fK.nil⟩, trivial⟩⟩ rfl fun w F5 h Eb Ec => ?_
 have Ps : ∀ b, ob F5 b → O3.heap.size ≤ b := fun b hb => Nat.le_trans pY.size (Ec b hb)
 replace pY := pY.grow Eb
 refine aC (aV pY (dB 5 (by kernel_rfl) rfl aA (aO LM rfl rfl (xD N _ _ h.lt u21 eH.body (h.lF 7 rfl) va a (h.fQ 1 rfl) eH.locals 0 _ NA) ?_)))
 rintro _ w ⟨CB, IM, rfl, IP, CE⟩
 refine ⟨_, rfl, ?_⟩
 replace h := h.mg 132 CB IP CE
 have Am : ∀ b, ob IM b → O3.heap.size ≤ b := fun b hb => Nat.le_trans pY.size (CE b hb)
 replace pY := pY.grow CB
 refine aC (aV pY (dB 13 (by kernel_rfl) rfl aA ?_))
 have Ed := pY.size
 refine qH (R := jH) (m := [(⟨1, eH.locals, 0, 0, []⟩ : Ins), (⟨8, eH.locals, 0, 0, []⟩ : Ins)]) h 132 rfl (h.dJ 216 rfl) gz rfl rfl rfl Dn.1 Dn.2 fun w Ao h Ee Ef => ?_
 replace pY := pY.Tk Ee Am
 have Pt := Kg Ed Am Ef
 refine aC (aV pY (iQ 14 pY rfl (by kernel_rfl) (fun w hk => ah qJ rfl) (dB 15 (by kernel_rfl) rfl aA (uB h 9 [(I6 eH.params), (I6 30), Ao] rfl yM rfl rfl rfl rfl (h.eD 132 rfl).one fun w h F6 => ?_))))
 replace pY := pY.same F6
 refine aC (aV pY (j3 (by kernel_rfl) (ak ?_)))
 replace h := h.MP 132 70 rfl rfl (by decide)
 exact cO (Ao, (Cz ++ [(⟨1, eH.locals, 0, 0, []⟩ : Ins), (⟨8, eH.locals, 0, 0, []⟩ : Ins)])) ⟨h.cn _, hs⟩
 rw [eX (hik ▸ e14), dZ] at hs
 refine nE (aa (ag (v := v7) rfl) (aa (ae (v := v7) rfl) (nR (bI (v := v7) Tryz.results39 rfl ?_))))
 obtain rfl := gK hs
 exact ⟨h.grown, _, rfl, (h.mh 5 rfl).1, (h.mh 5 rfl).2⟩
def dA (x6 : Bool) : Bool × Bool × Bool × Bool :=
  bif x6 then (false, false, false, true) else (false, false, false, false)
def dn (a : Int) (x3 : Bool) : Bool × Bool × Bool × Bool :=
  bif x3 then (true, true, false, true) else bif decide ((a : Int) = 3) then (true, true, true, true) else bif decide ((a : Int) = 10) then dA (decide ((a : Int) = 10)) else dA (decide ((a : Int) = 12))
def bY (a : Int) (x1 : Bool) : Bool × Bool × Bool × Bool :=
  bif x1 then (true, false, false, true) else bif decide ((a : Int) = 2) then dn a (decide ((a : Int) = 2)) else bif decide ((a : Int) = 4) then dn a (decide ((a : Int) = 4)) else dn a (decide ((a : Int) = 6))
def aZ (a : Int) : Bool × Bool × Bool × Bool :=
  bif decide ((a : Int) = 1) then bY a (decide ((a : Int) = 1)) else bif decide ((a : Int) = 5) then bY a (decide ((a : Int) = 5)) else bif decide ((a : Int) = 8) then bY a (decide ((a : Int) = 8)) else bif decide ((a : Int) = 9) then bY a (decide ((a : Int) = 9)) else bif decide ((a : Int) = 11) then bY a (decide ((a : Int) = 11)) else bif decide ((a : Int) = 13) then bY a (decide ((a : Int) = 13)) else bY a (decide ((a : Int) = 7))
theorem NB (w0 : World) (M : BS) (hM : ∀ b, M b → b < w0.heap.size) (a : Int) (r : Bool × Bool × Bool × Bool) (hs : aZ a = r) :
    Calls Tryz.prog 115 #[(I6 a)] w0 (fun e w' => Grow w0 w' ∧ e = .returned (.tuple #[.bool r.1, .bool r.2.1, .bool r.2.2.1, .bool r.2.2.2])) := by
 refine aL (args := [(I6 a)]) Tryz.func115 rfl Tryz.ntmps115 (bH rfl) ?_
 have h := SH.init hM
 refine nG (aa (ae (v := (.bool (false))) rfl) (aa (ae (v := (.bool (false))) rfl) (aa (ae (v := (.bool (false))) rfl) (aa (ae (v := (.bool (false))) rfl) (nK (aa (ag (v := (I6 a)) rfl) (nN (aH (dm (σ := Bool) (inl (rg 7 8)) (fun x1 => [(7, (.bool (x1)))]) (fun x1 w => SH w0 M BE w (hset []) ∧ bY a x1 = r) ?_ ?_)))))))))
 rintro x1 w dC ⟨h, hs⟩
 refine aK hs rfl (fun c2 hs => ?_) (fun c2 hs => ?_)
 refine nG (aa (ae (v := (.bool (true))) rfl) (aa (ae (v := (.bool (false))) rfl) (aa (ae (v := (.bool (false))) rfl) (aa (ae (v := (.bool (true))) rfl) (nR (aD (ax (Tz (v1 := (.bool (true))) (v2 := (.bool (false))) (v3 := (.bool (false))) (v4 := (.bool (true))) Tryz.results115 rfl rfl rfl rfl ?_))))))))
 obtain rfl := hs
 exact ⟨h.grown, rfl⟩
 refine dm (σ := Bool) (inl [15, 16, 17, 18]) (fun x3 => [(15, (.bool (x3)))]) (fun x3 w => SH w0 M BE w (hset []) ∧ dn a x3 = r) ?_ ?_
 rintro x3 w dC ⟨h, hs⟩
 refine aK hs rfl (fun c4 hs => ?_) (fun c4 hs => ?_)
 refine nG (aa (ae (v := (.bool (true))) rfl) (aa (ae (v := (.bool (true))) rfl) (aa (ae (v := (.bool (false))) rfl) (aa (ae (v := (.bool (true))) rfl) (nR (aD (ax (Tz (v1 := (.bool (true))) (v2 := (.bool (true))) (v3 := (.bool (false))) (v4 := (.bool (true))) Tryz.results115 rfl rfl rfl rfl ?_))))))))
 obtain rfl := hs
 exact ⟨h.grown, rfl⟩
 refine nG (aa (bW rfl rfl) (aa (ae (v := (.bool (decide ((a : Int) = 3)))) rfl) (nN (aK hs rfl (fun c5 hs => ?_) (fun c5 hs => ?_)))))
 refine nG (aa (ae (v := (.bool (true))) rfl) (aa (ae (v := (.bool (true))) rfl) (aa (ae (v := (.bool (true))) rfl) (aa (ae (v := (.bool (true))) rfl) (nR (aD (ax (Tz (v1 := (.bool (true))) (v2 := (.bool (true))) (v3 := (.bool (true))) (v4 := (.bool (true))) Tryz.results115 rfl rfl rfl rfl ?_))))))))
 obtain rfl := hs
 exact ⟨h.grown, rfl⟩
 refine dm (σ := Bool) (inl [21, 22, 23]) (fun x6 => [(21, (.bool (x6)))]) (fun x6 w => SH w0 M BE w (hset []) ∧ dA x6 = r) ?_ ?_
 rintro x6 w dC ⟨h, hs⟩
 refine aK hs rfl (fun c7 hs => ?_) (fun c7 hs => ?_)
 refine nG (aa (ae (v := (.bool (false))) rfl) (aa (ae (v := (.bool (false))) rfl) (aa (ae (v := (.bool (false))) rfl) (aa (ae (v := (.bool (true))) rfl) (nR (aD (ax (Tz (v1 := (.bool (false))) (v2 := (.bool (false))) (v3 := (.bool (false))) (v4 := (.bool (true))) Tryz.results115 rfl rfl rfl rfl ?_))))))))
 obtain rfl := hs
 exact ⟨h.grown, rfl⟩
 refine aG (au (aj (nG (aa (ae (v := (.bool (false))) rfl) (aa (ae (v := (.bool (false))) rfl) (aa (ae (v := (.bool (false))) rfl) (aa (ae (v := (.bool (false))) rfl) (nR (Tz (v1 := (.bool (false))) (v2 := (.bool (false))) (v3 := (.bool (false))) (v4 := (.bool (false))) Tryz.results115 rfl rfl rfl rfl ?_)))))))))
 obtain rfl := hs
 exact ⟨h.grown, rfl⟩
 refine nG (aa (bW rfl rfl) (aa (ae (v := (.bool (decide ((a : Int) = 10)))) rfl) (nN (aK hs rfl (fun c8 hs => ?_) (fun c8 hs => ?_)))))
 refine aG (ak ?_)
 exact cO (decide ((a : Int) = 10)) ⟨h.cn _, hs⟩
 refine ay (aa (bW rfl rfl) (aa (ae (v := (.bool (decide ((a : Int) = 12)))) rfl) (aC (ak ?_))))
 exact cO (decide ((a : Int) = 12)) ⟨h.cn _, hs⟩
 refine nG (aa (bW rfl rfl) (aa (ae (v := (.bool (decide ((a : Int) = 2)))) rfl) (nN (aK hs rfl (fun c9 hs => ?_) (fun c9 hs => ?_)))))
 refine aG (ak ?_)
 exact cO (decide ((a : Int) = 2)) ⟨h.cn _, hs⟩
 refine nG (aa (bW rfl rfl) (aa (ae (v := (.bool (decide ((a : Int) = 4)))) rfl) (nN (aK hs rfl (fun c10 hs => ?_) (fun c10 hs => ?_)))))
 refine aG (ak ?_)
 exact cO (decide ((a : Int) = 4)) ⟨h.cn _, hs⟩
 refine ay (aa (bW rfl rfl) (aa (ae (v := (.bool (decide ((a : Int) = 6)))) rfl) (aC (ak ?_))))
 exact cO (decide ((a : Int) = 6)) ⟨h.cn _, hs⟩
 refine nG (aa (bW rfl rfl) (aa (ae (v := (.bool (decide ((a : Int) = 1)))) rfl) (nN (aK hs rfl (fun c11 hs => ?_) (fun c11 hs => ?_)))))
 refine aG (ak ?_)
 exact cO (decide ((a : Int) = 1)) ⟨h.cn _, hs⟩
 refine nG (aa (bW rfl rfl) (aa (ae (v := (.bool (decide ((a : Int) = 5)))) rfl) (nN (aK hs rfl (fun c12 hs => ?_) (fun c12 hs => ?_)))))
 refine aG (ak ?_)
 exact cO (decide ((a : Int) = 5)) ⟨h.cn _, hs⟩
 refine nG (aa (bW rfl rfl) (aa (ae (v := (.bool (decide ((a : Int) = 8)))) rfl) (nN (aK hs rfl (fun c13 hs => ?_) (fun c13 hs => ?_)))))
 refine aG (ak ?_)
 exact cO (decide ((a : Int) = 8)) ⟨h.cn _, hs⟩
 refine nG (aa (bW rfl rfl) (aa (ae (v := (.bool (decide ((a : Int) = 9)))) rfl) (nN (aK hs rfl (fun c14 hs => ?_) (fun c14 hs => ?_)))))
 refine aG (ak ?_)
 exact cO (decide ((a : Int) = 9)) ⟨h.cn _, hs⟩
 refine nG (aa (bW rfl rfl) (aa (ae (v := (.bool (decide ((a : Int) = 11)))) rfl) (nN (aK hs rfl (fun c15 hs => ?_) (fun c15 hs => ?_)))))
 refine aG (ak ?_)
 exact cO (decide ((a : Int) = 11)) ⟨h.cn _, hs⟩
 refine nG (aa (bW rfl rfl) (aa (ae (v := (.bool (decide ((a : Int) = 13)))) rfl) (nN (aK hs rfl (fun c16 hs => ?_) (fun c16 hs => ?_)))))
 refine aG (ak ?_)
 exact cO (decide ((a : Int) = 13)) ⟨h.cn _, hs⟩
 refine ay (aa (bW rfl rfl) (aa (ae (v := (.bool (decide ((a : Int) = 7)))) rfl) (aC (ak ?_))))
 exact cO (decide ((a : Int) = 7)) ⟨h.cn _, hs⟩
def cZ (a : Bool) (b : Int) (lN : Int) : Bool :=
  ((!a) || (decide ((0 : Int) ≤ b) && decide ((b : Int) < lN)))
theorem BQ (w0 : World) (M : BS) (hM : ∀ b, M b → b < w0.heap.size) (a : Bool) (b : Int) (lN : Int) (q0 : Nat) (hq0 : ∃ E, w0.heap[q0]? = some (.cells #[(I6 lN)] E (0, 0))) (r : Bool) (hs : cZ a b lN = r) :
    Calls Tryz.prog 116 #[(.bool (a)), (I6 b), (.pointer (some ⟨q0, 0, none⟩))] w0 (fun e w' => Grow w0 w' ∧ e = .returned (.bool r)) := by
 refine aL (args := [(.bool (a)), (I6 b), (.pointer (some ⟨q0, 0, none⟩))]) Tryz.func116 rfl Tryz.ntmps116 (bH rfl) ?_
 have h := SH.init hM
 replace h := h.Ie 1 (cs := [(I6 lN)]) hq0 aT
 refine nG (aa (ae (v := (.bool (false))) rfl) (nJ (aa (ag (v := (.bool (a))) rfl) (aa (dU rfl) (aa (ag (v := (.bool ((!a)))) rfl) (az rfl rfl (fun q => ag (v := (I6 b)) rfl) (az rfl rfl (fun q => qE (dE q) rfl) (az rfl rfl (fun q => ag (v := (.bool (decide ((0 : Int) ≤ b)))) (dE q)) (kN ((!a) == false) rfl rfl (fun q => ag (v := (I6 b)) rfl) (kN ((!a) == false) rfl rfl (fun q => eQ (k := 0) h 1 rfl aP rfl rfl) (kN ((!a) == false) rfl rfl (fun q => dK (dE q) (dE q)) (az rfl rfl (fun q => fB (dE q) (Qo q) lW) (aa (iO rfl rfl lW) (aa (ae (v := (.bool (((!a) || (decide ((0 : Int) ≤ b) && decide ((b : Int) < lN)))))) rfl) (nR (bI (v := (.bool (((!a) || (decide ((0 : Int) ≤ b) && decide ((b : Int) < lN)))))) Tryz.results116 rfl ?_))))))))))))))))
 obtain rfl := hs
 exact ⟨h.grown, rfl⟩
def jZ (d : Int) (x20 : Int) (s : Unit) (UR : Unit → Option Int) : Option Int :=
  bif (!(decide ((0 : Int) ≤ x20) && decide ((x20 : Int) < d))) then some 3 else UR ()
def mW (s : Unit) : Option Int :=
  some 0
def cu (x9 : Bool) (a : Ins) (b : Int) (HV : Int) (c : List cz) (y13 : Int) (xZ : Int) (d : Int) (uz : Int) : Option Int :=
  bif (!x9) then some 3 else bif (((decide ((a.a : Int) ≠ uz) || decide ((a.b : Int) ≠ HV)) || decide ((a.c : Int) ≠ y13)) || decide (((a.args.length : Int) : Int) ≠ xZ)) then some 4 else bif decide ((a.op : Int) = 7) then each (jZ d) mW a.args () else some 0
def bz (a : Ins) (b : Int) (c : List cz) (d : Int) (x9 : Bool) (xZ : Int) (RP : Int) (HV : Int) (y13 : Int) : Option Int :=
  bif decide ((a.op : Int) = 12) then cu x9 a b HV c y13 xZ d 0 else cu x9 a b HV c y13 xZ d RP
def bL (a : Ins) (b : Int) (c : List cz) (d : Int) (EF : Bool) : Option Int :=
  bif EF then bz a b c d ((aZ a.op).2.2.2) 0 a.a 0 0 else bif decide ((a.op : Int) = 10) then bz a b c d ((aZ a.op).2.2.2) 0 0 0 0 else bz a b c d ((aZ a.op).2.2.2) 0 a.a a.b 0
def bO (a : Ins) (b : Int) (c : List cz) (d : Int) (e : Int) (x50 : Bool) : Option Int :=
  bif x50 then bz a b c d (decide ((0 : Int) ≤ a.b) && decide ((a.b : Int) < e)) 0 a.a a.b 0 else bif decide ((a.op : Int) = 7) then bif (decide ((a.b : Int) < 0) || decide (((c.length : Int) : Int) ≤ a.b)) then some 5 else (idx c a.b).bind fun x54 => bz a b c d ((aZ a.op).2.2.2) x54.params a.a a.b 0 else bif decide ((a.op : Int) = 8) then bL a b c d (decide ((a.op : Int) = 8)) else bif decide ((a.op : Int) = 9) then bL a b c d (decide ((a.op : Int) = 9)) else bL a b c d (decide ((a.op : Int) = 11))
def bP (a : Ins) (b : Int) (c : List cz) (d : Int) (e : Int) (x34 : Bool) : Option Int :=
  bif x34 then bz a b c d (decide ((0 : Int) ≤ a.c) && decide ((a.c : Int) < 4)) 0 a.a a.b a.c else bif decide ((a.op : Int) = 3) then bif decide (((a.args.length : Int) : Int) = 1) then (idx a.args 0).bind fun x38 => bz a b c d (decide ((1 : Int) ≤ x38) && decide ((x38 : Int) ≤ 5)) 1 a.a a.b a.c else bz a b c d false 1 a.a a.b a.c else bif decide ((a.op : Int) = 12) then bO a b c d e (decide ((a.op : Int) = 12)) else bO a b c d e (decide ((a.op : Int) = 13))
def dP (a : Ins) (b : Int) (c : List cz) (d : Int) (e : Int) : Option Int :=
  bif (!(aZ a.op).2.2.2) then some 4 else bif (((!((!(aZ a.op).1) || (decide ((0 : Int) ≤ a.a) && decide ((a.a : Int) < d)))) || (!(cZ ((aZ a.op).2.1) a.b d))) || (!(cZ ((aZ a.op).2.2.1) a.c d))) then some 3 else bif decide ((a.op : Int) = 1) then bz a b c d (decide ((-1000000000 : Int) ≤ a.b) && decide ((a.b : Int) ≤ 1000000000)) 0 a.a a.b 0 else bif decide ((a.op : Int) = 5) then bz a b c d (decide ((1 : Int) ≤ a.b) && decide ((a.b : Int) ≤ 4)) 0 a.a a.b 0 else bif decide ((a.op : Int) = 4) then bP a b c d e (decide ((a.op : Int) = 4)) else bP a b c d e (decide ((a.op : Int) = 6))
theorem Ma (w0 : World) (M : BS) (hM : ∀ b, M b → b < w0.heap.size) (a : Ins) (DT : Value) (ha4 : fK dw w0 BE M DT a.args) (b : Int) (vc : Value) (c : List cz) (hc : fK jE w0 BE M vc c) (d : Int) (e : Int) (r : Int) (hs : dP a b c d e = some r) :
    Calls Tryz.prog 86 #[(.agg #[(I6 a.op), (I6 a.a), (I6 a.b), (I6 a.c), DT]), (I6 b), vc, (I6 d), (I6 e)] w0 (fun e w' => Grow w0 w' ∧ e = .returned (.int .i64 r)) := by
 refine aL (args := [(.agg #[(I6 a.op), (I6 a.a), (I6 a.b), (I6 a.c), DT]), (I6 b), vc, (I6 d), (I6 e)]) Tryz.func86 rfl Tryz.ntmps86 (bH rfl) ?_
 have h := SH.init hM
 replace h := h.eu 1 ha4 aT
 replace h := h.eu 2 hc (aW aT)
 have hl_c := hc.bD
 refine nG (l7 (cs := [(I6 a.op), (I6 a.a), (I6 a.b), (I6 a.c), DT]) h 3 rfl rfl fun w b1 h => l7 (cs := [(I6 d)]) h 4 rfl rfl fun w b2 h => aa (ae (v := (I6 0)) rfl) (nJ (aa (ah rW rfl) (aa (aB h 3 rfl aP rfl rfl) (aO WY rfl rfl (NB _ _ h.lt a.op _ rfl) ?_)))))
 rintro _ w ⟨k3, rfl⟩
 refine ⟨_, rfl, ?_⟩
 replace h := h.grow k3
 refine aa (ag (v := (.tuple #[(.bool ((aZ a.op).1)), (.bool ((aZ a.op).2.1)), (.bool ((aZ a.op).2.2.1)), (.bool ((aZ a.op).2.2.2))])) rfl) (aa (bJ rfl rfl) (aa (bJ rfl rfl) (aa (bJ rfl rfl) (aa (bJ rfl rfl) (aa (ae (v := (.bool ((aZ a.op).1))) rfl) (aa (ae (v := (.bool ((aZ a.op).2.1))) rfl) (aa (ae (v := (.bool ((aZ a.op).2.2.1))) rfl) (aa (ae (v := (.bool ((aZ a.op).2.2.2))) rfl) (nK (aa (ag (v := (.bool ((aZ a.op).2.2.2))) rfl) (aa (dU rfl) (nN (aK hs rfl (fun c4 hs => ?_) (fun c4 hs => ?_))))))))))))))
 refine nG (aa (ae (v := (I6 4)) rfl) (nR (ax (bI (v := (I6 4)) Tryz.results86 rfl ?_))))
 obtain rfl := gK hs
 exact ⟨h.grown, rfl⟩
 refine nS (aa (ng (c1 := []) (c2 := [(.pointer (some ⟨b2, 0, none⟩))]) rfl rfl) (aa (ae (v := (.func (.func 116) #[] #[(.pointer (some ⟨b2, 0, none⟩))])) rfl) (nK (aa (ag (v := (.func (.func 116) #[] #[(.pointer (some ⟨b2, 0, none⟩))])) rfl) (aa (ag (v := (.bool ((aZ a.op).1))) rfl) (aa (ah zu rfl) (aa (aB h 3 rfl aP rfl rfl) (iL (args := [(.bool ((aZ a.op).1)), (I6 a.a), (.pointer (some ⟨b2, 0, none⟩))]) Hq rfl rfl (aL (args := [(.bool ((aZ a.op).1)), (I6 a.a), (.pointer (some ⟨b2, 0, none⟩))]) Tryz.func116 rfl Tryz.ntmps116 (bH rfl) (nG (aa (ae (v := (.bool (false))) rfl) (nJ ?_))))))))))))
 refine aa (ag (v := (.bool ((aZ a.op).1))) rfl) (aa (dU rfl) (aa (ag (v := (.bool ((!(aZ a.op).1)))) rfl) (az rfl rfl (fun q => ag (v := (I6 a.a)) rfl) (az rfl rfl (fun q => qE (dE q) rfl) (az rfl rfl (fun q => ag (v := (.bool (decide ((0 : Int) ≤ a.a)))) (dE q)) (kN ((!(aZ a.op).1) == false) rfl rfl (fun q => ag (v := (I6 a.a)) rfl) (kN ((!(aZ a.op).1) == false) rfl rfl (fun q => aB h 4 rfl aP rfl rfl) (kN ((!(aZ a.op).1) == false) rfl rfl (fun q => dK (dE q) (dE q)) (az rfl rfl (fun q => fB (dE q) (Qo q) lW) (aa (iO rfl rfl lW) (aa (ae (v := (.bool (((!(aZ a.op).1) || (decide ((0 : Int) ≤ a.a) && decide ((a.a : Int) < d)))))) rfl) (nR (bI (v := (.bool (((!(aZ a.op).1) || (decide ((0 : Int) ≤ a.a) && decide ((a.a : Int) < d)))))) Tryz.results116 rfl (⟨_, rfl, ?_⟩))))))))))))))
 refine aa (dU rfl) (aa (ag (v := (.bool ((!((!(aZ a.op).1) || (decide ((0 : Int) ≤ a.a) && decide ((a.a : Int) < d))))))) rfl) (az rfl rfl (fun q => ag (v := (.func (.func 116) #[] #[(.pointer (some ⟨b2, 0, none⟩))])) rfl) (az rfl rfl (fun q => ag (v := (.bool ((aZ a.op).2.1))) rfl) (az rfl rfl (fun q => ah kK rfl) (az rfl rfl (fun q => aB h 3 rfl aP (dE q) rfl) (Ig [(.pointer (some ⟨b2, 0, none⟩))] rfl rfl Hq (fun q => (dE q)) (fun q => iB (dE q) (iB (dE q) rfl)) (BQ _ _ h.lt ((aZ a.op).2.1) a.b d b2 (h.lH 4 rfl) _ rfl) fun w k5 => ?_))))))
 replace h := h.grow k5
 refine az rfl rfl (fun q => dU (dE q)) (aa (iO rfl rfl lW) (aa (ag (v := (.bool (((!((!(aZ a.op).1) || (decide ((0 : Int) ≤ a.a) && decide ((a.a : Int) < d)))) || (!(cZ ((aZ a.op).2.1) a.b d)))))) rfl) (az rfl rfl (fun q => ag (v := (.func (.func 116) #[] #[(.pointer (some ⟨b2, 0, none⟩))])) rfl) (az rfl rfl (fun q => ag (v := (.bool ((aZ a.op).2.2.1))) rfl) (az rfl rfl (fun q => ah uy rfl) (az rfl rfl (fun q => aB h 3 rfl aP (dE q) rfl) (Ig [(.pointer (some ⟨b2, 0, none⟩))] rfl rfl Hq (fun q => (dE q)) (fun q => iB (dE q) (iB (dE q) rfl)) (BQ _ _ h.lt ((aZ a.op).2.2.1) a.c d b2 (h.lH 4 rfl) _ rfl) fun w k6 => ?_)))))))
 replace h := h.grow k6
 refine az rfl rfl (fun q => dU (dE q)) (aa (iO rfl rfl lW) (nN (aK hs rfl (fun c7 hs => ?_) (fun c7 hs => ?_))))
 refine nG (aa (ae (v := (I6 3)) rfl) (nR (ax (bI (v := (I6 3)) Tryz.results86 rfl ?_))))
 obtain rfl := gK hs
 exact ⟨h.grown, rfl⟩
 refine nS (aa (ah uy rfl) (aa (aB h 3 rfl aP rfl rfl) (aa (qE rfl rfl) (aa (ag (v := (.bool (decide ((0 : Int) ≤ a.c)))) rfl) (az rfl rfl (fun q => ah uy rfl) (az rfl rfl (fun q => aB h 3 rfl aP (dE q) rfl) (az rfl rfl (fun q => dK (dE q) rfl) (aa (fB rfl rfl lW) (aa (ae (v := (.bool ((decide ((0 : Int) ≤ a.c) && decide ((a.c : Int) < 4))))) rfl) (nJ (aa (ae (v := (I6 0)) rfl) (nJ (aa (ah rW rfl) (aa (aB h 3 rfl aP rfl rfl) ?_))))))))))))))
 refine aa (ah zu rfl) (aa (aB h 3 rfl aP rfl rfl) (aa (ah kK rfl) (aa (aB h 3 rfl aP rfl rfl) (aa (fE (pv := [(0, (I6 a.op)), (1, (I6 a.a)), (2, (I6 a.b))]) (out := [(I6 a.op), (I6 a.a), (I6 a.b), (I6 0), (.slice none 0 0)]) pg rfl ⟨0, 1, [(I6 a.op)], rfl, rfl, rfl, bH rfl, ⟨1, 1, [(I6 a.a)], rfl, rfl, rfl, bH rfl, ⟨2, 1, [(I6 a.b)], rfl, rfl, rfl, bH rfl, rfl⟩⟩⟩) (bu h 5 uC fun w b8 h => dN (vs := [(I6 a.op), (I6 a.a), (I6 a.b), (I6 0), (.slice none 0 0)]) h 5 [(I6 a.op), (I6 a.a), (I6 a.b), (I6 0), (.slice none 0 0)] rfl uC rfl rfl rfl rfl rfl (ai rfl (ai rfl (ai rfl (ai rfl (ai rfl aS))))) fun w h => nN (dm (σ := Bool × Int × Int × Int × Int) (inl ([10, 14, 17] ++ rg 69 91)) (fun ⟨x9, xZ, RP, HV, y13⟩ => [(14, (.bool (x9))), (17, (I6 xZ))]) (fun ⟨x9, xZ, RP, HV, y13⟩ w => SH w0 M BE w (hset [(1, .sr dw DT a.args), (3, .blk b1 [(I6 a.op), (I6 a.a), (I6 a.b), (I6 a.c), DT]), (4, .blk b2 [(I6 d)]), (5, .blk b8 [(I6 a.op), (I6 RP), (I6 HV), (I6 y13), (.slice none 0 0)])]) ∧ bz a b c d x9 xZ RP HV y13 = some r) ?_ ?_))))))
 rintro ⟨x9, xZ, RP, HV, y13⟩ w dC ⟨h, hs⟩
 refine dm (σ := Int) (inl [160, 161, 162, 163]) (fun uz => []) (fun uz w => SH w0 M BE w (hset [(1, .sr dw DT a.args), (3, .blk b1 [(I6 a.op), (I6 a.a), (I6 a.b), (I6 a.c), DT]), (4, .blk b2 [(I6 d)]), (5, .blk b8 [(I6 a.op), (I6 uz), (I6 HV), (I6 y13), (.slice none 0 0)])]) ∧ cu x9 a b HV c y13 xZ d uz = some r) ?_ ?_
 rintro uz w dC ⟨h, hs⟩
 refine aJ (nG (aa (ag (v := (.bool (x9))) rfl) (aa (dU rfl) (nN (aK hs rfl (fun c15 hs => ?_) (fun c15 hs => ?_))))))
 refine nG (aa (ae (v := (I6 3)) rfl) (nR (ax (bI (v := (I6 3)) Tryz.results86 rfl ?_))))
 obtain rfl := gK hs
 exact ⟨h.grown, rfl⟩
 refine aG (aj (aJ (nG (aa (ah zu rfl) (aa (aB h 3 rfl aP rfl rfl) (aa (ah zu rfl) (aa (aB h 5 rfl aP rfl rfl) (aa (gV rfl rfl) (aa (ag (v := (.bool (decide ((a.a : Int) ≠ uz)))) rfl) (az rfl rfl (fun q => ah kK rfl) (az rfl rfl (fun q => aB h 3 rfl aP (dE q) rfl) (az rfl rfl (fun q => ah kK rfl) (az rfl rfl (fun q => aB h 5 rfl aP (dE q) rfl) (az rfl rfl (fun q => gV (dE q) (dE q)) (aa (iO rfl rfl lW) (aa (ag (v := (.bool ((decide ((a.a : Int) ≠ uz) || decide ((a.b : Int) ≠ HV))))) rfl) (az rfl rfl (fun q => ah uy rfl) (az rfl rfl (fun q => aB h 3 rfl aP (dE q) rfl) (az rfl rfl (fun q => ah uy rfl) (az rfl rfl (fun q => aB h 5 rfl aP (dE q) rfl) (az rfl rfl (fun q => gV (dE q) (dE q)) (aa (iO rfl rfl lW) ?_))))))))))))))))))))))
 refine aa (ag (v := (.bool (((decide ((a.a : Int) ≠ uz) || decide ((a.b : Int) ≠ HV)) || decide ((a.c : Int) ≠ y13))))) rfl) (az rfl rfl (fun q => ah wU rfl) (az rfl rfl (fun q => aB h 3 rfl jc (dE q) rfl) (az rfl rfl (fun q => aX bN (dE q) (h.fQ 1 rfl)) (az rfl rfl (fun q => ag (v := (I6 xZ)) rfl) (az rfl rfl (fun q => gV (dE q) (dE q)) (aa (iO rfl rfl lW) (nN (aK hs rfl (fun c16 hs => ?_) (fun c16 hs => ?_)))))))))
 refine nG (aa (ae (v := (I6 4)) rfl) (nR (ax (bI (v := (I6 4)) Tryz.results86 rfl ?_))))
 obtain rfl := gK hs
 exact ⟨h.grown, rfl⟩
 refine aG (aj (aJ (nG (aa (ah rW rfl) (aa (aB h 3 rfl aP rfl rfl) (aa (bW rfl rfl) (nN (aK hs rfl (fun c17 hs => ?_) (fun c17 hs => ?_)))))))))
 refine nG (aa (ah wU rfl) (aa (aB h 3 rfl jc rfl rfl) (aa (aX bN rfl (h.fQ 1 rfl)) (aa (ag (v := (I6 0)) rfl) (nN (aH (eF (σ := Nat × Int) (inl ([10, 20] ++ rg 198 9)) (fun ⟨k18, i19⟩ => [(198, (I6 i19))]) (fun ⟨k18, i19⟩ w => SH w0 M BE w (hset [(1, .sr dw DT a.args), (4, .blk b2 [(I6 d)])]) ∧ i19 = (k18 : Int) ∧ each (jZ d) mW (a.args.drop k18) () = some r) (fun ⟨k18, i19⟩ => a.args.length - k18) ⟨0, 0⟩ ⟨rfl, trivial⟩ ?_ ?_)))))))
 exact ⟨h.cn _, rfl, hs⟩
 rintro ⟨k18, i19⟩ w dC ⟨h, hik, hs⟩
 refine nG ?_
 refine aa (dK rfl rfl) (nN ?_)
 refine aJ (fD rfl (fun e23 => ?_) (fun e23 => ?_))
 refine aG (aj ?_)
 obtain ⟨x20, Z5, Z6⟩ := eU (hik ▸ e23)
 rw [Z6, df] at hs
 generalize UT : each (jZ d) mW (a.args.drop (k18 + 1)) = UR at hs
 have Z7 := eZ ((h.fQ 1 rfl)).bD hik e23
 refine aJ (aH (nG ?_))
 obtain ⟨ZB, o27, Xr, h, Xt, i25⟩ := h.vo 1 6 rfl bN rfl (gB hik) (eY hik Z5)
 obtain rfl := Xt
 refine aa (i25 _ _ _ _ _ _ _ _ _ rfl rfl) (aa (eQ (k := 0) h 6 rfl aP rfl rfl) (aa (ae (v := (I6 x20)) rfl) (nJ (aa (ag (v := (.func (.func 116) #[] #[(.pointer (some ⟨b2, 0, none⟩))])) rfl) (aa (ag (v := (I6 x20)) rfl) (iL (args := [(.bool (true)), (I6 x20), (.pointer (some ⟨b2, 0, none⟩))]) Hq rfl rfl (aL (args := [(.bool (true)), (I6 x20), (.pointer (some ⟨b2, 0, none⟩))]) Tryz.func116 rfl Tryz.ntmps116 (bH rfl) (nG (aa (ae (v := (.bool (false))) rfl) (nJ (aa (ag (v := (.bool (true))) rfl) (aa (dU rfl) (aa (ag (v := (.bool (false))) rfl) (dx rfl rfl (aa (ag (v := (I6 x20)) rfl) (dx rfl rfl ?_))))))))))))))))
 refine aa (qE rfl rfl) (dx rfl rfl (aa (ag (v := (.bool (decide ((0 : Int) ≤ x20)))) rfl) (az rfl rfl (fun q => ag (v := (I6 x20)) rfl) (az rfl rfl (fun q => aB h 4 rfl aP rfl rfl) (az rfl rfl (fun q => dK (dE q) (dE q)) (dx rfl rfl (aa (fB rfl rfl lW) (aa (eO (b := false) (v := (.bool ((decide ((0 : Int) ≤ x20) && decide ((x20 : Int) < d))))) rfl rfl) (aa (ae (v := (.bool ((decide ((0 : Int) ≤ x20) && decide ((x20 : Int) < d))))) rfl) (nR (bI (v := (.bool ((decide ((0 : Int) ≤ x20) && decide ((x20 : Int) < d))))) Tryz.results116 rfl (⟨_, rfl, ?_⟩))))))))))))
 refine aa (dU rfl) (nN (aK hs rfl (fun c30 hs => ?_) (fun c30 hs => ?_)))
 refine nG (aa (ae (v := (I6 3)) rfl) (nR (aD (ax (ax (aD (ax (bI (v := (I6 3)) Tryz.results86 rfl ?_))))))))
 obtain rfl := gK hs
 exact ⟨h.grown, rfl⟩
 refine aG (au (aj (ay (aa (dz rfl rfl Z7) (aa (ag (v := (I6 ((i19 + 1)))) rfl) (aC (ak ?_)))))))
 subst UT
 exact iw ⟨k18 + 1, i19 + 1⟩ ⟨h.cn _, by omega, hs⟩ (by have := kQ e23; dsimp only; omega)
 rw [eX (hik ▸ e23), dZ] at hs
 refine nE (aa (ae (v := (I6 0)) rfl) (nR (bI (v := (I6 0)) Tryz.results86 rfl ?_)))
 obtain rfl := gK hs
 exact ⟨h.grown, rfl⟩
 refine nS (aa (ae (v := (I6 0)) rfl) (nR (bI (v := (I6 0)) Tryz.results86 rfl ?_)))
 obtain rfl := gK hs
 exact ⟨h.grown, rfl⟩
 refine nG (aa (ah rW rfl) (aa (aB h 3 rfl aP rfl rfl) (aa (bW rfl rfl) (nN (aK hs rfl (fun c31 hs => ?_) (fun c31 hs => ?_))))))
 refine ay (aa (ah zu rfl) (dS h 5 [(I6 a.op), (I6 0), (I6 HV), (I6 y13), (.slice none 0 0)] rfl aP rfl rfl rfl rfl rfl fun w h => aC (ak ?_)))
 exact cO 0 ⟨h.cn _, hs⟩
 refine aG (ak ?_)
 exact cO RP ⟨h.cn _, hs⟩
 refine nG (aa (ah rW rfl) (aa (aB h 3 rfl aP rfl rfl) (nN (aH (nG (aa (bW rfl rfl) (aa (ae (v := (.bool (decide ((a.op : Int) = 1)))) rfl) (nN (aK hs rfl (fun c32 hs => ?_) (fun c32 hs => ?_))))))))))
 refine ay (aa (ah kK rfl) (aa (aB h 3 rfl aP rfl rfl) (aa (qE rfl rfl) (aa (ag (v := (.bool (decide ((-1000000000 : Int) ≤ a.b)))) rfl) (az rfl rfl (fun q => ah kK rfl) (az rfl rfl (fun q => aB h 3 rfl aP (dE q) rfl) (az rfl rfl (fun q => Gt (dE q) rfl) (aa (fB rfl rfl lW) (aa (ae (v := (.bool ((decide ((-1000000000 : Int) ≤ a.b) && decide ((a.b : Int) ≤ 1000000000))))) rfl) (aC (au (ak ?_))))))))))))
 exact cO ((decide ((-1000000000 : Int) ≤ a.b) && decide ((a.b : Int) ≤ 1000000000)), 0, a.a, a.b, 0) ⟨h.cn _, hs⟩
 refine nG (aa (bW rfl rfl) (aa (ae (v := (.bool (decide ((a.op : Int) = 5)))) rfl) (nN (aK hs rfl (fun c33 hs => ?_) (fun c33 hs => ?_)))))
 refine ay (aa (ah kK rfl) (aa (aB h 3 rfl aP rfl rfl) (aa (qE rfl rfl) (aa (ag (v := (.bool (decide ((1 : Int) ≤ a.b)))) rfl) (az rfl rfl (fun q => ah kK rfl) (az rfl rfl (fun q => aB h 3 rfl aP (dE q) rfl) (az rfl rfl (fun q => Gt (dE q) rfl) (aa (fB rfl rfl lW) (aa (ae (v := (.bool ((decide ((1 : Int) ≤ a.b) && decide ((a.b : Int) ≤ 4))))) rfl) (aC (au (ak ?_))))))))))))
 exact cO ((decide ((1 : Int) ≤ a.b) && decide ((a.b : Int) ≤ 4)), 0, a.a, a.b, 0) ⟨h.cn _, hs⟩
 refine dm (σ := Bool) (inl [91, 92, 93]) (fun x34 => [(91, (.bool (x34)))]) (fun x34 w => SH w0 M BE w (hset [(1, .sr dw DT a.args), (2, .sr jE vc c), (3, .blk b1 [(I6 a.op), (I6 a.a), (I6 a.b), (I6 a.c), DT]), (4, .blk b2 [(I6 d)]), (5, .blk b8 [(I6 a.op), (I6 a.a), (I6 a.b), (I6 0), (.slice none 0 0)])]) ∧ bP a b c d e x34 = some r) ?_ ?_
 rintro x34 w dC ⟨h, hs⟩
 refine aK hs rfl (fun Xl hs => ?_) (fun Xl hs => ?_)
 refine Le 5 mixed (by kernel_rfl) h fun w h => fM (ag (v := (.bool ((decide ((0 : Int) ≤ a.c) && decide ((a.c : Int) < 4))))) rfl) (fM (ah uy rfl) (fM (aB h 3 rfl aP rfl rfl) (fM (ae (v := (.bool ((decide ((0 : Int) ≤ a.c) && decide ((a.c : Int) < 4))))) rfl) (fM (ah uy rfl) (Te (dS h 5 [(I6 a.op), (I6 a.a), (I6 a.b), (I6 a.c), (.slice none 0 0)] rfl aP rfl rfl rfl rfl rfl fun w h => aC (au (ak ?_))))))))
 exact cO ((decide ((0 : Int) ≤ a.c) && decide ((a.c : Int) < 4)), 0, a.a, a.b, a.c) ⟨h.cn _, hs⟩
 refine nG (aa (bW rfl rfl) (aa (ae (v := (.bool (decide ((a.op : Int) = 3)))) rfl) (nN (aK hs rfl (fun c36 hs => ?_) (fun c36 hs => ?_)))))
 refine aJ (Le 4 mixed (by kernel_rfl) h fun w h => fM (ah uy rfl) (fM (aB h 3 rfl aP rfl rfl) (fM (ae (v := (I6 1)) rfl) (fM (ah uy rfl) (Te (dS h 5 [(I6 a.op), (I6 a.a), (I6 a.b), (I6 a.c), (.slice none 0 0)] rfl aP rfl rfl rfl rfl rfl fun w h => nN (ay (aa (ah wU rfl) (aa (aB h 3 rfl jc rfl rfl) (aa (aX bN rfl (h.fQ 1 rfl)) (aa (bW rfl rfl) (aa (ag (v := (.bool (decide (((a.args.length : Int) : Int) = 1)))) rfl) (jT (b := decide (((a.args.length : Int) : Int) = 1)) hs (fun c37 hs => ?_) (fun c37 hs => ?_))))))))))))))
 refine dx rfl (cB c37) (aa (ah wU rfl) (dx rfl (cB c37) (aa (aB h 3 rfl jc rfl rfl) (dx rfl (cB c37) ?_))))
 obtain ⟨x38, e39, hs⟩ := aM hs
 obtain ⟨b41, o42, cs43, h, r44, i40⟩ := h.vo 1 7 rfl bN rfl (aR e39).1 (aR e39).2
 obtain rfl := r44
 refine aa (i40 _ _ _ _ _ _ _ _ _ rfl rfl) (dx rfl (cB c37) (aa (eQ (k := 0) h 7 rfl aP rfl rfl) (dx rfl (cB c37) (aa (qE rfl rfl) (aa (eO (b := true) (v := (.bool (decide ((1 : Int) ≤ x38)))) (cB c37) rfl) (aa (ag (v := (.bool (decide ((1 : Int) ≤ x38)))) rfl) (az rfl rfl (fun q => ah wU rfl) (az rfl rfl (fun q => aB h 3 rfl jc (dE q) rfl) ?_))))))))
 obtain ⟨b46, o47, cs48, h, r49, i45⟩ := h.vo 1 8 rfl bN rfl (aR e39).1 (aR e39).2
 obtain rfl := r49
 refine az rfl rfl (fun q => i45 _ _ _ _ _ _ _ _ _ (dE q) rfl) (az rfl rfl (fun q => eQ (k := 0) h 8 rfl aP (dE q) rfl) (az rfl rfl (fun q => Gt (dE q) rfl) (aa (fB rfl rfl lW) (aa (ae (v := (.bool ((decide ((1 : Int) ≤ x38) && decide ((x38 : Int) ≤ 5))))) rfl) (aC (au (ak ?_)))))))
 exact cO ((decide ((1 : Int) ≤ x38) && decide ((x38 : Int) ≤ 5)), 1, a.a, a.b, a.c) ⟨h.cn _, hs⟩
 refine qc rfl (cB c37) rfl (qc rfl (cB c37) rfl (qc rfl (cB c37) rfl (qc rfl (cB c37) rfl (qc rfl (cB c37) rfl (aa (eO (b := false) (v := (.bool (false))) (cB c37) rfl) (aa (ag (v := (.bool (false))) rfl) (lG (b' := false) rfl rfl rfl (lG (b' := false) rfl rfl rfl (lG (b' := false) rfl rfl rfl (lG (b' := false) rfl rfl rfl (lG (b' := false) rfl rfl rfl (aa (eO (b := false) (v := (.bool (false))) rfl rfl) (aa (ae (v := (.bool (false))) rfl) (aC (au (ak ?_))))))))))))))))
 exact cO (false, 1, a.a, a.b, a.c) ⟨h.cn _, hs⟩
 refine dm (σ := Bool) (inl [121, 122, 123]) (fun x50 => [(121, (.bool (x50)))]) (fun x50 w => SH w0 M BE w (hset [(1, .sr dw DT a.args), (2, .sr jE vc c), (3, .blk b1 [(I6 a.op), (I6 a.a), (I6 a.b), (I6 a.c), DT]), (4, .blk b2 [(I6 d)]), (5, .blk b8 [(I6 a.op), (I6 a.a), (I6 a.b), (I6 0), (.slice none 0 0)])]) ∧ bO a b c d e x50 = some r) ?_ ?_
 rintro x50 w dC ⟨h, hs⟩
 refine aK hs rfl (fun c51 hs => ?_) (fun c51 hs => ?_)
 refine ay (aa (ah kK rfl) (aa (aB h 3 rfl aP rfl rfl) (aa (qE rfl rfl) (aa (ag (v := (.bool (decide ((0 : Int) ≤ a.b)))) rfl) (az rfl rfl (fun q => ah kK rfl) (az rfl rfl (fun q => aB h 3 rfl aP (dE q) rfl) (az rfl rfl (fun q => ag (v := (I6 e)) rfl) (az rfl rfl (fun q => dK (dE q) (dE q)) (aa (fB rfl rfl lW) (aa (ae (v := (.bool ((decide ((0 : Int) ≤ a.b) && decide ((a.b : Int) < e))))) rfl) (aC (au (ak ?_)))))))))))))
 exact cO ((decide ((0 : Int) ≤ a.b) && decide ((a.b : Int) < e)), 0, a.a, a.b, 0) ⟨h.cn _, hs⟩
 refine nG (aa (bW rfl rfl) (aa (ae (v := (.bool (decide ((a.op : Int) = 7)))) rfl) (nN (aK hs rfl (fun D7 hs => ?_) (fun D7 hs => ?_)))))
 refine aJ (nG (aa (ah kK rfl) (aa (aB h 3 rfl aP rfl rfl) (aa (dK rfl rfl) (aa (ag (v := (.bool (decide ((a.b : Int) < 0)))) rfl) (az rfl rfl (fun q => ah kK rfl) (az rfl rfl (fun q => aB h 3 rfl aP (dE q) rfl) (az rfl rfl (fun q => ag (v := vc) rfl) (az rfl rfl (fun q => aX iM (dE q) (h.fQ 2 rfl)) (az rfl rfl (fun q => qE (dE q) (dE q)) (aa (iO rfl rfl lW) (nN (aK hs rfl (fun c53 hs => ?_) (fun c53 hs => ?_))))))))))))))
 refine nG (aa (ae (v := (I6 5)) rfl) (nR (ax (aD (ax (bI (v := (I6 5)) Tryz.results86 rfl ?_))))))
 obtain rfl := gK hs
 exact ⟨h.grown, rfl⟩
 refine aG (aj (ay (aa (ag (v := vc) rfl) (aa (ah kK rfl) (aa (aB h 3 rfl aP rfl rfl) ?_)))))
 obtain ⟨x54, e55, hs⟩ := aM hs
 obtain ⟨b57, o58, cs59, h, r60, i56⟩ := h.vo 2 9 rfl iM rfl (aR e55).1 (aR e55).2
 obtain ⟨Xn, rfl, g62⟩ := pR r60
 replace h := h.bK 10 g62.up
 refine aa (i56 _ _ _ _ _ _ _ _ _ rfl rfl) (aa (ah yh rfl) (aa (eQ (k := 0) h 9 rfl aP rfl rfl) (aa (ae (v := (I6 x54.params)) rfl) (aC (au (ak ?_))))))
 exact cO ((aZ a.op).2.2.2, x54.params, a.a, a.b, 0) ⟨h.cn _, hs⟩
 refine dm (σ := Bool) (inl [151, 152, 153, 154]) (fun EF => [(151, (.bool (EF)))]) (fun EF w => SH w0 M BE w (hset [(1, .sr dw DT a.args), (3, .blk b1 [(I6 a.op), (I6 a.a), (I6 a.b), (I6 a.c), DT]), (4, .blk b2 [(I6 d)]), (5, .blk b8 [(I6 a.op), (I6 a.a), (I6 a.b), (I6 0), (.slice none 0 0)])]) ∧ bL a b c d EF = some r) ?_ ?_
 rintro EF w dC ⟨h, hs⟩
 refine aK hs rfl (fun c64 hs => ?_) (fun c64 hs => ?_)
 refine ay (aa (ah kK rfl) (dS h 5 [(I6 a.op), (I6 a.a), (I6 0), (I6 0), (.slice none 0 0)] rfl aP rfl rfl rfl rfl rfl fun w h => aC (au (ak ?_))))
 exact cO ((aZ a.op).2.2.2, 0, a.a, 0, 0) ⟨h.cn _, hs⟩
 refine nG (aa (bW rfl rfl) (aa (ae (v := (.bool (decide ((a.op : Int) = 10)))) rfl) (nN (aK hs rfl (fun LU hs => ?_) (fun LU hs => ?_)))))
 refine ay (aa (ah zu rfl) (dS h 5 [(I6 a.op), (I6 0), (I6 a.b), (I6 0), (.slice none 0 0)] rfl aP rfl rfl rfl rfl rfl fun w h => aa (ah kK rfl) (dS h 5 [(I6 a.op), (I6 0), (I6 0), (I6 0), (.slice none 0 0)] rfl aP rfl rfl rfl rfl rfl fun w h => aC (au (ak ?_)))))
 exact cO ((aZ a.op).2.2.2, 0, 0, 0, 0) ⟨h.cn _, hs⟩
 refine aG (au (ak ?_))
 exact cO ((aZ a.op).2.2.2, 0, a.a, a.b, 0) ⟨h.cn _, hs⟩
 refine nG (aa (bW rfl rfl) (aa (ae (v := (.bool (decide ((a.op : Int) = 8)))) rfl) (nN (aK hs rfl (fun c66 hs => ?_) (fun c66 hs => ?_)))))
 refine aG (ak ?_)
 exact cO (decide ((a.op : Int) = 8)) ⟨h.cn _, hs⟩
 refine nG (aa (bW rfl rfl) (aa (ae (v := (.bool (decide ((a.op : Int) = 9)))) rfl) (nN (aK hs rfl (fun c67 hs => ?_) (fun c67 hs => ?_)))))
 refine aG (ak ?_)
 exact cO (decide ((a.op : Int) = 9)) ⟨h.cn _, hs⟩
 refine ay (aa (bW rfl rfl) (aa (ae (v := (.bool (decide ((a.op : Int) = 11)))) rfl) (aC (ak ?_))))
 exact cO (decide ((a.op : Int) = 11)) ⟨h.cn _, hs⟩
 refine nG (aa (bW rfl rfl) (aa (ae (v := (.bool (decide ((a.op : Int) = 12)))) rfl) (nN (aK hs rfl (fun c68 hs => ?_) (fun c68 hs => ?_)))))
 refine aG (ak ?_)
 exact cO (decide ((a.op : Int) = 12)) ⟨h.cn _, hs⟩
 refine ay (aa (bW rfl rfl) (aa (ae (v := (.bool (decide ((a.op : Int) = 13)))) rfl) (aC (ak ?_))))
 exact cO (decide ((a.op : Int) = 13)) ⟨h.cn _, hs⟩
 refine nG (aa (bW rfl rfl) (aa (ae (v := (.bool (decide ((a.op : Int) = 4)))) rfl) (nN (aK hs rfl (fun c69 hs => ?_) (fun c69 hs => ?_)))))
 refine aG (ak ?_)
 exact cO (decide ((a.op : Int) = 4)) ⟨h.cn _, hs⟩
 refine ay (aa (bW rfl rfl) (aa (ae (v := (.bool (decide ((a.op : Int) = 6)))) rfl) (aC (ak ?_))))
 exact cO (decide ((a.op : Int) = 6)) ⟨h.cn _, hs⟩
def ek (a : List cz) (Ap : cz) (i35 : Int) (qC : Ins) (s : Unit) (Mc : Unit → Option Int) : Option Int :=
  (dP qC i35 a Ap.regs (Ap.code.length : Int)).bind fun DR => bif decide ((DR : Int) ≠ 0) then some DR else Mc ()
def qj (Ap : cz) (nZ : Unit → Option Int) (s : Unit) : Option Int :=
  iA (jN ((Ap.code.length : Int) - 1)) ((idx Ap.code ((Ap.code.length : Int) - 1)).bind fun x54 => bif (decide ((x54.op : Int) ≠ 8) && decide ((x54.op : Int) ≠ 12)) then some 4 else nZ ())
def fV (a : List cz) (Ap : cz) (s : Unit) (nZ : Unit → Option Int) : Option Int :=
  dQ (ek a Ap) (qj Ap nZ) 0 Ap.code ()
def jI (s : Unit) : Option Int :=
  some 0
def jl (i3 : Int) (x4 : cz) (s : Unit) (D5 : Unit → Option Int) : Option Int :=
  bif (((((decide ((x4.params : Int) < 0) || decide ((3 : Int) < x4.params)) || decide ((x4.regs : Int) < 1)) || decide ((x4.regs : Int) < x4.params)) || decide ((40 : Int) < x4.regs)) || (decide ((i3 : Int) = 0) && decide ((0 : Int) < x4.params))) then some 3 else bif (decide (((x4.code.length : Int) : Int) = 0) || decide ((2000 : Int) < (x4.code.length : Int))) then some 2 else D5 ()
def jJ (a : List cz) (s : Unit) : Option Int :=
  each (fV a) jI a ()
def pW (a : List cz) : Option Int :=
  bif (decide (((a.length : Int) : Int) = 0) || decide ((4 : Int) < (a.length : Int))) then some 2 else dQ jl (jJ a) 0 a ()
theorem Ff (w0 : World) (M : BS) (hM : ∀ b, M b → b < w0.heap.size) (va : Value) (a : List cz) (ha : fK jE w0 BE M va a) (r : Int) (hs : pW a = some r) :
    Calls Tryz.prog 63 #[va] w0 (fun e w' => Grow w0 w' ∧ e = .returned (.int .i64 r)) := by
 refine aL (args := [va]) Tryz.func63 rfl Tryz.ntmps63 (bH rfl) ?_
 have h := SH.init hM
 replace h := h.eu 1 ha aT
 have tQ := ha.bD
 refine nG (aa (ae (v := (I6 0)) rfl) (nK (aa (ag (v := va) rfl) (aa (aX iM rfl (h.fQ 1 rfl)) (aa (bW rfl rfl) (aa (ag (v := (.bool (decide (((a.length : Int) : Int) = 0)))) rfl) (az rfl rfl (fun q => ag (v := va) rfl) (az rfl rfl (fun q => aX iM (dE q) (h.fQ 1 rfl)) (az rfl rfl (fun q => jK (dE q) rfl) (aa (iO rfl rfl lW) (nN (aK hs rfl (fun c1 hs => ?_) (fun c1 hs => ?_)))))))))))))
 refine nG (aa (ae (v := (I6 2)) rfl) (nR (ax (bI (v := (I6 2)) Tryz.results63 rfl ?_))))
 obtain rfl := gK hs
 exact ⟨h.grown, rfl⟩
 refine aG (aj (aJ (nG (aa (ag (v := va) rfl) (aa (aX iM rfl (h.fQ 1 rfl)) (aa (ag (v := (I6 0)) rfl) (nN (aH (eF (σ := Nat × Int) (inl ([2, 3, 4] ++ rg 21 50)) (fun ⟨k2, i3⟩ => [(21, (I6 i3))]) (fun ⟨k2, i3⟩ w => SH w0 M BE w (hset [(1, .sr jE va a)]) ∧ i3 = (k2 : Int) ∧ dQ jl (jJ a) i3 (a.drop k2) () = some r) (fun ⟨k2, i3⟩ => a.length - k2) ⟨0, 0⟩ ⟨rfl, trivial⟩ ?_ ?_)))))))))
 exact ⟨h.cn _, rfl, hs⟩
 rintro ⟨k2, i3⟩ w dC ⟨h, hik, hs⟩
 refine nG ?_
 refine aa (dK rfl rfl) (nN ?_)
 refine aJ (fD rfl (fun e7 => ?_) (fun e7 => ?_))
 refine aG (aj ?_)
 obtain ⟨x4, Xd, Xe⟩ := eU (hik ▸ e7)
 rw [Xe, jC] at hs
 generalize D6 : dQ jl (jJ a) (i3 + 1) (a.drop (k2 + 1)) = D5 at hs
 have OZ := eZ ((h.fQ 1 rfl)).bD hik e7
 refine aJ (aH (nG (aa (ag (v := (I6 i3)) rfl) ?_)))
 obtain ⟨b10, o11, Xf, h, Xg, i9⟩ := h.vo 1 2 rfl iM rfl (gB hik) (eY hik Xd)
 obtain ⟨G5, rfl, g15⟩ := pR Xg
 replace h := h.bK 3 g15.up
 refine aa (i9 _ _ _ _ _ _ _ _ _ rfl rfl) (aa (iD (k := 0) (vs := [(I6 x4.params), (I6 x4.regs), G5]) h 2 rfl qL rfl rfl rfl (bH rfl)) (bu h 4 qL fun w b16 h => aa (ae (v := (I6 i3)) rfl) (dN (vs := [(I6 x4.params), (I6 x4.regs), G5]) h 4 [(I6 x4.params), (I6 x4.regs), G5] rfl qL rfl rfl rfl rfl rfl (ai rfl (ai rfl (ai (h.gy 3 rfl).one aS))) fun w h => nK (aa (ah yh rfl) (aa (aB h 4 rfl aP rfl rfl) (aa (dK rfl rfl) (aa (ag (v := (.bool (decide ((x4.params : Int) < 0)))) rfl) (az rfl rfl (fun q => ah yh rfl) (az rfl rfl (fun q => aB h 4 rfl aP (dE q) rfl) (az rfl rfl (fun q => jK (dE q) rfl) (aa (iO rfl rfl lW) (aa (ag (v := (.bool ((decide ((x4.params : Int) < 0) || decide ((3 : Int) < x4.params))))) rfl) (az rfl rfl (fun q => ah wT rfl) (az rfl rfl (fun q => aB h 4 rfl aP (dE q) rfl) (az rfl rfl (fun q => dK (dE q) rfl) (aa (iO rfl rfl lW) (aa (ag (v := (.bool (((decide ((x4.params : Int) < 0) || decide ((3 : Int) < x4.params)) || decide ((x4.regs : Int) < 1))))) rfl) ?_)))))))))))))))))
 refine az rfl rfl (fun q => ah wT rfl) (az rfl rfl (fun q => aB h 4 rfl aP (dE q) rfl) (az rfl rfl (fun q => ah yh rfl) (az rfl rfl (fun q => aB h 4 rfl aP (dE q) rfl) (az rfl rfl (fun q => dK (dE q) (dE q)) (aa (iO rfl rfl lW) (aa (ag (v := (.bool ((((decide ((x4.params : Int) < 0) || decide ((3 : Int) < x4.params)) || decide ((x4.regs : Int) < 1)) || decide ((x4.regs : Int) < x4.params))))) rfl) (az rfl rfl (fun q => ah wT rfl) (az rfl rfl (fun q => aB h 4 rfl aP (dE q) rfl) (az rfl rfl (fun q => jK (dE q) rfl) (aa (iO rfl rfl lW) (aa (ag (v := (.bool (((((decide ((x4.params : Int) < 0) || decide ((3 : Int) < x4.params)) || decide ((x4.regs : Int) < 1)) || decide ((x4.regs : Int) < x4.params)) || decide ((40 : Int) < x4.regs))))) rfl) (az rfl rfl (fun q => ag (v := (I6 i3)) rfl) (az rfl rfl (fun q => bW (dE q) rfl) (az rfl rfl (fun q => ag (v := (.bool (decide ((i3 : Int) = 0)))) (dE q)) (kN (((((decide ((x4.params : Int) < 0) || decide ((3 : Int) < x4.params)) || decide ((x4.regs : Int) < 1)) || decide ((x4.regs : Int) < x4.params)) || decide ((40 : Int) < x4.regs)) == false) rfl rfl (fun q => ah yh rfl) (kN (((((decide ((x4.params : Int) < 0) || decide ((3 : Int) < x4.params)) || decide ((x4.regs : Int) < 1)) || decide ((x4.regs : Int) < x4.params)) || decide ((40 : Int) < x4.regs)) == false) rfl rfl (fun q => aB h 4 rfl aP (dE q) rfl) (kN (((((decide ((x4.params : Int) < 0) || decide ((3 : Int) < x4.params)) || decide ((x4.regs : Int) < 1)) || decide ((x4.regs : Int) < x4.params)) || decide ((40 : Int) < x4.regs)) == false) rfl rfl (fun q => jK (dE q) rfl) (az rfl rfl (fun q => fB (dE q) (Qo q) lW) (aa (iO rfl rfl lW) (nN (aK hs rfl (fun c17 hs => ?_) (fun c17 hs => ?_))))))))))))))))))))))
 refine nG (aa (ae (v := (I6 3)) rfl) (nR (ax (aD (ax (ax (aD (ax (bI (v := (I6 3)) Tryz.results63 rfl ?_)))))))))
 obtain rfl := gK hs
 exact ⟨h.grown, rfl⟩
 refine nS (aa (ah qJ rfl) (aa (aB h 4 rfl yM rfl rfl) (aa (aX iU rfl (h.lF 3 rfl)) (aa (bW rfl rfl) (aa (ag (v := (.bool (decide (((x4.code.length : Int) : Int) = 0)))) rfl) (az rfl rfl (fun q => ah qJ rfl) (az rfl rfl (fun q => aB h 4 rfl yM (dE q) rfl) (az rfl rfl (fun q => aX iU (dE q) (h.lF 3 rfl)) (az rfl rfl (fun q => jK (dE q) rfl) (aa (iO rfl rfl lW) (nN (aK hs rfl (fun c18 hs => ?_) (fun c18 hs => ?_)))))))))))))
 refine nG (aa (ae (v := (I6 2)) rfl) (nR (aD (ax (ax (aD (ax (bI (v := (I6 2)) Tryz.results63 rfl ?_))))))))
 obtain rfl := gK hs
 exact ⟨h.grown, rfl⟩
 refine aG (au (aj (ay (aa (dz rfl rfl OZ) (aa (ag (v := (I6 ((i3 + 1)))) rfl) (aC (ak ?_)))))))
 subst D6
 exact iw ⟨k2 + 1, i3 + 1⟩ ⟨h.cn _, by omega, hs⟩ (by have := kQ e7; dsimp only; omega)
 rw [eX (hik ▸ e7), mY] at hs
 refine iI (bC (bC (dV (aj (aJ (nG (aa (ag (v := va) rfl) (aa (aX iM rfl (h.fQ 1 rfl)) (aa (ag (v := (I6 0)) rfl) (nN (aH (eF (σ := Nat × Int) (inl ([2, 6, 7, 8, 9, 10] ++ rg 73 41)) (fun ⟨k19, i20⟩ => [(73, (I6 i20))]) (fun ⟨k19, i20⟩ w => SH w0 M BE w (hset [(1, .sr jE va a)]) ∧ i20 = (k19 : Int) ∧ each (fV a) jI (a.drop k19) () = some r) (fun ⟨k19, i20⟩ => a.length - k19) ⟨0, 0⟩ ⟨rfl, trivial⟩ ?_ ?_))))))))))))
 exact ⟨h.cn _, rfl, hs⟩
 rintro ⟨k19, i20⟩ w dC ⟨h, hik, hs⟩
 refine nG ?_
 refine aa (dK rfl rfl) (nN ?_)
 refine aJ (fD rfl (fun e24 => ?_) (fun e24 => ?_))
 refine aG (aj ?_)
 obtain ⟨Ap, e25a, e25b⟩ := eU (hik ▸ e24)
 rw [e25b, df] at hs
 generalize UH : each (fV a) jI (a.drop (k19 + 1)) = nZ at hs
 have e25r := eZ ((h.fQ 1 rfl)).bD hik e24
 refine aJ (aH (nG ?_))
 obtain ⟨b27, o28, cs29, h, Z8, i26⟩ := h.vo 1 5 rfl iM rfl (gB hik) (eY hik e25a)
 obtain ⟨u31, rfl, UU⟩ := pR Z8
 replace h := h.bK 6 UU.up
 refine aa (i26 _ _ _ _ _ _ _ _ _ rfl rfl) (aa (iD (k := 0) (vs := [(I6 Ap.params), (I6 Ap.regs), u31]) h 5 rfl qL rfl rfl rfl (bH rfl)) (bu h 7 qL fun w ZM h => dN (vs := [(I6 Ap.params), (I6 Ap.regs), u31]) h 7 [(I6 Ap.params), (I6 Ap.regs), u31] rfl qL rfl rfl rfl rfl rfl (ai rfl (ai rfl (ai (h.gy 6 rfl).one aS))) fun w h => nK (aa (ah qJ rfl) (aa (aB h 7 rfl yM rfl rfl) (aa (aX iU rfl (h.lF 6 rfl)) (aa (ag (v := (I6 0)) rfl) (nN (aH (eF (σ := Nat × Int) (inl ([2, 7, 8, 9] ++ rg 80 18)) (fun ⟨NC, i35⟩ => [(80, (I6 i35))]) (fun ⟨NC, i35⟩ w => SH w0 M BE w (hset [(1, .sr jE va a), (6, .rd jH u31 Ap.code), (7, .blk ZM [(I6 Ap.params), (I6 Ap.regs), u31])]) ∧ i35 = (NC : Int) ∧ dQ (ek a Ap) (qj Ap nZ) i35 (Ap.code.drop NC) () = some r) (fun ⟨NC, i35⟩ => Ap.code.length - NC) ⟨0, 0⟩ ⟨rfl, trivial⟩ ?_ ?_)))))))))
 exact ⟨h.cn _, rfl, hs⟩
 rintro ⟨NC, i35⟩ w dC ⟨h, hik, hs⟩
 refine nG ?_
 refine aa (dK rfl rfl) (nN ?_)
 refine aJ (fD rfl (fun e39 => ?_) (fun e39 => ?_))
 refine aG (aj ?_)
 obtain ⟨qC, UW, UX⟩ := eU (hik ▸ e39)
 rw [UX, jC] at hs
 generalize UY : dQ (ek a Ap) (qj Ap nZ) (i35 + 1) (Ap.code.drop (NC + 1)) = Mc at hs
 have Z9 := eZ ((h.lF 6 rfl)).bD hik e39
 refine aJ (aH (nG (aa (ag (v := (I6 i35)) rfl) ?_)))
 obtain ⟨b42, o43, cs44, h, r45, i41⟩ := h.FH 6 8 rfl iU rfl (gB hik) (eY hik UW)
 obtain ⟨u46, rfl, g47⟩ := Dh r45
 replace h := h.bK 9 g47.up
 refine aa (i41 _ _ _ _ _ _ _ _ _ rfl rfl) (aa (iD (k := 0) (vs := [(I6 qC.op), (I6 qC.a), (I6 qC.b), (I6 qC.c), u46]) h 8 rfl uC rfl rfl rfl (bH rfl)) (bu h 10 uC fun w b48 h => aa (ae (v := (I6 i35)) rfl) (dN (vs := [(I6 qC.op), (I6 qC.a), (I6 qC.b), (I6 qC.c), u46]) h 10 [(I6 qC.op), (I6 qC.a), (I6 qC.b), (I6 qC.c), u46] rfl uC rfl rfl rfl rfl rfl (ai rfl (ai rfl (ai rfl (ai rfl (ai (h.gy 9 rfl).one aS))))) fun w h => nJ (aa (eB (vs := [(I6 qC.op), (I6 qC.a), (I6 qC.b), (I6 qC.c), u46]) h 10 rfl uC rfl rfl rfl) (aa (ag (v := (I6 i35)) rfl) (aa (ag (v := va) rfl) (aa (ah wT rfl) (aa (aB h 7 rfl aP rfl rfl) (aa (ah qJ rfl) (aa (aB h 7 rfl yM rfl rfl) (aa (aX iU rfl (h.lF 6 rfl)) ?_)))))))))))
 obtain ⟨DR, e50, hs⟩ := aM hs
 refine aO Zv rfl rfl (Ma _ _ h.lt qC u46 (h.lF 9 rfl) i35 va a (h.fQ 1 rfl) Ap.regs (Ap.code.length : Int) _ e50) ?_
 rintro _ w ⟨k51, rfl⟩
 refine ⟨_, rfl, ?_⟩
 replace h := h.grow k51
 refine aa (ae (v := (I6 DR)) rfl) (nJ (aa (ag (v := (I6 DR)) rfl) (aa (gV rfl rfl) (nN (aK hs rfl (fun D7 hs => ?_) (fun D7 hs => ?_))))))
 refine nG (aa (ag (v := (I6 DR)) rfl) (aa (ae (v := (I6 DR)) rfl) (nR (aD (ax (ax (aD (ax (aD (ax (ax (aD (ax (bI (v := (I6 DR)) Tryz.results63 rfl ?_))))))))))))))
 obtain rfl := gK hs
 exact ⟨h.grown, rfl⟩
 refine aG (au (aj (ay (aa (dz rfl rfl Z9) (aa (ag (v := (I6 ((i35 + 1)))) rfl) (aC (ak ?_)))))))
 subst UY
 exact iw ⟨NC + 1, i35 + 1⟩ ⟨h.cn _, by omega, hs⟩ (by have := kQ e39; dsimp only; omega)
 rw [eX (hik ▸ e39), mY] at hs
 refine nE (aa (ah qJ rfl) (aa (aB h 7 rfl yM rfl rfl) (aa (ah qJ rfl) (aa (aB h 7 rfl yM rfl rfl) (aa (aX iU rfl (h.lF 6 rfl)) ?_)))))
 obtain ⟨a53, hs⟩ := bE hs
 refine aa (tY rfl rfl a53) ?_
 obtain ⟨x54, e55, hs⟩ := aM hs
 obtain ⟨b57, o58, cs59, h, r60, i56⟩ := h.FH 6 11 rfl iU rfl (aR e55).1 (aR e55).2
 obtain ⟨Xn, rfl, g62⟩ := Dh r60
 replace h := h.bK 12 g62.up
 refine aa (i56 _ _ _ _ _ _ _ _ _ rfl rfl) (aa (ah rW rfl) (aa (eQ (k := 0) h 11 rfl aP rfl rfl) (aa (ae (v := (I6 x54.op)) rfl) (nJ (aa (ag (v := (I6 x54.op)) rfl) (aa (gV rfl rfl) (aa (ag (v := (.bool (decide ((x54.op : Int) ≠ 8)))) rfl) (az rfl rfl (fun q => ag (v := (I6 x54.op)) rfl) (az rfl rfl (fun q => gV (dE q) rfl) (aa (fB rfl rfl lW) (nN (aK hs rfl (fun c63 hs => ?_) (fun c63 hs => ?_)))))))))))))
 refine nG (aa (ae (v := (I6 4)) rfl) (nR (aD (ax (ax (aD (ax (bI (v := (I6 4)) Tryz.results63 rfl ?_))))))))
 obtain rfl := gK hs
 exact ⟨h.grown, rfl⟩
 refine aG (au (aj (ay (aa (dz rfl rfl e25r) (aa (ag (v := (I6 ((i20 + 1)))) rfl) (aC (ak ?_)))))))
 subst UH
 exact iw ⟨k19 + 1, i20 + 1⟩ ⟨h.cn _, by omega, hs⟩ (by have := kQ e24; dsimp only; omega)
 rw [eX (hik ▸ e24), dZ] at hs
 refine nE (aa (ae (v := (I6 0)) rfl) (nR (bI (v := (I6 0)) Tryz.results63 rfl ?_)))
 obtain rfl := gK hs
 exact ⟨h.grown, rfl⟩
def UZ (a : List cz) : Option (LX.State × Int) :=
  (pW a).bind fun y2 => bif decide ((y2 : Int) ≠ 0) then some ((⟨[], [], 0, 0⟩ : LX.State), y2) else (idx a 0).bind fun x6 => iA (0 ≤ x6.regs ∧ x6.regs * 16 ≤ 140737488355328) (some ((⟨[(⟨0, 0, (List.replicate x6.regs.toNat (⟨0, 0⟩ : Val)), 0⟩ : LX.Frame)], [], 0, 0⟩ : LX.State), 0))
theorem U0 (w0 : World) (M : BS) (hM : ∀ b, M b → b < w0.heap.size) (va : Value) (a : List cz) (ha : fK jE w0 BE M va a) (r : LX.State × Int) (hs : UZ a = some r) :
    Calls Tryz.prog 29 #[va] w0 (fun e w' => Grow w0 w' ∧ ∃ tT, ∃ wG, e = .returned (.tuple #[.agg #[tT, wG, .int .i64 r.1.status, .int .i64 r.1.bB], .int .i64 r.2]) ∧ gF dM w' M tT r.1.frames ∧ gF (kW aY) w' M wG r.1.cells) := by
 refine aL (args := [va]) Tryz.func29 rfl Tryz.ntmps29 (bH rfl) ?_
 have h := SH.init hM
 replace h := h.eu 1 ha aT
 have tQ := ha.bD
 refine nG (bu h 2 bM fun w b1 h => aa (ae (v := (I6 0)) rfl) (nK (aa (ag (v := va) rfl) ?_)))
 obtain ⟨y2, e3, hs⟩ := aM hs
 refine aO TW rfl rfl (Ff _ _ h.lt va a (h.fQ 1 rfl) _ e3) ?_
 rintro _ w ⟨k4, rfl⟩
 refine ⟨_, rfl, ?_⟩
 replace h := h.grow k4
 refine aa (ae (v := (I6 y2)) rfl) (nJ (aa (ag (v := (I6 y2)) rfl) (aa (gV rfl rfl) (nN (aK hs rfl (fun c5 hs => ?_) (fun c5 hs => ?_))))))
 refine nG (aa (fE (pv := []) (out := [(.slice none 0 0), (.slice none 0 0), (I6 0), (I6 0)]) qf rfl rfl) (aa (ag (v := (I6 y2)) rfl) (dN (vs := [(.slice none 0 0), (.slice none 0 0), (I6 0), (I6 0)]) h 2 [(.slice none 0 0), (.slice none 0 0), (I6 0), (I6 0)] rfl bM rfl rfl rfl rfl rfl (ai rfl (ai rfl (ai rfl (ai rfl aS)))) fun w h => aa (ae (v := (I6 y2)) rfl) (nR (ax (tO (vs := [(.slice none 0 0), (.slice none 0 0), (I6 0), (I6 0)]) (v2 := (I6 y2)) Tryz.results29 rfl rfl h 2 rfl bM rfl ?_))))))
 obtain rfl := gK hs
 exact ⟨h.grown, _, _, rfl, fK.nil, fK.nil⟩
 refine nS (aa (ag (v := va) rfl) ?_)
 obtain ⟨x6, e7, hs⟩ := aM hs
 obtain ⟨b9, o10, cs11, h, r12, i8⟩ := h.vo 1 3 rfl iM rfl (aR e7).1 (aR e7).2
 obtain ⟨Ui, rfl, g14⟩ := pR r12
 replace h := h.bK 4 g14.up
 refine aa (i8 _ _ _ _ _ _ _ _ _ rfl rfl) (aa (ah wT rfl) (aa (eQ (k := 1) h 3 rfl aP rfl rfl) ?_))
 obtain ⟨a16, hs⟩ := bE hs
 refine Rh (R := aY) (zs := [(I6 0), (I6 0)]) (a := (⟨0, 0⟩ : Val)) h 5 nk dR rfl (by decide) rfl rfl a16 rfl (fun _ _ => rfl) fun w Dk h u15k u15f => aa (fE (pv := [(2, Dk)]) (out := [(I6 0), (I6 0), Dk, (I6 0)]) Iu rfl ⟨2, 1, [Dk], rfl, (mQ (h.eD 5 rfl).one), rfl, bH rfl, rfl⟩) ?_
 replace h := h.freeze 5 rfl
 refine mX (R := dM) (vs := [(.agg #[(I6 0), (I6 0), Dk, (I6 0)])]) (xs := [(⟨0, 0, (List.replicate x6.regs.toNat (⟨0, 0⟩ : Val)), 0⟩ : LX.Frame)]) h 6 vC rfl rfl rfl ⟨⟨_, rfl, (h.gy 5 rfl)⟩, trivial⟩ rfl fun w G6 h => aa (fE (pv := [(0, G6)]) (out := [G6, (.slice none 0 0), (I6 0), (I6 0)]) qf rfl ⟨0, 1, [G6], rfl, (mQ (h.eD 6 rfl).one), rfl, bH rfl, rfl⟩) (dN (vs := [G6, (.slice none 0 0), (I6 0), (I6 0)]) h 2 [G6, (.slice none 0 0), (I6 0), (I6 0)] rfl bM rfl rfl rfl rfl rfl (ai (h.eD 6 rfl).one (ai rfl (ai rfl (ai rfl aS)))) fun w h => aa (ae (v := (I6 0)) rfl) (nR (tO (vs := [G6, (.slice none 0 0), (I6 0), (I6 0)]) (v2 := (I6 0)) Tryz.results29 rfl rfl h 2 rfl bM rfl ?_)))
 replace h := h.freeze 6 rfl
 obtain rfl := gK hs
 exact ⟨h.grown, _, _, rfl, h.MQ 6 rfl, fK.nil⟩
def dH (a : Val) (b : Int) : Int :=
  bif decide ((a.kind : Int) = 0) then bif decide ((a.n : Int) ≠ 0) then 4 else 0 else bif decide ((a.kind : Int) = 1) then bif (decide ((a.n : Int) < -1000000000) || decide ((1000000000 : Int) < a.n)) then 3 else 0 else bif decide ((a.kind : Int) = 2) then bif (decide ((a.n : Int) < 0) || decide ((b : Int) ≤ a.n)) then 5 else 0 else 4
theorem Bz (w0 : World) (M : BS) (hM : ∀ b, M b → b < w0.heap.size) (a : Val) (b : Int) (r : Int) (hs : dH a b = r) :
    Calls Tryz.prog 81 #[(.agg #[(I6 a.kind), (I6 a.n)]), (I6 b)] w0 (fun e w' => Grow w0 w' ∧ e = .returned (.int .i64 r)) := by
 refine aL (args := [(.agg #[(I6 a.kind), (I6 a.n)]), (I6 b)]) Tryz.func81 rfl Tryz.ntmps81 (bH rfl) ?_
 have h := SH.init hM
 refine nG (l7 (cs := [(I6 a.kind), (I6 a.n)]) h 1 rfl rfl fun w b1 h => aa (ae (v := (I6 0)) rfl) (nK (aa (ah rV rfl) (aa (aB h 1 rfl aP rfl rfl) (nN (aH (nG (aa (bW rfl rfl) (aa (ae (v := (.bool (decide ((a.kind : Int) = 0)))) rfl) (nN (aK hs rfl (fun c2 hs => ?_) (fun c2 hs => ?_))))))))))))
 refine nG (aa (ah jF rfl) (aa (aB h 1 rfl aP rfl rfl) (aa (gV rfl rfl) (nN (aK hs rfl (fun c3 hs => ?_) (fun c3 hs => ?_))))))
 refine nG (aa (ae (v := (I6 4)) rfl) (nR (aD (ax (bI (v := (I6 4)) Tryz.results81 rfl ?_)))))
 obtain rfl := hs
 exact ⟨h.grown, rfl⟩
 refine aG (au (aj (nG (aa (ae (v := (I6 0)) rfl) (nR (bI (v := (I6 0)) Tryz.results81 rfl ?_))))))
 obtain rfl := hs
 exact ⟨h.grown, rfl⟩
 refine nG (aa (bW rfl rfl) (aa (ae (v := (.bool (decide ((a.kind : Int) = 1)))) rfl) (nN (aK hs rfl (fun c4 hs => ?_) (fun c4 hs => ?_)))))
 refine nG (aa (ah jF rfl) (aa (aB h 1 rfl aP rfl rfl) (aa (dK rfl rfl) (aa (ag (v := (.bool (decide ((a.n : Int) < -1000000000)))) rfl) (az rfl rfl (fun q => ah jF rfl) (az rfl rfl (fun q => aB h 1 rfl aP (dE q) rfl) (az rfl rfl (fun q => jK (dE q) rfl) (aa (iO rfl rfl lW) (nN (aK hs rfl (fun c5 hs => ?_) (fun c5 hs => ?_)))))))))))
 refine nG (aa (ae (v := (I6 3)) rfl) (nR (aD (ax (bI (v := (I6 3)) Tryz.results81 rfl ?_)))))
 obtain rfl := hs
 exact ⟨h.grown, rfl⟩
 refine aG (au (aj (nG (aa (ae (v := (I6 0)) rfl) (nR (bI (v := (I6 0)) Tryz.results81 rfl ?_))))))
 obtain rfl := hs
 exact ⟨h.grown, rfl⟩
 refine nG (aa (bW rfl rfl) (aa (ae (v := (.bool (decide ((a.kind : Int) = 2)))) rfl) (nN (aK hs rfl (fun c6 hs => ?_) (fun c6 hs => ?_)))))
 refine nG (aa (ah jF rfl) (aa (aB h 1 rfl aP rfl rfl) (aa (dK rfl rfl) (aa (ag (v := (.bool (decide ((a.n : Int) < 0)))) rfl) (az rfl rfl (fun q => ah jF rfl) (az rfl rfl (fun q => aB h 1 rfl aP (dE q) rfl) (az rfl rfl (fun q => ag (v := (I6 b)) rfl) (az rfl rfl (fun q => qE (dE q) (dE q)) (aa (iO rfl rfl lW) (nN (aK hs rfl (fun c7 hs => ?_) (fun c7 hs => ?_))))))))))))
 refine nG (aa (ae (v := (I6 5)) rfl) (nR (aD (ax (bI (v := (I6 5)) Tryz.results81 rfl ?_)))))
 obtain rfl := hs
 exact ⟨h.grown, rfl⟩
 refine aG (au (aj (nG (aa (ae (v := (I6 0)) rfl) (nR (bI (v := (I6 0)) Tryz.results81 rfl ?_))))))
 obtain rfl := hs
 exact ⟨h.grown, rfl⟩
 refine nG (aa (ae (v := (I6 4)) rfl) (nR (aD (ax (bI (v := (I6 4)) Tryz.results81 rfl ?_)))))
 obtain rfl := hs
 exact ⟨h.grown, rfl⟩
def iR (a : List (List Val)) (yn : Val) (s : Unit) (Ud : Unit → Int) : Int :=
  bif decide (((dH yn (a.length : Int)) : Int) ≠ 0) then (dH yn (a.length : Int)) else Ud ()
def iC (D5 : Unit → Int) (s : Unit) : Int :=
  D5 ()
def jG (a : List (List Val)) (x4 : List Val) (s : Unit) (D5 : Unit → Int) : Int :=
  bif (decide (((x4.length : Int) : Int) = 0) || decide ((4 : Int) < (x4.length : Int))) then 2 else each (iR a) (iC D5) x4 ()
def iT (s : Unit) : Int :=
  0
def eT (a : List (List Val)) : Int :=
  bif decide ((24 : Int) < (a.length : Int)) then 2 else each (jG a) iT a ()
theorem BR (w0 : World) (M : BS) (hM : ∀ b, M b → b < w0.heap.size) (va : Value) (a : List (List Val)) (ha : fK (kW aY) w0 BE M va a) (r : Int) (hs : eT a = r) :
    Calls Tryz.prog 80 #[va] w0 (fun e w' => Grow w0 w' ∧ e = .returned (.int .i64 r)) := by
 refine aL (args := [va]) Tryz.func80 rfl Tryz.ntmps80 (bH rfl) ?_
 have h := SH.init hM
 replace h := h.eu 1 ha aT
 have tQ := ha.bD
 refine nG (aa (ae (v := (I6 0)) rfl) (nK (aa (ag (v := va) rfl) (aa (aX dO rfl (h.fQ 1 rfl)) (aa (jK rfl rfl) (nN (aK hs rfl (fun c1 hs => ?_) (fun c1 hs => ?_))))))))
 refine nG (aa (ae (v := (I6 2)) rfl) (nR (ax (bI (v := (I6 2)) Tryz.results80 rfl ?_))))
 obtain rfl := hs
 exact ⟨h.grown, rfl⟩
 refine aG (aj (aJ (nG (aa (ag (v := va) rfl) (aa (aX dO rfl (h.fQ 1 rfl)) (aa (ag (v := (I6 0)) rfl) (nN (aH (eF (σ := Nat × Int) (inl ([2, 4, 6, 7] ++ rg 13 27)) (fun ⟨k2, i3⟩ => [(13, (I6 i3))]) (fun ⟨k2, i3⟩ w => SH w0 M BE w (hset [(1, .sr (kW aY) va a)]) ∧ i3 = (k2 : Int) ∧ each (jG a) iT (a.drop k2) () = r) (fun ⟨k2, i3⟩ => a.length - k2) ⟨0, 0⟩ ⟨rfl, trivial⟩ ?_ ?_)))))))))
 exact ⟨h.cn _, rfl, hs⟩
 rintro ⟨k2, i3⟩ w dC ⟨h, hik, hs⟩
 refine nG ?_
 refine aa (dK rfl rfl) (nN ?_)
 refine aJ (fD rfl (fun e7 => ?_) (fun e7 => ?_))
 refine aG (aj ?_)
 obtain ⟨x4, Xd, Xe⟩ := eU (hik ▸ e7)
 rw [Xe, df] at hs
 generalize D6 : each (jG a) iT (a.drop (k2 + 1)) = D5 at hs
 have OZ := eZ ((h.fQ 1 rfl)).bD hik e7
 refine aJ (aH (nG ?_))
 obtain ⟨b10, o11, Xf, h, Xg, i9⟩ := h.vo 1 2 rfl dO rfl (gB hik) (eY hik Xd)
 obtain ⟨G5, rfl, g15⟩ := Xg
 replace h := h.bK 3 g15.up
 refine aa (i9 _ _ _ _ _ _ _ _ _ rfl rfl) (aa (eQ (k := 0) h 2 rfl kr rfl rfl) (aa (ae (v := G5) rfl) (nK (aa (ag (v := G5) rfl) (aa (aX di rfl (h.lF 3 rfl)) (aa (bW rfl rfl) (aa (ag (v := (.bool (decide (((x4.length : Int) : Int) = 0)))) rfl) (az rfl rfl (fun q => ag (v := G5) rfl) (az rfl rfl (fun q => aX di (dE q) (h.lF 3 rfl)) (az rfl rfl (fun q => jK (dE q) rfl) (aa (iO rfl rfl lW) (nN (aK hs rfl (fun c16 hs => ?_) (fun c16 hs => ?_))))))))))))))
 refine nG (aa (ae (v := (I6 2)) rfl) (nR (ax (aD (ax (ax (aD (ax (bI (v := (I6 2)) Tryz.results80 rfl ?_)))))))))
 obtain rfl := hs
 exact ⟨h.grown, rfl⟩
 refine nS (aa (ag (v := G5) rfl) (aa (aX di rfl (h.lF 3 rfl)) (aa (ag (v := (I6 0)) rfl) (nN (aH (eF (σ := Nat × Int) (inl ([2, 6, 7] ++ rg 27 12)) (fun ⟨k17, i18⟩ => [(27, (I6 i18))]) (fun ⟨k17, i18⟩ w => SH w0 M BE w (hset [(1, .sr (kW aY) va a), (3, .rd aY G5 x4)]) ∧ i18 = (k17 : Int) ∧ each (iR a) (iC D5) (x4.drop k17) () = r) (fun ⟨k17, i18⟩ => x4.length - k17) ⟨0, 0⟩ ⟨rfl, trivial⟩ ?_ ?_))))))
 exact ⟨h.cn _, rfl, hs⟩
 rintro ⟨k17, i18⟩ w dC ⟨h, hik, hs⟩
 refine nG ?_
 refine aa (dK rfl rfl) (nN ?_)
 refine aJ (fD rfl (fun e22 => ?_) (fun e22 => ?_))
 refine aG (aj ?_)
 obtain ⟨yn, e23a, e23b⟩ := eU (hik ▸ e22)
 rw [e23b, df] at hs
 generalize Ue : each (iR a) (iC D5) (x4.drop (k17 + 1)) = Ud at hs
 have e23r := eZ ((h.lF 3 rfl)).bD hik e22
 refine aJ (aH (nG ?_))
 obtain ⟨b25, o26, cs27, h, r28, i24⟩ := h.FH 3 4 rfl di rfl (gB hik) (eY hik e23a)
 obtain rfl := r28
 refine aa (i24 _ _ _ _ _ _ _ _ _ rfl rfl) (aa (iD (k := 0) (vs := [(I6 yn.kind), (I6 yn.n)]) h 4 rfl dR rfl rfl rfl (bH rfl)) (bu h 5 dR fun w b29 h => dN (vs := [(I6 yn.kind), (I6 yn.n)]) h 5 [(I6 yn.kind), (I6 yn.n)] rfl dR rfl rfl rfl rfl rfl (ai rfl (ai rfl aS)) fun w h => nJ (aa (eB (vs := [(I6 yn.kind), (I6 yn.n)]) h 5 rfl dR rfl rfl rfl) (aa (ag (v := va) rfl) (aa (aX dO rfl (h.fQ 1 rfl)) (aO OW rfl rfl (Bz _ _ h.lt yn (a.length : Int) _ rfl) ?_))))))
 rintro _ w ⟨k30, rfl⟩
 refine ⟨_, rfl, ?_⟩
 replace h := h.grow k30
 refine aa (ae (v := (I6 ((dH yn (a.length : Int))))) rfl) (nJ (aa (ag (v := (I6 ((dH yn (a.length : Int))))) rfl) (aa (gV rfl rfl) (nN (aK hs rfl (fun c31 hs => ?_) (fun c31 hs => ?_))))))
 refine nG (aa (ag (v := (I6 ((dH yn (a.length : Int))))) rfl) (aa (ae (v := (I6 ((dH yn (a.length : Int))))) rfl) (nR (aD (ax (ax (aD (aD (ax (ax (aD (ax (bI (v := (I6 ((dH yn (a.length : Int))))) Tryz.results80 rfl ?_)))))))))))))
 obtain rfl := hs
 exact ⟨h.grown, rfl⟩
 refine aG (au (aj (ay (aa (dz rfl rfl e23r) (aa (ag (v := (I6 ((i18 + 1)))) rfl) (aC (ak ?_)))))))
 subst Ue
 exact iw ⟨k17 + 1, i18 + 1⟩ ⟨h.cn _, by omega, hs⟩ (by have := kQ e22; dsimp only; omega)
 rw [eX (hik ▸ e22), dZ] at hs
 refine iI (bC (bC (dV (au (aj (ay (aa (dz rfl rfl OZ) (aa (ag (v := (I6 ((i3 + 1)))) rfl) (aC (ak ?_))))))))))
 subst D6
 exact iw ⟨k2 + 1, i3 + 1⟩ ⟨h.cn _, by omega, hs⟩ (by have := kQ e7; dsimp only; omega)
 rw [eX (hik ▸ e7), dZ] at hs
 refine nE (aa (ae (v := (I6 0)) rfl) (nR (bI (v := (I6 0)) Tryz.results80 rfl ?_)))
 obtain rfl := hs
 exact ⟨h.grown, rfl⟩
def pz (b : LX.State) (x38 : Val) (s : Unit) (UL : Unit → Option Int) : Option Int :=
  bif decide (((dH x38 (b.cells.length : Int)) : Int) ≠ 0) then some (dH x38 (b.cells.length : Int)) else UL ()
def pE (IQ : Unit → Option Int) (s : Unit) : Option Int :=
  IQ ()
def tF (x9 : LX.Frame) (mZ : cz) (b : LX.State) (IQ : Unit → Option Int) (ED : Bool) : Option Int :=
  bif ED then some 3 else bif decide (((x9.regs.length : Int) : Int) ≠ mZ.regs) then some 4 else each (pz b) (pE IQ) x9.regs ()
def tH (a : List cz) (b : LX.State) (i8 : Int) (x9 : LX.Frame) (s : Unit) (IQ : Unit → Option Int) : Option Int :=
  bif (decide ((x9.proc : Int) < 0) || decide (((a.length : Int) : Int) ≤ x9.proc)) then some 5 else (idx a x9.proc).bind fun mZ => bif (((decide ((x9.at_ : Int) < 0) || decide (((mZ.code.length : Int) : Int) ≤ x9.at_)) || decide ((x9.ja : Int) < 0)) || (decide ((i8 : Int) = 0) && decide ((x9.ja : Int) ≠ 0))) then tF x9 mZ b IQ true else bif decide ((0 : Int) < i8) then iA (jN (i8 - 1)) ((idx b.frames (i8 - 1)).bind fun x54 => tF x9 mZ b IQ (decide (((x54.regs.length : Int) : Int) ≤ x9.ja))) else tF x9 mZ b IQ false
def vV (s : Unit) : Option Int :=
  some 0
def yO (a : List cz) (b : LX.State) : Option Int :=
  bif (((decide ((b.status : Int) < 0) || decide ((3 : Int) < b.status)) || decide ((b.bB : Int) < -1000000000)) || decide ((1000000000 : Int) < b.bB)) then some 3 else bif ((decide ((b.status : Int) ≠ 3) && decide ((b.bB : Int) ≠ 0)) || (decide ((b.status : Int) = 1) != decide (((b.frames.length : Int) : Int) = 0))) then some 4 else bif decide ((10 : Int) < (b.frames.length : Int)) then some 2 else bif decide (((eT b.cells) : Int) ≠ 0) then some (eT b.cells) else dQ (tH a b) vV 0 b.frames ()
theorem Pv (w0 : World) (M : BS) (hM : ∀ b, M b → b < w0.heap.size) (va : Value) (a : List cz) (ha : fK jE w0 BE M va a) (b : LX.State) (vb0 vb1 : Value) (hb0 : fK dM w0 BE M vb0 b.frames) (hb1 : fK (kW aY) w0 BE M vb1 b.cells) (r : Int) (hs : yO a b = some r) :
    Calls Tryz.prog 64 #[va, (.agg #[vb0, vb1, (I6 b.status), (I6 b.bB)])] w0 (fun e w' => Grow w0 w' ∧ e = .returned (.int .i64 r)) := by
 refine aL (args := [va, (.agg #[vb0, vb1, (I6 b.status), (I6 b.bB)])]) Tryz.func64 rfl Tryz.ntmps64 (bH rfl) ?_
 have h := SH.init hM
 replace h := h.eu 1 ha aT
 replace h := h.eu 2 hb0 (aW aT)
 replace h := h.eu 3 hb1 (aW (aW aT))
 have tQ := ha.bD
 refine nG (l7 (cs := [vb0, vb1, (I6 b.status), (I6 b.bB)]) h 4 rfl rfl fun w b1 h => aa (ae (v := (I6 0)) rfl) (nK (aa (ah qI rfl) (aa (aB h 4 rfl aP rfl rfl) (aa (dK rfl rfl) (aa (ag (v := (.bool (decide ((b.status : Int) < 0)))) rfl) (az rfl rfl (fun q => ah qI rfl) (az rfl rfl (fun q => aB h 4 rfl aP (dE q) rfl) (az rfl rfl (fun q => jK (dE q) rfl) (aa (iO rfl rfl lW) (aa (ag (v := (.bool ((decide ((b.status : Int) < 0) || decide ((3 : Int) < b.status))))) rfl) (az rfl rfl (fun q => ah sZ rfl) (az rfl rfl (fun q => aB h 4 rfl aP (dE q) rfl) (az rfl rfl (fun q => dK (dE q) rfl) (aa (iO rfl rfl lW) (aa (ag (v := (.bool (((decide ((b.status : Int) < 0) || decide ((3 : Int) < b.status)) || decide ((b.bB : Int) < -1000000000))))) rfl) (az rfl rfl (fun q => ah sZ rfl) ?_)))))))))))))))))
 refine az rfl rfl (fun q => aB h 4 rfl aP (dE q) rfl) (az rfl rfl (fun q => jK (dE q) rfl) (aa (iO rfl rfl lW) (nN (aK hs rfl (fun c2 hs => ?_) (fun c2 hs => ?_)))))
 refine nG (aa (ae (v := (I6 3)) rfl) (nR (ax (bI (v := (I6 3)) Tryz.results64 rfl ?_))))
 obtain rfl := gK hs
 exact ⟨h.grown, rfl⟩
 refine aG (aj (aJ (nG (aa (ah qI rfl) (aa (aB h 4 rfl aP rfl rfl) (aa (gV rfl rfl) (aa (ag (v := (.bool (decide ((b.status : Int) ≠ 3)))) rfl) (az rfl rfl (fun q => ah sZ rfl) (az rfl rfl (fun q => aB h 4 rfl aP (dE q) rfl) (az rfl rfl (fun q => gV (dE q) rfl) (aa (fB rfl rfl lW) (aa (ag (v := (.bool ((decide ((b.status : Int) ≠ 3) && decide ((b.bB : Int) ≠ 0))))) rfl) (az rfl rfl (fun q => ah qI rfl) (az rfl rfl (fun q => aB h 4 rfl aP (dE q) rfl) (az rfl rfl (fun q => bW (dE q) rfl) (az rfl rfl (fun q => ah gQ rfl) (az rfl rfl (fun q => aB h 4 rfl lJ (dE q) rfl) (az rfl rfl (fun q => aX dI (dE q) (h.fQ 2 rfl)) (az rfl rfl (fun q => bW (dE q) rfl) (az rfl rfl (fun q => YL Tryz.underlying4 (dE q) (dE q)) (aa (iO rfl rfl lW) (aC ?_))))))))))))))))))))))
 refine aj (aK hs rfl (fun c3 hs => ?_) (fun c3 hs => ?_))
 refine nG (aa (ae (v := (I6 4)) rfl) (nR (ax (bI (v := (I6 4)) Tryz.results64 rfl ?_))))
 obtain rfl := gK hs
 exact ⟨h.grown, rfl⟩
 refine aG (aj (aJ (nG (aa (ah gQ rfl) (aa (aB h 4 rfl lJ rfl rfl) (aa (aX dI rfl (h.fQ 2 rfl)) (aa (jK rfl rfl) (nN (aK hs rfl (fun c4 hs => ?_) (fun c4 hs => ?_))))))))))
 refine nG (aa (ae (v := (I6 2)) rfl) (nR (ax (bI (v := (I6 2)) Tryz.results64 rfl ?_))))
 obtain rfl := gK hs
 exact ⟨h.grown, rfl⟩
 refine aG (aj (aJ (nG (aa (ah gL rfl) (aa (aB h 4 rfl jL rfl rfl) (aO TZ rfl rfl (BR _ _ h.lt vb1 b.cells (h.fQ 3 rfl) _ rfl) ?_))))))
 rintro _ w ⟨k5, rfl⟩
 refine ⟨_, rfl, ?_⟩
 replace h := h.grow k5
 refine aa (ae (v := (I6 ((eT b.cells)))) rfl) (nJ (aa (ag (v := (I6 ((eT b.cells)))) rfl) (aa (gV rfl rfl) (nN (aK hs rfl (fun c6 hs => ?_) (fun c6 hs => ?_))))))
 refine nG (aa (ag (v := (I6 ((eT b.cells)))) rfl) (aa (ae (v := (I6 ((eT b.cells)))) rfl) (nR (ax (bI (v := (I6 ((eT b.cells)))) Tryz.results64 rfl ?_)))))
 obtain rfl := gK hs
 exact ⟨h.grown, rfl⟩
 refine aG (aj (aJ (nG (aa (ah gQ rfl) (aa (aB h 4 rfl lJ rfl rfl) (aa (aX dI rfl (h.fQ 2 rfl)) (aa (ag (v := (I6 0)) rfl) (nN (aH (eF (σ := Nat × Int) (inl ([4, 6, 7, 8, 10, 11] ++ rg 61 85)) (fun ⟨k7, i8⟩ => [(61, (I6 i8))]) (fun ⟨k7, i8⟩ w => SH w0 M BE w (hset [(1, .sr jE va a), (2, .sr dM vb0 b.frames), (3, .sr (kW aY) vb1 b.cells), (4, .blk b1 [vb0, vb1, (I6 b.status), (I6 b.bB)])]) ∧ i8 = (k7 : Int) ∧ dQ (tH a b) vV i8 (b.frames.drop k7) () = some r) (fun ⟨k7, i8⟩ => b.frames.length - k7) ⟨0, 0⟩ ⟨rfl, trivial⟩ ?_ ?_))))))))))
 exact ⟨h.cn _, rfl, hs⟩
 rintro ⟨k7, i8⟩ w dC ⟨h, hik, hs⟩
 refine nG ?_
 refine aa (dK rfl rfl) (nN ?_)
 refine aJ (fD rfl (fun e12 => ?_) (fun e12 => ?_))
 refine aG (aj ?_)
 obtain ⟨x9, aaa, aab⟩ := eU (hik ▸ e12)
 rw [aab, jC] at hs
 generalize hnx11 : dQ (tH a b) vV (i8 + 1) (b.frames.drop (k7 + 1)) = IQ at hs
 have e13r := eZ ((h.fQ 2 rfl)).bD hik e12
 refine aJ (aH (nG (aa (ag (v := (I6 i8)) rfl) ?_)))
 obtain ⟨b15, o16, cs17, h, r18, i14⟩ := h.vo 2 5 rfl dI rfl (gB hik) (eY hik aaa)
 obtain ⟨Nc, rfl, g20⟩ := mU r18
 replace h := h.bK 6 g20.up
 refine aa (i14 _ _ _ _ _ _ _ _ _ rfl rfl) (aa (iD (k := 0) (vs := [(I6 x9.proc), (I6 x9.at_), Nc, (I6 x9.ja)]) h 5 rfl fF rfl rfl rfl (bH rfl)) (bu h 7 fF fun w Iy h => aa (ae (v := (I6 i8)) rfl) (dN (vs := [(I6 x9.proc), (I6 x9.at_), Nc, (I6 x9.ja)]) h 7 [(I6 x9.proc), (I6 x9.at_), Nc, (I6 x9.ja)] rfl fF rfl rfl rfl rfl rfl (ai rfl (ai rfl (ai (h.gy 6 rfl).one (ai rfl aS)))) fun w h => nK (aa (ah tq rfl) (aa (aB h 7 rfl aP rfl rfl) (aa (dK rfl rfl) (aa (ag (v := (.bool (decide ((x9.proc : Int) < 0)))) rfl) (az rfl rfl (fun q => ah tq rfl) (az rfl rfl (fun q => aB h 7 rfl aP (dE q) rfl) (az rfl rfl (fun q => ag (v := va) rfl) (az rfl rfl (fun q => aX iM (dE q) (h.fQ 1 rfl)) (az rfl rfl (fun q => qE (dE q) (dE q)) (aa (iO rfl rfl lW) (nN (aK hs rfl (fun c22 hs => ?_) (fun c22 hs => ?_))))))))))))))))
 refine nG (aa (ae (v := (I6 5)) rfl) (nR (ax (aD (ax (ax (aD (ax (bI (v := (I6 5)) Tryz.results64 rfl ?_)))))))))
 obtain rfl := gK hs
 exact ⟨h.grown, rfl⟩
 refine nS (aa (ag (v := va) rfl) (aa (ah tq rfl) (aa (aB h 7 rfl aP rfl rfl) ?_)))
 obtain ⟨mZ, e24, hs⟩ := aM hs
 obtain ⟨ZB, o27, Xr, h, Xt, i25⟩ := h.vo 1 8 rfl iM rfl (aR e24).1 (aR e24).2
 obtain ⟨u30, rfl, g31⟩ := pR Xt
 replace h := h.bK 9 g31.up
 refine aa (i25 _ _ _ _ _ _ _ _ _ rfl rfl) (aa (iD (k := 0) (vs := [(I6 mZ.params), (I6 mZ.regs), u30]) h 8 rfl qL rfl rfl rfl (bH rfl)) (bu h 10 qL fun w b32 h => dN (vs := [(I6 mZ.params), (I6 mZ.regs), u30]) h 10 [(I6 mZ.params), (I6 mZ.regs), u30] rfl qL rfl rfl rfl rfl rfl (ai rfl (ai rfl (ai (h.gy 9 rfl).one aS))) fun w h => nN (aJ (dm (σ := Bool) (inl (rg 81 42)) (fun ED => [(98, (gv (((decide ((x9.at_ : Int) < 0) || decide (((mZ.code.length : Int) : Int) ≤ x9.at_)) || decide ((x9.ja : Int) < 0)) == false) (I6 i8))), (100, (gv (((decide ((x9.at_ : Int) < 0) || decide (((mZ.code.length : Int) : Int) ≤ x9.at_)) || decide ((x9.ja : Int) < 0)) == false) (.bool (decide ((i8 : Int) = 0))))), (122, (.bool (ED)))]) (fun ED w => SH w0 M BE w (hset [(1, .sr jE va a), (2, .sr dM vb0 b.frames), (3, .sr (kW aY) vb1 b.cells), (4, .blk b1 [vb0, vb1, (I6 b.status), (I6 b.bB)]), (6, .rd aY Nc x9.regs), (7, .blk Iy [(I6 x9.proc), (I6 x9.at_), Nc, (I6 x9.ja)]), (9, .rd jH u30 mZ.code), (10, .blk b32 [(I6 mZ.params), (I6 mZ.regs), u30])]) ∧ tF x9 mZ b IQ ED = some r) ?_ ?_))))
 rintro ED w dC ⟨h, hs⟩
 refine aK hs rfl (fun c34 hs => ?_) (fun c34 hs => ?_)
 refine nG (aa (ae (v := (I6 3)) rfl) (nR (ax (aD (ax (ax (aD (ax (bI (v := (I6 3)) Tryz.results64 rfl ?_)))))))))
 obtain rfl := gK hs
 exact ⟨h.grown, rfl⟩
 refine aG (aj (aJ (nG (aa (ah ko rfl) (aa (aB h 7 rfl kr rfl rfl) (aa (aX di rfl (h.lF 6 rfl)) (aa (ah wT rfl) (aa (aB h 10 rfl aP rfl rfl) (aa (gV rfl rfl) (nN (aK hs rfl (fun Xl hs => ?_) (fun Xl hs => ?_))))))))))))
 refine nG (aa (ae (v := (I6 4)) rfl) (nR (ax (aD (ax (ax (aD (ax (bI (v := (I6 4)) Tryz.results64 rfl ?_)))))))))
 obtain rfl := gK hs
 exact ⟨h.grown, rfl⟩
 refine nS (aa (ah ko rfl) (aa (aB h 7 rfl kr rfl rfl) (aa (aX di rfl (h.lF 6 rfl)) (aa (ag (v := (I6 0)) rfl) (nN (aH (eF (σ := Nat × Int) (inl ([4, 10, 11] ++ rg 132 13)) (fun ⟨Yi, i37⟩ => [(132, (I6 i37))]) (fun ⟨Yi, i37⟩ w => SH w0 M BE w (hset [(1, .sr jE va a), (2, .sr dM vb0 b.frames), (3, .sr (kW aY) vb1 b.cells), (4, .blk b1 [vb0, vb1, (I6 b.status), (I6 b.bB)]), (6, .rd aY Nc x9.regs)]) ∧ i37 = (Yi : Int) ∧ each (pz b) (pE IQ) (x9.regs.drop Yi) () = some r) (fun ⟨Yi, i37⟩ => x9.regs.length - Yi) ⟨0, 0⟩ ⟨rfl, trivial⟩ ?_ ?_)))))))
 exact ⟨h.cn _, rfl, hs⟩
 rintro ⟨Yi, i37⟩ w dC ⟨h, hik, hs⟩
 refine nG ?_
 refine aa (dK rfl rfl) (nN ?_)
 refine aJ (fD rfl (fun e41 => ?_) (fun e41 => ?_))
 refine aG (aj ?_)
 obtain ⟨x38, e42a, e42b⟩ := eU (hik ▸ e41)
 rw [e42b, df] at hs
 generalize UM : each (pz b) (pE IQ) (x9.regs.drop (Yi + 1)) = UL at hs
 have e42r := eZ ((h.lF 6 rfl)).bD hik e41
 refine aJ (aH (nG ?_))
 obtain ⟨OA, o45, cs46, h, r47, i43⟩ := h.FH 6 11 rfl di rfl (gB hik) (eY hik e42a)
 obtain rfl := r47
 refine aa (i43 _ _ _ _ _ _ _ _ _ rfl rfl) (aa (iD (k := 0) (vs := [(I6 x38.kind), (I6 x38.n)]) h 11 rfl dR rfl rfl rfl (bH rfl)) (bu h 12 dR fun w b48 h => dN (vs := [(I6 x38.kind), (I6 x38.n)]) h 12 [(I6 x38.kind), (I6 x38.n)] rfl dR rfl rfl rfl rfl rfl (ai rfl (ai rfl aS)) fun w h => nJ (aa (eB (vs := [(I6 x38.kind), (I6 x38.n)]) h 12 rfl dR rfl rfl rfl) (aa (ah gL rfl) (aa (aB h 4 rfl jL rfl rfl) (aa (aX dO rfl (h.fQ 3 rfl)) (aO OW rfl rfl (Bz _ _ h.lt x38 (b.cells.length : Int) _ rfl) ?_)))))))
 rintro _ w ⟨Wp, rfl⟩
 refine ⟨_, rfl, ?_⟩
 replace h := h.grow Wp
 refine aa (ae (v := (I6 ((dH x38 (b.cells.length : Int))))) rfl) (nJ (aa (ag (v := (I6 ((dH x38 (b.cells.length : Int))))) rfl) (aa (gV rfl rfl) (nN (aK hs rfl (fun c50 hs => ?_) (fun c50 hs => ?_))))))
 refine nG (aa (ag (v := (I6 ((dH x38 (b.cells.length : Int))))) rfl) (aa (ae (v := (I6 ((dH x38 (b.cells.length : Int))))) rfl) (nR (aD (ax (ax (aD (aD (ax (ax (aD (ax (bI (v := (I6 ((dH x38 (b.cells.length : Int))))) Tryz.results64 rfl ?_)))))))))))))
 obtain rfl := gK hs
 exact ⟨h.grown, rfl⟩
 refine aG (au (aj (ay (aa (dz rfl rfl e42r) (aa (ag (v := (I6 ((i37 + 1)))) rfl) (aC (ak ?_)))))))
 subst UM
 exact iw ⟨Yi + 1, i37 + 1⟩ ⟨h.cn _, by omega, hs⟩ (by have := kQ e41; dsimp only; omega)
 rw [eX (hik ▸ e41), dZ] at hs
 refine iI (bC (bC (dV (au (aj (ay (aa (dz rfl rfl e13r) (aa (ag (v := (I6 ((i8 + 1)))) rfl) (aC (ak ?_))))))))))
 subst hnx11
 exact iw ⟨k7 + 1, i8 + 1⟩ ⟨h.cn _, by omega, hs⟩ (by have := kQ e12; dsimp only; omega)
 refine H9 mixed (by kernel_rfl) h fun w h => fM (ah vD rfl) (fM (aB h 7 rfl aP rfl rfl) (fM (dK rfl rfl) (fM (ag (v := (.bool (decide ((x9.at_ : Int) < 0)))) rfl) (wK rfl rfl (fun q => ah vD rfl) (wK rfl rfl (fun q => aB h 7 rfl aP (dE q) rfl) (wK rfl rfl (fun q => ah qJ rfl) (wK rfl rfl (fun q => aB h 10 rfl yM (dE q) rfl) (wK rfl rfl (fun q => aX iU (dE q) (h.lF 9 rfl)) (wK rfl rfl (fun q => qE (dE q) (dE q)) (fM (iO rfl rfl lW) (fM (ag (v := (.bool ((decide ((x9.at_ : Int) < 0) || decide (((mZ.code.length : Int) : Int) ≤ x9.at_))))) rfl) (wK rfl rfl (fun q => ah uw rfl) (wK rfl rfl (fun q => aB h 7 rfl aP (dE q) rfl) (wK rfl rfl (fun q => dK (dE q) rfl) (fM (iO rfl rfl lW) (fM (ag (v := (.bool (((decide ((x9.at_ : Int) < 0) || decide (((mZ.code.length : Int) : Int) ≤ x9.at_)) || decide ((x9.ja : Int) < 0))))) rfl) (wK rfl rfl (fun q => ag (v := (I6 i8)) rfl) (wK rfl rfl (fun q => bW (dE q) rfl) (wK rfl rfl (fun q => ag (v := (.bool (decide ((i8 : Int) = 0)))) (dE q)) (Qn (((decide ((x9.at_ : Int) < 0) || decide (((mZ.code.length : Int) : Int) ≤ x9.at_)) || decide ((x9.ja : Int) < 0)) == false) rfl rfl (fun q => ah uw rfl) (Qn (((decide ((x9.at_ : Int) < 0) || decide (((mZ.code.length : Int) : Int) ≤ x9.at_)) || decide ((x9.ja : Int) < 0)) == false) rfl rfl (fun q => aB h 7 rfl aP (dE q) rfl) (Qn (((decide ((x9.at_ : Int) < 0) || decide (((mZ.code.length : Int) : Int) ≤ x9.at_)) || decide ((x9.ja : Int) < 0)) == false) rfl rfl (fun q => gV (dE q) rfl) ?_))))))))))))))))))))))
 refine wK rfl rfl (fun q => fB (dE q) (Qo q) lW) (fM (iO rfl rfl lW) (fM (ag (v := (.bool ((((decide ((x9.at_ : Int) < 0) || decide (((mZ.code.length : Int) : Int) ≤ x9.at_)) || decide ((x9.ja : Int) < 0)) || (decide ((i8 : Int) = 0) && decide ((x9.ja : Int) ≠ 0)))))) rfl) (jT (b := (((decide ((x9.at_ : Int) < 0) || decide (((mZ.code.length : Int) : Int) ≤ x9.at_)) || decide ((x9.ja : Int) < 0)) || (decide ((i8 : Int) = 0) && decide ((x9.ja : Int) ≠ 0)))) hs (fun c51 hs => ?_) (fun c51 hs => ?_))))
 refine tN (b' := true) rfl (cB c51) rfl (tN (b' := true) rfl (cB c51) rfl (tN (b' := true) rfl (cB c51) rfl (uq rfl rfl (uq rfl rfl (uq rfl rfl (uq rfl rfl (uq rfl rfl (uq rfl rfl (uq rfl rfl (uq rfl rfl (uq rfl rfl (uq rfl rfl (uq rfl rfl (tN (b' := true) rfl (cB c51) rfl (fM (eO (b := true) (v := (.bool (true))) (cB c51) rfl) (Ia (ak ?_)))))))))))))))))
 exact cO true ⟨h.cn _, hs⟩
 refine xe rfl (cB c51) (fM (ag (v := (I6 i8)) rfl) (xe rfl (cB c51) (fM (jK rfl rfl) (xe rfl (cB c51) (fM (ag (v := (.bool (decide ((0 : Int) < i8)))) rfl) (jT (b := decide ((0 : Int) < i8)) hs (fun D7 hs => ?_) (fun D7 hs => ?_)))))))
 refine xe rfl (cB D7) (fM (ah uw rfl) (xe rfl (cB D7) (fM (aB h 7 rfl aP rfl rfl) (xe rfl (cB D7) (fM (ah gQ rfl) (xe rfl (cB D7) (fM (aB h 4 rfl lJ rfl rfl) (xe rfl (cB D7) (fM (ag (v := (I6 i8)) rfl) (xe rfl (cB D7) ?_))))))))))
 obtain ⟨a53, hs⟩ := bE hs
 refine fM (tY rfl rfl a53) (xe rfl (cB D7) ?_)
 obtain ⟨x54, e55, hs⟩ := aM hs
 obtain ⟨b57, o58, cs59, h, r60, i56⟩ := h.vo 2 13 rfl dI rfl (aR e55).1 (aR e55).2
 obtain ⟨Xn, rfl, g62⟩ := mU r60
 replace h := h.bK 14 g62.up
 refine fM (i56 _ _ _ _ _ _ _ _ _ rfl rfl) (xe rfl (cB D7) (fM (ah ko rfl) (xe rfl (cB D7) (fM (eQ (k := 2) h 13 rfl kr rfl rfl) (xe rfl (cB D7) (fM (aX di rfl (h.lF 14 rfl)) (xe rfl (cB D7) (fM (qE rfl rfl) (xe rfl (cB c51) (fM (eO (b := true) (v := (.bool (decide (((x54.regs.length : Int) : Int) ≤ x9.ja)))) (cB D7) rfl) (fM (eO (b := false) (v := (.bool (decide (((x54.regs.length : Int) : Int) ≤ x9.ja)))) (cB c51) rfl) (Ia (ak ?_)))))))))))))
 exact cO (decide (((x54.regs.length : Int) : Int) ≤ x9.ja)) ⟨h.cn _, hs⟩
 refine tN (b' := false) rfl (cB D7) rfl (tN (b' := false) rfl (cB D7) rfl (tN (b' := false) rfl (cB D7) rfl (tN (b' := false) rfl (cB D7) rfl (tN (b' := false) rfl (cB D7) rfl (tN (b' := false) rfl (cB D7) rfl (tN (b' := false) rfl (cB D7) rfl (tN (b' := false) rfl (cB D7) rfl (tN (b' := false) rfl (cB D7) rfl (tN (b' := false) rfl (cB D7) rfl (tN (b' := false) rfl (cB D7) rfl (xe rfl (cB c51) (fM (eO (b := false) (v := (.bool (false))) (cB D7) rfl) (fM (eO (b := false) (v := (.bool (false))) (cB c51) rfl) (Ia (ak ?_)))))))))))))))
 exact cO false ⟨h.cn _, hs⟩
 rw [eX (hik ▸ e12), mY] at hs
 refine nE (aa (ae (v := (I6 0)) rfl) (nR (bI (v := (I6 0)) Tryz.results64 rfl ?_)))
 obtain rfl := gK hs
 exact ⟨h.grown, rfl⟩
def Aq (a : List cz) (b : LX.State) : Option Int :=
  (pW a).bind fun y2 => bif decide ((y2 : Int) ≠ 0) then some y2 else (yO a b).bind fun y6 => some y6
theorem IU (w0 : World) (M : BS) (hM : ∀ b, M b → b < w0.heap.size) (va : Value) (a : List cz) (ha : fK jE w0 BE M va a) (b : LX.State) (vb0 vb1 : Value) (hb0 : fK dM w0 BE M vb0 b.frames) (hb1 : fK (kW aY) w0 BE M vb1 b.cells) (r : Int) (hs : Aq a b = some r) :
    Calls Tryz.prog 27 #[va, (.agg #[vb0, vb1, (I6 b.status), (I6 b.bB)])] w0 (fun e w' => Grow w0 w' ∧ e = .returned (.int .i64 r)) := by
 refine aL (args := [va, (.agg #[vb0, vb1, (I6 b.status), (I6 b.bB)])]) Tryz.func27 rfl Tryz.ntmps27 (bH rfl) ?_
 have h := SH.init hM
 replace h := h.eu 1 ha aT
 replace h := h.eu 2 hb0 (aW aT)
 replace h := h.eu 3 hb1 (aW (aW aT))
 have tQ := ha.bD
 refine nG (l7 (cs := [vb0, vb1, (I6 b.status), (I6 b.bB)]) h 4 rfl rfl fun w b1 h => aa (ae (v := (I6 0)) rfl) (nK (aa (ag (v := va) rfl) ?_)))
 obtain ⟨y2, e3, hs⟩ := aM hs
 refine aO TW rfl rfl (Ff _ _ h.lt va a (h.fQ 1 rfl) _ e3) ?_
 rintro _ w ⟨k4, rfl⟩
 refine ⟨_, rfl, ?_⟩
 replace h := h.grow k4
 refine aa (ae (v := (I6 y2)) rfl) (nJ (aa (ag (v := (I6 y2)) rfl) (aa (gV rfl rfl) (nN (aK hs rfl (fun c5 hs => ?_) (fun c5 hs => ?_))))))
 refine nG (aa (ag (v := (I6 y2)) rfl) (aa (ae (v := (I6 y2)) rfl) (nR (ax (bI (v := (I6 y2)) Tryz.results27 rfl ?_)))))
 obtain rfl := gK hs
 exact ⟨h.grown, rfl⟩
 refine nS (aa (ag (v := va) rfl) (aa (eB (vs := [vb0, vb1, (I6 b.status), (I6 b.bB)]) h 4 rfl bM rfl rfl rfl) ?_))
 obtain ⟨y6, e7, hs⟩ := aM hs
 refine aO Zo rfl rfl (Pv _ _ h.lt va a (h.fQ 1 rfl) b vb0 vb1 (h.fQ 2 rfl) (h.fQ 3 rfl) _ e7) ?_
 rintro _ w ⟨k8, rfl⟩
 refine ⟨_, rfl, ?_⟩
 replace h := h.grow k8
 refine aa (ae (v := (I6 y6)) rfl) (nR (bI (v := (I6 y6)) Tryz.results27 rfl ?_))
 obtain rfl := gK hs
 exact ⟨h.grown, rfl⟩
theorem sG (w0 : World) (M : BS) (hM : ∀ b, M b → b < w0.heap.size) (va : Value) (a : List LX.Frame) (ha : fK dM w0 BE M va a) (r : List LX.Frame) (hs : clone 48 a = some r) :
    Calls Tryz.prog 83 #[va] w0 (fun e w' => Grow w0 w' ∧ ∃ u0, e = .returned u0 ∧ fI dM 49 w' M u0 r ∧ (∀ b, ob u0 b → w0.heap.size ≤ b)) := by
  obtain ⟨hr, hs⟩ := bE hs
  cases hs
  refine aL (args := [va]) Tryz.func83 rfl Tryz.ntmps83 (bH rfl) ?_
  have h := (SH.init hM).eu 1 ha aT
  refine nG (aa (ae rfl) (nN ?_))
  refine aJ (nG (aa (ag rfl) (aa (Ld dI rfl (h.fQ 1 rfl) rfl) (nN ?_))))
  refine fD rfl (fun c => ?_) (fun c => ?_)
  · obtain ⟨c1, c2⟩ := Bf (h.fQ 1 rfl) c
    refine nG (aa (ae rfl) (nR (ax ?_)))
    refine bI (v := .slice none 0 0) Tryz.results83 rfl ?_
    rw [c2]
    exact ⟨h.grown, _, rfl, fI.nil, qa⟩
  · refine aG (aj ?_)
    refine nG ?_
    refine mX (R := dM) (vs := []) (xs := []) h 2 vC rfl rfl rfl trivial rfl fun w u h => ?_
    refine aa (ag rfl) ?_
    refine jb (R := dM) (m := a) h 2 rfl (h.fQ 1 rfl) vC rfl rfl rfl hr.1 hr.2 fun w u h => ?_
    refine aa (ae rfl) (nR ?_)
    refine bI (v := u) Tryz.results83 rfl ?_
    exact ⟨h.grown, _, rfl, (h.mh 2 rfl).1, (h.mh 2 rfl).2⟩
theorem Ca (w0 : World) (M : BS) (hM : ∀ b, M b → b < w0.heap.size) (va : Value) (a : List (List Val)) (ha : fK (kW aY) w0 BE M va a) (r : List (List Val)) (hs : clone 24 a = some r) :
    Calls Tryz.prog 114 #[va] w0 (fun e w' => Grow w0 w' ∧ ∃ u0, e = .returned u0 ∧ fI (kW aY) 47 w' M u0 r ∧ (∀ b, ob u0 b → w0.heap.size ≤ b)) := by
  obtain ⟨hr, hs⟩ := bE hs
  cases hs
  refine aL (args := [va]) Tryz.func114 rfl Tryz.ntmps114 (bH rfl) ?_
  have h := (SH.init hM).eu 1 ha aT
  refine nG (aa (ae rfl) (nN ?_))
  refine aJ (nG (aa (ag rfl) (aa (Ld dO rfl (h.fQ 1 rfl) rfl) (nN ?_))))
  refine fD rfl (fun c => ?_) (fun c => ?_)
  · obtain ⟨c1, c2⟩ := Bf (h.fQ 1 rfl) c
    refine nG (aa (ae rfl) (nR (ax ?_)))
    refine bI (v := .slice none 0 0) Tryz.results114 rfl ?_
    rw [c2]
    exact ⟨h.grown, _, rfl, fI.nil, qa⟩
  · refine aG (aj ?_)
    refine nG ?_
    refine mX (R := (kW aY)) (vs := []) (xs := []) h 2 jB rfl rfl rfl trivial rfl fun w u h => ?_
    refine aa (ag rfl) ?_
    refine jb (R := (kW aY)) (m := a) h 2 rfl (h.fQ 1 rfl) jB rfl rfl rfl hr.1 hr.2 fun w u h => ?_
    refine aa (ae rfl) (nR ?_)
    refine bI (v := u) Tryz.results114 rfl ?_
    exact ⟨h.grown, _, rfl, (h.mh 2 rfl).1, (h.mh 2 rfl).2⟩
theorem xE (w0 : World) (M : BS) (hM : ∀ b, M b → b < w0.heap.size) (va : Value) (a : List Val) (ha : fK aY w0 BE M va a) (r : List Val) (hs : clone 16 a = some r) :
    Calls Tryz.prog 85 #[va] w0 (fun e w' => Grow w0 w' ∧ ∃ u0, e = .returned u0 ∧ fI aY 51 w' M u0 r ∧ (∀ b, ob u0 b → w0.heap.size ≤ b)) := by
  obtain ⟨hr, hs⟩ := bE hs
  cases hs
  refine aL (args := [va]) Tryz.func85 rfl Tryz.ntmps85 (bH rfl) ?_
  have h := (SH.init hM).eu 1 ha aT
  refine nG (aa (ae rfl) (nN ?_))
  refine aJ (nG (aa (ag rfl) (aa (Ld di rfl (h.fQ 1 rfl) rfl) (nN ?_))))
  refine fD rfl (fun c => ?_) (fun c => ?_)
  · obtain ⟨c1, c2⟩ := Bf (h.fQ 1 rfl) c
    refine nG (aa (ae rfl) (nR (ax ?_)))
    refine bI (v := .slice none 0 0) Tryz.results85 rfl ?_
    rw [c2]
    exact ⟨h.grown, _, rfl, fI.nil, qa⟩
  · refine aG (aj ?_)
    refine nG ?_
    refine mX (R := aY) (vs := []) (xs := []) h 2 nk rfl rfl rfl trivial rfl fun w u h => ?_
    refine aa (ag rfl) ?_
    refine jb (R := aY) (m := a) h 2 rfl (h.fQ 1 rfl) nk rfl rfl rfl hr.1 hr.2 fun w u h => ?_
    refine aa (ae rfl) (nR ?_)
    refine bI (v := u) Tryz.results85 rfl ?_
    exact ⟨h.grown, _, rfl, (h.mh 2 rfl).1, (h.mh 2 rfl).2⟩
def yo (a : List (List Val)) (i14 : Int) (s : Unit) (F7 : Unit → Option (List (List Val))) : Option (List (List Val)) :=
  (idx a i14).bind fun x20 => (clone 16 x20).bind fun y31 => F7 ()
def yt (a : List (List Val)) (s : Unit) : Option (List (List Val)) :=
  some a
def Dp (a : List (List Val)) : Option (List (List Val)) :=
  (clone 24 a).bind fun y1 => upto (yo a) (yt a) 0 ((a.length : Int)).toNat ()
theorem CF (w0 : World) (M : BS) (hM : ∀ b, M b → b < w0.heap.size) (va : Value) (a : List (List Val)) (ha : fK (kW aY) w0 BE M va a) (r : List (List Val)) (hs : Dp a = some r) :
    Calls Tryz.prog 84 #[va] w0 (fun e w' => Grow w0 w' ∧ ∃ tT, ∃ zl, e = .returned (tT) ∧ Chunk.holds w' M (Chunk.own' ((.two (.own (gW Val).raw 47 tT (List.zip r zl)) (.jv (fw aY 51 hn zl (List.map (gW Val).sub r)))) : Chunk)) ((.two (.own (gW Val).raw 47 tT (List.zip r zl)) (.jv (fw aY 51 hn zl (List.map (gW Val).sub r)))) : Chunk) ∧ (∀ b, Chunk.own' ((.two (.own (gW Val).raw 47 tT (List.zip r zl)) (.jv (fw aY 51 hn zl (List.map (gW Val).sub r)))) : Chunk) b → w0.heap.size ≤ b)) := by
 refine aL (args := [va]) Tryz.func84 rfl Tryz.ntmps84 (bH rfl) ?_
 have h := SH.init hM
 replace h := h.eu 1 ha aT
 have tQ := ha.bD
 refine nG (aa (ae (v := (.slice none 0 0)) rfl) (nJ (aa (ag (v := va) rfl) ?_)))
 obtain ⟨y1, e2, hs⟩ := aM hs
 have z3 := Aa e2
 subst z3
 refine aO WX rfl rfl (Ca _ _ h.lt va a (h.fQ 1 rfl) _ e2) ?_
 rintro _ w ⟨k7, u4, rfl, g5, g6⟩
 refine ⟨_, rfl, ?_⟩
 replace h := h.mg 2 k7 g5 g6
 obtain ⟨us8, -, h⟩ := h.thaw (N := (gW Val)) (R := aY) (Es := 51) 2 3 4 rfl (by decide) (by decide) (by decide) rfl WN
 refine aa (ae (v := u4) rfl) (nK (aa (ag (v := u4) rfl) (aa (wL (N := (gW Val)) dO rfl (h.dJ 2 rfl) (h.lq 3 rfl)) (aa (ag (v := (I6 0)) rfl) (nN (aH ?_))))))
 have hli14 := (h.fQ 1 rfl).bD
 refine eF (σ := Nat × Int × List Value) (inl ([3, 4] ++ rg 9 11)) (fun ⟨k13, i14, J2⟩ => [(9, (I6 i14))]) (fun ⟨k13, i14, J2⟩ w => SH w0 M BE w (hset [(2, .own (gW Val).raw 47 u4 (List.zip a J2)), (3, .jv (fw aY 51 (hge (k13)) J2 (List.map (gW Val).sub a))), (4, .jv (ET aY (k13) J2 (List.map (gW Val).sub a)))]) ∧ i14 = (k13 : Int) ∧ upto (yo a) (yt a) i14 (((a.length : Int)).toNat - k13) () = some r) (fun ⟨k13, i14, J2⟩ => ((a.length : Int)).toNat - k13) ⟨0, 0, us8⟩ ⟨rfl, trivial⟩ ?_ ?_
 exact ⟨h.cn _, rfl, hs⟩
 rintro ⟨k13, i14, J2⟩ w dC ⟨h, hik, hs⟩
 refine nG ?_
 refine aa (dK rfl rfl) (nN ?_)
 refine aJ (fD rfl (fun e18 => ?_) (fun e18 => ?_))
 refine aG (aj ?_)
 rw [lv (by have := kQ e18; omega)] at hs
 generalize U1 : upto (yo a) (yt a) (i14 + 1) (((a.length : Int)).toNat - (k13 + 1)) = F7 at hs
 have aac : jN (i14 + 1) := (by have := kQ e18; have := hli14; exact jN.mk (by omega) (by omega))
 refine aJ (aH (nG (aa (ag (v := (I6 i14)) rfl) ?_)))
 obtain ⟨x20, e21, hs⟩ := aM hs
 obtain ⟨u25, e260, r27⟩ := h.TJ 4 x20 rfl (h.lq 3 rfl) (Kk hik (aR e21).2) rfl
 have e26 := Ya hik e260
 replace h := h.bK 5 r27
 obtain ⟨Dl, q24, i22⟩ := h.FL 2 rfl dO rfl (aR e21).1 (kX (aR e21).2 e26)
 refine aa (i22 _ _ _ _ _ _ _ _ _ rfl rfl) ?_
 obtain ⟨Xr, m29, Z8⟩ := h.JU 2 rfl q24 (kX (aR e21).2 e26)
 obtain ⟨rfl, -⟩ := Z8
 refine aa (zX (k := 0) m29 kr rfl rfl) (aa (ae (v := (I6 i14)) rfl) (aa (ae (v := u25) rfl) (nN (ay (aa (ag (v := u4) rfl) (aa (ag (v := (I6 i14)) rfl) (aa (ag (v := u25) rfl) ?_)))))))
 obtain ⟨y31, e32, hs⟩ := aM hs
 have z33 := Aa e32
 subst z33
 refine aO Ua rfl rfl (xE _ _ h.lt u25 x20 (h.lF 5 rfl) _ e32) ?_
 rintro _ w ⟨k37, u34, rfl, g35, g36⟩
 refine ⟨_, rfl, ?_⟩
 replace h := h.mg 6 k37 g35 g36
 obtain ⟨b39, q40, i38⟩ := h.FL 2 rfl dO rfl (aR e21).1 (kX (aR e21).2 e26)
 refine aa (i38 _ _ _ _ _ _ _ _ _ rfl rfl) ?_
 have o41 : (Value.oneCell' u34) = true := (h.eD 6 rfl).one
 refine Td (off := 0) (a' := (x20, u34)) h 2 rfl q40 rfl (kX (aR e21).2 e26) kr rfl rfl o41 rfl (by rintro _ ⟨rfl, _⟩; exact ⟨rfl, o41⟩) fun w h => ?_
 rw [MZ (aR e21).2, TG hik] at h
 replace h := h.M5 3 4 6 rfl rfl rfl (by decide) (by decide) (by decide) (Kk hik (aR e21).2) (Kk hik e26) rfl
 generalize List.set J2 k13 u34 = us42 at h
 refine aC (au (aj (ay (aa (dz rfl rfl aac) (aa (ag (v := (I6 ((i14 + 1)))) rfl) (aC (ak ?_)))))))
 subst U1
 exact iw ⟨k13 + 1, i14 + 1, us42⟩ ⟨h.cn _, by omega, hs⟩ (by have := kQ e18; dsimp only; omega)
 rw [lC (by have := of_decide_eq_false e18; omega)] at hs
 replace h := h.TF 3 rfl (by have := of_decide_eq_false e18; omega)
 replace h := h.ug 4
 refine nE (aa (ag (v := u4) rfl) (aa (ae (v := u4) rfl) (nR (bI (v := u4) Tryz.results84 rfl ?_))))
 replace h := h.pair 2 3 (by decide)
 obtain rfl := gK hs
 obtain ⟨o1, o2, o3⟩ := h.zI 2 (C := (.two (.own (gW Val).raw 47 u4 (List.zip a J2)) (.jv (fw aY 51 hn J2 (List.map (gW Val).sub a))) : Chunk)) rfl ⟨trivial, trivial⟩
 exact ⟨o2, u4, J2, rfl, o1, EU o3⟩
def BA (a : LX.State) (i13 : Int) (s : Unit) (nx16 : Unit → Option LX.State) : Option LX.State :=
  (idx a.frames i13).bind fun yn => (clone 16 yn.regs).bind fun U2 => nx16 ()
def BB (a : LX.State) (y7 : List (List Val)) (s : Unit) : Option LX.State :=
  some (⟨a.frames, y7, a.status, a.bB⟩ : LX.State)
def Eg (a : LX.State) (y7 : List (List Val)) : Option LX.State :=
  upto (BA a) (BB a y7) 0 ((a.frames.length : Int)).toNat ()
def HY (a : LX.State) : Option LX.State :=
  (clone 48 a.frames).bind fun U3 => (Dp a.cells).bind fun sH => Eg a sH
theorem RQ (w0 : World) (M : BS) (hM : ∀ b, M b → b < w0.heap.size) (a : LX.State) (rF rY : Value) (ha0 : fK dM w0 BE M rF a.frames) (ha1 : fK (kW aY) w0 BE M rY a.cells) (r : LX.State) (hs : HY a = some r) :
    Calls Tryz.prog 49 #[(.agg #[rF, rY, (I6 a.status), (I6 a.bB)])] w0 (fun e w' => Grow w0 w' ∧ ∃ tT, ∃ wG, ∃ zl, ∃ Eh, e = .returned (.agg #[tT, wG, .int .i64 r.status, .int .i64 r.bB]) ∧ Chunk.holds w' M (Chunk.own' ((cU tT wG r.frames zl r.cells Eh) : Chunk)) ((cU tT wG r.frames zl r.cells Eh) : Chunk) ∧ (∀ b, Chunk.own' ((cU tT wG r.frames zl r.cells Eh) : Chunk) b → w0.heap.size ≤ b)) := by
 refine aL (args := [(.agg #[rF, rY, (I6 a.status), (I6 a.bB)])]) Tryz.func49 rfl Tryz.ntmps49 (bH rfl) ?_
 have h := SH.init hM
 replace h := h.eu 1 ha0 aT
 replace h := h.eu 2 ha1 (aW aT)
 refine nG (l7 (cs := [rF, rY, (I6 a.status), (I6 a.bB)]) h 3 rfl rfl fun w b1 h => bu h 4 bM fun w b2 h => nN (dm (σ := Value × List Value × Value × List Value × List (List Val)) (inl (rg 5 8)) (fun ⟨v3, us4, v5, Yj, y7⟩ => []) (fun ⟨v3, us4, v5, Yj, y7⟩ w => SH w0 M BE w (hset [(3, .blk b1 [v3, v5, (I6 a.status), (I6 a.bB)]), (4, .blk b2 [(.slice none 0 0), (.slice none 0 0), (I6 0), (I6 0)]), (29, .own fo.raw 49 v3 (List.zip a.frames us4)), (30, .jv (fw aY 51 (hge (0)) us4 (List.map fo.sub a.frames))), (31, .jv (ET aY (0) us4 (List.map fo.sub a.frames))), (65, .own (gW Val).raw 47 v5 (List.zip y7 Yj)), (66, .jv (fw aY 51 hn Yj (List.map (gW Val).sub y7)))]) ∧ Eg a y7 = some r) ?_ ?_))
 rintro ⟨v3, us4, v5, Yj, y7⟩ w dC ⟨h, hs⟩
 refine aJ (nG (aa (ah gQ rfl) (aa (aB h 3 rfl lJ rfl rfl) (aa (wL (N := fo) dI rfl (h.dJ 29 rfl) (h.lq 30 rfl)) (aa (ag (v := (I6 0)) rfl) (nN (aH ?_)))))))
 have hli13 := Ct (h.dJ 29 rfl) (h.lq 30 rfl)
 refine eF (σ := Nat × Int × List Value) (inl ([3, 4] ++ rg 16 14)) (fun ⟨k12, i13, Ei⟩ => [(16, (I6 i13))]) (fun ⟨k12, i13, Ei⟩ w => SH w0 M BE w (hset [(3, .blk b1 [v3, v5, (I6 a.status), (I6 a.bB)]), (4, .blk b2 [(.slice none 0 0), (.slice none 0 0), (I6 0), (I6 0)]), (29, .own fo.raw 49 v3 (List.zip a.frames Ei)), (30, .jv (fw aY 51 (hge (k12)) Ei (List.map fo.sub a.frames))), (31, .jv (ET aY (k12) Ei (List.map fo.sub a.frames))), (65, .own (gW Val).raw 47 v5 (List.zip y7 Yj)), (66, .jv (fw aY 51 hn Yj (List.map (gW Val).sub y7)))]) ∧ i13 = (k12 : Int) ∧ upto (BA a) (BB a y7) i13 (((a.frames.length : Int)).toNat - k12) () = some r) (fun ⟨k12, i13, Ei⟩ => ((a.frames.length : Int)).toNat - k12) ⟨0, 0, us4⟩ ⟨rfl, trivial⟩ ?_ ?_
 exact ⟨h.cn _, rfl, hs⟩
 rintro ⟨k12, i13, Ei⟩ w dC ⟨h, hik, hs⟩
 refine nG ?_
 refine aa (dK rfl rfl) (nN ?_)
 refine aJ (fD rfl (fun e17 => ?_) (fun e17 => ?_))
 refine aG (aj ?_)
 rw [lv (by have := kQ e17; omega)] at hs
 generalize hnx16 : upto (BA a) (BB a y7) (i13 + 1) (((a.frames.length : Int)).toNat - (k12 + 1)) = nx16 at hs
 have e18r : jN (i13 + 1) := (by have := kQ e17; have := hli13; exact jN.mk (by omega) (by omega))
 refine aJ (aH (nG (aa (ag (v := (I6 i13)) rfl) ?_)))
 obtain ⟨yn, e20, hs⟩ := aM hs
 obtain ⟨u24, e250, r26⟩ := h.TJ 31 yn.regs rfl (h.lq 30 rfl) (Kk hik (aR e20).2) rfl
 have e25 := Ya hik e250
 replace h := h.bK 67 r26
 obtain ⟨b22, q23, i21⟩ := h.FL 29 rfl dI rfl (aR e20).1 (kX (aR e20).2 e25)
 refine aa (i21 _ _ _ _ _ _ _ _ _ rfl rfl) ?_
 obtain ⟨cs27, m28, Xt⟩ := h.JU 29 rfl q23 (kX (aR e20).2 e25)
 obtain ⟨rfl, -⟩ := Xt
 refine aa (zF (k := 0) (vs := [(I6 yn.proc), (I6 yn.at_), u24, (I6 yn.ja)]) m28 fF rfl rfl rfl (bH rfl)) (bu h 68 fF fun w b30 h => aa (ae (v := (I6 i13)) rfl) (dN (vs := [(I6 yn.proc), (I6 yn.at_), u24, (I6 yn.ja)]) h 68 [(I6 yn.proc), (I6 yn.at_), u24, (I6 yn.ja)] rfl fF rfl rfl rfl rfl rfl (ai rfl (ai rfl (ai (h.gy 67 rfl).one (ai rfl aS)))) fun w h => nN (uf (L := (ob v3)) mixed h fun w h => dW 0 (aQ.refl _ _) rfl aA (by kernel_rfl) (by kernel_rfl) (by kernel_rfl) (fun w hk => ah gQ rfl) (dW 1 (aQ.refl _ _) rfl aA (by kernel_rfl) (by kernel_rfl) (by kernel_rfl) (fun w hk => have h := h.vB 29 rfl hk; aB h 3 rfl lJ rfl rfl) (dW 2 (aQ.refl _ _) rfl aA (by kernel_rfl) (by kernel_rfl) (by kernel_rfl) (fun w hk => ag (v := (I6 i13)) rfl) (dW 3 (aQ.refl _ _) rfl aA (by kernel_rfl) (by kernel_rfl) (by kernel_rfl) (fun w hk => ah ko rfl) (dW 4 (aQ.refl _ _) rfl aA (by kernel_rfl) (by kernel_rfl) (by kernel_rfl) (fun w hk => have h := h.vB 29 rfl hk; aB h 68 rfl kr rfl rfl) ?_)))))))
 obtain ⟨ws35, Yk⟩ : ∃ x, x = w := ⟨_, rfl⟩
 have Md : aQ (ob v3) ws35 w := Yk ▸ aQ.refl (ob v3) w
 refine zG Yk.symm (dB 5 (by kernel_rfl) rfl aA ?_)
 obtain ⟨U2, ND, hs⟩ := aM hs
 have U4 := Aa ND
 subst U4
 refine aO Ua rfl rfl (xE _ _ h.lt u24 yn.regs (h.lF 67 rfl) _ ND) ?_
 rintro _ w ⟨NF, Fg, rfl, U5, NG⟩
 refine ⟨_, rfl, ?_⟩
 replace h := h.mg 129 NF U5 NG
 have uq34x5_4q : ∀ b, ob Fg b → ws35.heap.size ≤ b := fun b hb => Nat.le_trans Md.size (NG b hb)
 replace Md := Md.grow NF
 refine aC (aV Md ?_)
 obtain ⟨bq34x6_2, U6, U7⟩ := h.FL 29 rfl dI rfl (aR e20).1 (kX (aR e20).2 e25)
 refine iQ 6 Md rfl (by kernel_rfl) (fun w hk => U7 _ _ _ _ _ _ _ _ _ rfl rfl) (iQ 7 Md rfl (by kernel_rfl) (fun w hk => ah ko rfl) (dB 8 (by kernel_rfl) rfl aA ?_))
 have NH : (Value.oneCell' Fg) = true := (h.eD 129 rfl).one
 refine Tm (a' := (yn, Fg)) h 29 rfl U6 rfl (kX (aR e20).2 e25) kr rfl rfl NH rfl (by rintro _ ⟨rfl, _⟩; exact ⟨rfl, NH⟩) fun w h U8 => ?_
 replace Md := Md.same U8
 rw [MZ (aR e20).2, TG hik] at h
 replace h := h.M5 30 31 129 rfl rfl rfl (by decide) (by decide) (by decide) (Kk hik (aR e20).2) (Kk hik e25) rfl
 generalize List.set Ei k12 Fg = RS at h
 refine aC (aV Md (j3 (by kernel_rfl) (au (aj (ay (aa (dz rfl rfl e18r) (aa (ag (v := (I6 ((i13 + 1)))) rfl) (aC (ak ?_)))))))))
 subst hnx16
 exact iw ⟨k12 + 1, i13 + 1, RS⟩ ⟨h.cn _, by omega, hs⟩ (by have := kQ e17; dsimp only; omega)
 rw [lC (by have := of_decide_eq_false e17; omega)] at hs
 replace h := h.TF 30 rfl (by have := of_decide_eq_false e17; omega)
 replace h := h.ug 31
 refine nE (aa (eB (vs := [v3, v5, (I6 a.status), (I6 a.bB)]) h 3 rfl bM rfl rfl rfl) (dN (vs := [v3, v5, (I6 a.status), (I6 a.bB)]) h 4 [v3, v5, (I6 a.status), (I6 a.bB)] rfl bM rfl rfl rfl rfl rfl (ai (h.eD 29 rfl).one (ai (h.eD 65 rfl).one (ai rfl (ai rfl aS)))) fun w h => nR (Ki (vs := [v3, v5, (I6 a.status), (I6 a.bB)]) Tryz.results49 rfl h 4 rfl bM rfl ?_)))
 replace h := h.pair 29 30 (by decide)
 replace h := h.pair 29 65 (by decide)
 replace h := h.pair 29 66 (by decide)
 obtain rfl := gK hs
 obtain ⟨o1, o2, o3⟩ := h.zI 29 (C := (cU v3 v5 a.frames Ei y7 Yj)) rfl ⟨⟨⟨trivial, trivial⟩, trivial⟩, trivial⟩
 exact ⟨o2, v3, v5, Ei, Yj, rfl, o1, EU o3⟩
 refine uf (L := (fun x => x = b1)) mixed h fun w h => dW 0 (aQ.refl _ _) rfl aA (by kernel_rfl) (by kernel_rfl) (by kernel_rfl) (fun w hk => ah gQ rfl) (dW 3 (aQ.refl _ _) rfl aA (by kernel_rfl) (by kernel_rfl) (by kernel_rfl) (fun w hk => ah gL rfl) ?_)
 obtain ⟨U3, Ar, hs⟩ := aM hs
 obtain ⟨sH, IV, hs⟩ := aM hs
 obtain ⟨Xv, Yl⟩ : ∃ x, x = w := ⟨_, rfl⟩
 have ma : aQ (fun x => x = b1) Xv w := Yl ▸ aQ.refl (fun x => x = b1) w
 refine zG Yl.symm (vz 1 4 (by kernel_rfl) rfl aA rfl aA ?_ ?_)
 refine aa (aB h 3 rfl lJ rfl rfl) (aC (aV ma (vz 2 4 (by kernel_rfl) rfl aA rfl aA ?_ ?_)))
 have CG := Aa Ar
 subst CG
 refine aO OX rfl rfl (sG _ _ h.lt rF a.frames (h.fQ 1 rfl) _ Ar) ?_
 rintro _ w ⟨xG, pF, rfl, CJ, xH⟩
 refine ⟨_, rfl, ?_⟩
 replace h := h.mg 213 xG CJ xH
 have Ku : ∀ b, ob pF b → Xv.heap.size ≤ b := fun b hb => Nat.le_trans ma.size (xH b hb)
 replace ma := ma.grow xG
 obtain ⟨Au, -, h⟩ := h.thaw (N := fo) (R := aY) (Es := 51) 213 214 215 rfl (by decide) (by decide) (by decide) rfl FR
 refine aC (aV ma (dB 4 (by kernel_rfl) rfl aA (aa (aB h 3 rfl jL rfl rfl) (aC (aV ma (iQ 6 ma rfl (by kernel_rfl) (fun w hk => ah gQ rfl) (dB 5 (by kernel_rfl) rfl aA (aO OY rfl rfl (CF _ _ h.lt rY a.cells (h.fQ 2 rfl) _ IV) ?_))))))))
 rintro _ w ⟨xI, sI, ql, rfl, CK, CL⟩
 refine ⟨_, rfl, ?_⟩
 replace h := h.Lu 249 (C := (.two (.own (gW Val).raw 47 sI (List.zip sH ql)) (.jv (fw aY 51 hn ql (List.map (gW Val).sub sH))) : Chunk)) xI ⟨trivial, trivial⟩ CK CL
 replace h := h.gJ 249 250 (by decide) rfl rfl
 replace ma := ma.grow xI
 refine aC (aV ma (dB 7 (by kernel_rfl) rfl aA (uB h 3 [pF, rY, (I6 a.status), (I6 a.bB)] rfl lJ rfl rfl rfl rfl (h.eD 213 rfl).one fun w h CO => ?_)))
 replace ma := ma.same CO
 refine aC (aV ma (iQ 8 ma rfl (by kernel_rfl) (fun w hk => ah gL rfl) (dB 9 (by kernel_rfl) rfl aA (uB h 3 [pF, sI, (I6 a.status), (I6 a.bB)] rfl jL rfl rfl rfl rfl (h.eD 249 rfl).one fun w h CP => ?_))))
 replace ma := ma.same CP
 refine aC (aV ma (j3 (by kernel_rfl) (ak ?_)))
 replace h := (h.ug 29).moveC 213 29 rfl rfl (by decide)
 replace h := (h.ug 30).moveC 214 30 rfl rfl (by decide)
 replace h := (h.ug 31).moveC 215 31 rfl rfl (by decide)
 replace h := (h.ug 65).moveC 249 65 rfl rfl (by decide)
 replace h := (h.ug 66).moveC 250 66 rfl rfl (by decide)
 exact cO (pF, Au, sI, ql, sH) ⟨h.cn _, hs⟩
 refine aa (aB h 3 rfl jL rfl rfl) (aC (aV ma (dB 2 (by kernel_rfl) rfl aA ?_)))
 have CG := Aa Ar
 subst CG
 refine aO OX rfl rfl (sG _ _ h.lt rF a.frames (h.fQ 1 rfl) _ Ar) ?_
 rintro _ w ⟨xG, pF, rfl, CJ, xH⟩
 refine ⟨_, rfl, ?_⟩
 replace h := h.mg 213 xG CJ xH
 have Ku : ∀ b, ob pF b → Xv.heap.size ≤ b := fun b hb => Nat.le_trans ma.size (xH b hb)
 replace ma := ma.grow xG
 obtain ⟨Au, -, h⟩ := h.thaw (N := fo) (R := aY) (Es := 51) 213 214 215 rfl (by decide) (by decide) (by decide) rfl FR
 refine aC (aV ma (iQ 6 ma rfl (by kernel_rfl) (fun w hk => ah gQ rfl) (dB 5 (by kernel_rfl) rfl aA (aO OY rfl rfl (CF _ _ h.lt rY a.cells (h.fQ 2 rfl) _ IV) ?_))))
 rintro _ w ⟨xI, sI, ql, rfl, CK, CL⟩
 refine ⟨_, rfl, ?_⟩
 replace h := h.Lu 249 (C := (.two (.own (gW Val).raw 47 sI (List.zip sH ql)) (.jv (fw aY 51 hn ql (List.map (gW Val).sub sH))) : Chunk)) xI ⟨trivial, trivial⟩ CK CL
 replace h := h.gJ 249 250 (by decide) rfl rfl
 replace ma := ma.grow xI
 refine aC (aV ma (dB 7 (by kernel_rfl) rfl aA (uB h 3 [pF, rY, (I6 a.status), (I6 a.bB)] rfl lJ rfl rfl rfl rfl (h.eD 213 rfl).one fun w h CO => ?_)))
 replace ma := ma.same CO
 refine aC (aV ma (iQ 8 ma rfl (by kernel_rfl) (fun w hk => ah gL rfl) (dB 9 (by kernel_rfl) rfl aA (uB h 3 [pF, sI, (I6 a.status), (I6 a.bB)] rfl jL rfl rfl rfl rfl (h.eD 249 rfl).one fun w h CP => ?_))))
 replace ma := ma.same CP
 refine aC (aV ma (j3 (by kernel_rfl) (ak ?_)))
 replace h := (h.ug 29).moveC 213 29 rfl rfl (by decide)
 replace h := (h.ug 30).moveC 214 30 rfl rfl (by decide)
 replace h := (h.ug 31).moveC 215 31 rfl rfl (by decide)
 replace h := (h.ug 65).moveC 249 65 rfl rfl (by decide)
 replace h := (h.ug 66).moveC 250 66 rfl rfl (by decide)
 exact cO (pF, Au, sI, ql, sH) ⟨h.cn _, hs⟩
 refine aa (aB h 3 rfl jL rfl rfl) (aC (aV ma (dB 1 (by kernel_rfl) rfl aA (aa (aB h 3 rfl lJ rfl rfl) (aC (aV ma (dB 2 (by kernel_rfl) rfl aA ?_)))))))
 have CG := Aa Ar
 subst CG
 refine aO OX rfl rfl (sG _ _ h.lt rF a.frames (h.fQ 1 rfl) _ Ar) ?_
 rintro _ w ⟨xG, pF, rfl, CJ, xH⟩
 refine ⟨_, rfl, ?_⟩
 replace h := h.mg 213 xG CJ xH
 have Ku : ∀ b, ob pF b → Xv.heap.size ≤ b := fun b hb => Nat.le_trans ma.size (xH b hb)
 replace ma := ma.grow xG
 obtain ⟨Au, -, h⟩ := h.thaw (N := fo) (R := aY) (Es := 51) 213 214 215 rfl (by decide) (by decide) (by decide) rfl FR
 refine aC (aV ma (iQ 6 ma rfl (by kernel_rfl) (fun w hk => ah gQ rfl) (dB 5 (by kernel_rfl) rfl aA (aO OY rfl rfl (CF _ _ h.lt rY a.cells (h.fQ 2 rfl) _ IV) ?_))))
 rintro _ w ⟨xI, sI, ql, rfl, CK, CL⟩
 refine ⟨_, rfl, ?_⟩
 replace h := h.Lu 249 (C := (.two (.own (gW Val).raw 47 sI (List.zip sH ql)) (.jv (fw aY 51 hn ql (List.map (gW Val).sub sH))) : Chunk)) xI ⟨trivial, trivial⟩ CK CL
 replace h := h.gJ 249 250 (by decide) rfl rfl
 replace ma := ma.grow xI
 refine aC (aV ma (dB 7 (by kernel_rfl) rfl aA (uB h 3 [pF, rY, (I6 a.status), (I6 a.bB)] rfl lJ rfl rfl rfl rfl (h.eD 213 rfl).one fun w h CO => ?_)))
 replace ma := ma.same CO
 refine aC (aV ma (iQ 8 ma rfl (by kernel_rfl) (fun w hk => ah gL rfl) (dB 9 (by kernel_rfl) rfl aA (uB h 3 [pF, sI, (I6 a.status), (I6 a.bB)] rfl jL rfl rfl rfl rfl (h.eD 249 rfl).one fun w h CP => ?_))))
 replace ma := ma.same CP
 refine aC (aV ma (j3 (by kernel_rfl) (ak ?_)))
 replace h := (h.ug 29).moveC 213 29 rfl rfl (by decide)
 replace h := (h.ug 30).moveC 214 30 rfl rfl (by decide)
 replace h := (h.ug 31).moveC 215 31 rfl rfl (by decide)
 replace h := (h.ug 65).moveC 249 65 rfl rfl (by decide)
 replace h := (h.ug 66).moveC 250 66 rfl rfl (by decide)
 exact cO (pF, Au, sI, ql, sH) ⟨h.cn _, hs⟩
end
end Go.Proofs.YtfclkapelkhlpaaGreatDoor
