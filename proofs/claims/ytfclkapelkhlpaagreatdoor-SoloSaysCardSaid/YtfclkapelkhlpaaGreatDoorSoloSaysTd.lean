/-
  What the law SoloSays needs of our own library and of the walks, no more.
-/
import Derived.Test.YtfclkapelkhlpaaGreatDoorProg
import Derived.Test.YtfclkapelkhlpaaGreatDoorSoloSaysTc
set_option linter.unusedSimpArgs false
set_option linter.unusedVariables false
set_option maxRecDepth 10000
namespace Go.Proofs.YtfclkapelkhlpaaGreatDoor
open Go Go.Proofs Go.LX
noncomputable section
theorem Cb (N : Nat) (w0 : World) (M : BS) (hM : ∀ b, M b → b < w0.heap.size) (hT : ze Tryz.prog 4 w0) (a : Str) (r : List iw × Int) (hs : nU N a = some r) :
    Calls Tryz.prog 77 #[(aV a)] w0 (fun e w' => Grow w0 w' ∧ ∃ u0, e = .returned (.tuple #[u0, .int .i64 r.2]) ∧ fI kD 113 w' M u0 r.1 ∧ (∀ b, ob u0 b → w0.heap.size ≤ b)) := by
 refine aQ (args := [(aV a)]) Tryz.func77 rfl Tryz.ntmps77 (bF rfl) ?_
 have h := SH.init hM
 refine nG (aa (ae (v := (.slice none 0 0)) rfl) (aa (ae (v := (I6 0)) rfl) (nJ (aa (ah (v := (aV a)) rfl) ?_))))
 obtain ⟨y1, e2, hs⟩ := aK hs
 refine aX fnOk101 rfl rfl (KY _ _ h.lt (hT.go h.keep) a [32] _ e2) ?_
 rintro _ w ⟨k5, u3, rfl, g4⟩
 refine ⟨_, rfl, ?_⟩
 replace h := h.NZ 1 k5 g4
 refine tK h 2 qQ fun w b6 h => gq h 2 [u3] rfl qQ rfl rfl rfl rfl (h.iD 1 rfl).one fun w h => nJ (tK h 3 Cx fun w b7 h => nK (aa (aA h 2 rfl qQ rfl rfl) (aa (bW gN rfl (h.ny 1 rfl)) (aa (ah (v := (I6 0)) rfl) (nN (aO ?_))))))
 replace h := h.yj (R := kD) (E := 113) 7
 refine gu (σ := Nat × Int × Value × List iw) (inl (rg 6 6 ++ rg 24 39)) (fun ⟨k16, i17, v14, yt⟩ => [(24, (I6 i17))]) (fun ⟨k16, i17, v14, yt⟩ w => SH w0 M BE w (hset [(1, .rd rV u3 y1), (2, .blk b6 [u3]), (3, .blk b7 [v14]), (7, .own kD 113 v14 yt)]) ∧ i17 = (k16 : Int) ∧ dW (lF y1) (jJ N y1 a) i17 (y1.drop k16) yt = some r) (fun ⟨k16, i17, v14, yt⟩ => y1.length - k16) ⟨0, 0, (.slice none 0 0), []⟩ ⟨rfl, trivial⟩ ?_ ?_
 exact ⟨h.cn _, rfl, hs⟩
 rintro ⟨k16, i17, v14, yt⟩ w dO ⟨h, hik, hs⟩
 refine nG ?_
 refine aa (eB rfl rfl) (nN ?_)
 refine aM (gK rfl (fun e21 => ?_) (fun e21 => ?_))
 refine aH (ak ?_)
 obtain ⟨Av, e22a, e22b⟩ := fU (hik ▸ e21)
 rw [e22b, ja] at hs
 generalize hnx20 : dW (lF y1) (jJ N y1 a) (i17 + 1) (y1.drop (k16 + 1)) = NH at hs
 have e22r := gm ((h.ny 1 rfl)).bT hik e21
 refine bX (σ := Value × List iw) (inl (rg 6 6 ++ rg 26 36)) (fun ⟨v23, y24⟩ => []) (fun ⟨v23, y24⟩ w => SH w0 M BE w (hset [(1, .rd rV u3 y1), (2, .blk b6 [u3]), (3, .blk b7 [v23]), (7, .own kD 113 v23 y24)]) ∧ pq NH y24 = some r) ?_ ?_
 rintro ⟨v23, y24⟩ w dO ⟨h, hs⟩
 refine aC (aa (dP rfl rfl e22r) (aa (ah (v := (I6 ((i17 + 1)))) rfl) (az (au ?_))))
 subst hnx20
 exact jB ⟨k16 + 1, i17 + 1, v23, y24⟩ ⟨h.cn _, by omega, hs⟩ (by have := p8 e21; dsimp only; omega)
 refine aO (nG (aa (ah (v := (I6 i17)) rfl) ?_))
 obtain ⟨b26, o27, cs28, h, r29, i25⟩ := h.Cm 1 8 rfl gN rfl (iI hik) (fZ hik e22a)
 obtain rfl := r29
 refine aa (i25 _ _ _ _ _ _ _ _ _ rfl rfl) (aa (fq (k := 0) h 8 rfl Cy rfl rfl) (aa (ae (v := (I6 i17)) rfl) (aa (ae (v := (aV Av)) rfl) (nN (bX (σ := Bool) (inl (rg 29 9)) (fun x30 => [(37, (.bool (x30)))]) (fun x30 w => SH w0 M BE w (hset [(1, .rd rV u3 y1), (2, .blk b6 [u3]), (3, .blk b7 [v14]), (7, .own kD 113 v14 yt)]) ∧ pE y1 i17 yt NH x30 = some r) ?_ ?_)))))
 rintro x30 w dO ⟨h, hs⟩
 refine aI hs rfl (fun c31 hs => ?_) (fun c31 hs => ?_)
 refine nG (aa (aA h 2 rfl qQ rfl rfl) (aa (ah (v := (I6 i17)) rfl) (aa (dP rfl rfl e22r) ?_)))
 obtain ⟨x32, e33, hs⟩ := aK hs
 obtain ⟨b35, o36, cs37, h, r38, i34⟩ := h.Cm 1 9 rfl gN rfl (aB e33).1 (aB e33).2
 obtain rfl := r38
 refine aa (i34 _ _ _ _ _ _ _ _ _ rfl rfl) (aa (fq (k := 0) h 9 rfl Cy rfl rfl) ?_)
 obtain ⟨y39, e40, hs⟩ := aK hs
 refine aX Iw rfl rfl (uM _ _ h.lt (hT.go h.keep) x32 _ e40) ?_
 rintro _ w ⟨k43, u41, rfl, g42⟩
 refine ⟨_, rfl, ?_⟩
 replace h := h.grow k43
 refine aa (ah (v := (.tuple #[(I6 y39.1), u41])) rfl) (aa (bu rfl rfl) (aa (bu rfl rfl) (aa (ae (v := (I6 y39.1)) rfl) (aa (ae (v := u41) rfl) (nJ (aa (aA h 2 rfl qQ rfl rfl) (aa (ah (v := (I6 i17)) rfl) ?_)))))))
 obtain ⟨a44, hs⟩ := bB hs
 refine aa (dP rfl rfl a44) ?_
 obtain ⟨x45, e46, hs⟩ := aK hs
 obtain ⟨b48, o49, cs50, h, r51, i47⟩ := h.Cm 1 10 rfl gN rfl (aB e46).1 (aB e46).2
 obtain rfl := r51
 refine aa (i47 _ _ _ _ _ _ _ _ _ rfl rfl) (aa (fq (k := 0) h 10 rfl Cy rfl rfl) ?_)
 obtain ⟨FM, e53, hs⟩ := aK hs
 refine aX Iw rfl rfl (uM _ _ h.lt (hT.go h.keep) x45 _ e53) ?_
 rintro _ w ⟨k56, u54, rfl, g55⟩
 refine ⟨_, rfl, ?_⟩
 replace h := h.grow k56
 refine aa (ah (v := (.tuple #[(I6 FM.1), u54])) rfl) (aa (bu rfl rfl) (aa (bu rfl rfl) (aa (ae (v := (I6 FM.1)) rfl) (aa (ae (v := u54) rfl) (nN (aC (aa (aA h 3 rfl Cx rfl rfl) (aa (ah (v := (I6 y39.1)) rfl) (aa (ah (v := (I6 FM.1)) rfl) (aa (ek (pv := [(0, (I6 y39.1)), (1, (I6 FM.1))]) (out := [(I6 y39.1), (I6 FM.1), (.slice none 0 0)]) VY rfl ⟨0, 1, [(I6 y39.1)], rfl, rfl, rfl, bF rfl, ⟨1, 1, [(I6 FM.1)], rfl, rfl, rfl, bF rfl, rfl⟩⟩) (tL (R := kD) (vs := [(.agg #[(I6 y39.1), (I6 FM.1), (.slice none 0 0)])]) (xs := [(⟨y39.1, FM.1, []⟩ : iw)]) h 11 Q4 rfl rfl rfl ⟨⟨_, rfl, gy.nil⟩, trivial⟩ rfl fun w u57 h => ?_)))))))))))
 obtain ⟨a58, hs⟩ := bB hs
 refine lV (R := kD) (m := [(⟨y39.1, FM.1, []⟩ : iw)]) h 7 rfl (h.eG 11 rfl) Q4 rfl rfl rfl a58.1 a58.2 fun w u59 h => gq h 3 [u59] rfl Cx rfl rfl rfl rfl (h.dm 7 rfl).one fun w h => az (ax (au ?_))
 exact bQ (u59, (yt ++ [(⟨y39.1, FM.1, []⟩ : iw)])) ⟨h.cn _, hs⟩
 refine aH (ax (au ?_))
 exact bQ (v14, yt) ⟨h.cn _, hs⟩
 refine aC (aa (ah (v := (aV Av)) rfl) (aa (Jh rfl rfl) (aa (ah (v := (.bool (decide ((Av : Str) = [102, 117, 110])))) rfl) (kT (b := decide ((Av : Str) = [102, 117, 110])) hs (fun Wl hs => ?_) (fun Wl hs => ?_)))))
 refine eT rfl (cB Wl) (aa (ah (v := (I6 i17)) rfl) (eT rfl (cB Wl) ?_))
 obtain ⟨a61, hs⟩ := bB hs
 refine aa (dP rfl rfl a61) (eT rfl (cB Wl) (aa (aA h 2 rfl qQ rfl rfl) (eT rfl (cB Wl) (aa (bW gN rfl (h.ny 1 rfl)) (eT rfl (cB Wl) (aa (eB rfl rfl) (aa (fB (b := true) (v := (.bool (decide (((i17 + 2) : Int) < (y1.length : Int))))) (cB Wl) rfl) (az (au ?_)))))))))
 exact bQ (decide (((i17 + 2) : Int) < (y1.length : Int))) ⟨h.cn _, hs⟩
 refine vT rfl (cB Wl) rfl (vT rfl (cB Wl) rfl (vT rfl (cB Wl) rfl (vT rfl (cB Wl) rfl (vT rfl (cB Wl) rfl (aa (fB (b := false) (v := (.bool (false))) (cB Wl) rfl) (az (au ?_)))))))
 exact bQ false ⟨h.cn _, hs⟩
 rw [fV (hik ▸ e21), mh] at hs
 refine iL (bI (bI (eH (ak (aM (nG (aa (aA h 3 rfl Cx rfl rfl) (aa (bW jR rfl (h.eG 7 rfl)) (aa (bz rfl rfl) (aa (ah (v := (.bool (decide (((yt.length : Int) : Int) = 0)))) rfl) (aG rfl rfl (fun q => aA h 3 rfl Cx rfl rfl) (aG rfl rfl (fun q => bW jR (eD q) (h.eG 7 rfl)) (aG rfl rfl (fun q => lT (eD q) rfl) (aa (iJ rfl rfl nC) (nN (aI hs rfl (fun c62 hs => ?_) (fun c62 hs => ?_)))))))))))))))))
 refine nG (aa (ae (v := (.slice none 0 0)) rfl) (aa (ae (v := (I6 1)) rfl) (nR (ay (Jd (v1 := (.slice none 0 0)) (v2 := (I6 1)) Tryz.results77 rfl rfl ?_)))))
 obtain rfl := fP hs
 exact ⟨h.grown, _, rfl, fI.nil, lN⟩
 refine aH (ak (aM (nG (aa (aA h 3 rfl Cx rfl rfl) (aa (bW jR rfl (h.eG 7 rfl)) (aa (ah (v := (I6 0)) rfl) (nN (aO ?_))))))))
 have hli64 := (h.eG 7 rfl).bT
 refine gu (σ := Nat × Int) (inl ([2, 3, 13] ++ rg 73 9)) (fun ⟨k63, i64⟩ => [(73, (I6 i64))]) (fun ⟨k63, i64⟩ w => SH w0 M BE w (hset [(1, .rd rV u3 y1), (2, .blk b6 [u3]), (3, .blk b7 [v14]), (7, .own kD 113 v14 yt)]) ∧ i64 = (k63 : Int) ∧ upto (lD yt) (jI N y1 a yt) i64 (((yt.length : Int)).toNat - k63) () = some r) (fun ⟨k63, i64⟩ => ((yt.length : Int)).toNat - k63) ⟨0, 0⟩ ⟨rfl, trivial⟩ ?_ ?_
 exact ⟨h.cn _, rfl, hs⟩
 rintro ⟨k63, i64⟩ w dO ⟨h, hik, hs⟩
 refine nG ?_
 refine aa (eB rfl rfl) (nN ?_)
 refine aM (gK rfl (fun e68 => ?_) (fun e68 => ?_))
 refine aH (ak ?_)
 rw [si (by have := p8 e68; omega)] at hs
 generalize hnx67 : upto (lD yt) (jI N y1 a yt) (i64 + 1) (((yt.length : Int)).toNat - (k63 + 1)) = nx67 at hs
 have e69r : jV (i64 + 1) := (by have := p8 e68; have := hli64; exact jV.mk (by omega) (by omega))
 refine aM (aO (nG ?_))
 obtain ⟨x70, Vn, hs⟩ := aK hs
 obtain ⟨b73, q74, i72⟩ := h.qY 7 rfl jR rfl (aB Vn).1 (aB Vn).2
 refine aa (i72 _ _ _ _ _ _ _ _ _ rfl rfl) ?_
 obtain ⟨cs75, m76, r77⟩ := h.uF 7 rfl q74 (aB Vn).2
 obtain ⟨QC, rfl, g79⟩ := wK r77
 replace h := h.dA 12 g79
 refine aa (kg (k := 0) (vs := [(I6 x70.params), (I6 x70.locals), QC]) m76 pU rfl rfl rfl (bF rfl)) (bP h 13 pU fun w b80 h => dH (vs := [(I6 x70.params), (I6 x70.locals), QC]) h 13 [(I6 x70.params), (I6 x70.locals), QC] rfl pU rfl rfl rfl rfl rfl (ai rfl (ai rfl (ai (h.iD 12 rfl).one aS))) fun w h => nJ (aa (ag zf rfl) (aa (aA h 13 rfl aU rfl rfl) (aX uL rfl rfl (fe _ _ h.lt x70.params 0 3 _ rfl) ?_))))
 rintro _ w ⟨k81, rfl⟩
 refine ⟨_, rfl, ?_⟩
 replace h := h.grow k81
 refine aa (gL rfl) (nN (aI hs rfl (fun c82 hs => ?_) (fun c82 hs => ?_)))
 refine nG (aa (ae (v := (.slice none 0 0)) rfl) (aa (ae (v := (I6 1)) rfl) (nR (aF (ay (ay (aF (ay (Jd (v1 := (.slice none 0 0)) (v2 := (I6 1)) Tryz.results77 rfl rfl ?_)))))))))
 obtain rfl := fP hs
 exact ⟨h.grown, _, rfl, fI.nil, lN⟩
 refine aH (ax (ak (aC (aa (dP rfl rfl e69r) (aa (ah (v := (I6 ((i64 + 1)))) rfl) (az (au ?_)))))))
 subst hnx67
 exact jB ⟨k63 + 1, i64 + 1⟩ ⟨h.cn _, by omega, hs⟩ (by have := p8 e68; dsimp only; omega)
 rw [sj (by have := of_decide_eq_false e68; omega)] at hs
 refine nE (tK h 14 aU fun w KI h => gq h 14 [(I6 0)] rfl aU rfl rfl rfl rfl rfl fun w h => nJ (tK h 15 BB fun w CL h => gq h 15 [(.bool (true))] rfl BB rfl rfl rfl rfl rfl fun w h => nJ (aa (r9 (c1 := []) (c2 := [(.pointer (some ⟨KI, 0, none⟩)), (.pointer (some ⟨b6, 0, none⟩)), (.pointer (some ⟨CL, 0, none⟩))]) rfl rfl) (tK h 16 DK fun w Mf h => gq h 16 [(.func (.func 103) #[] #[(.pointer (some ⟨KI, 0, none⟩)), (.pointer (some ⟨b6, 0, none⟩)), (.pointer (some ⟨CL, 0, none⟩))])] rfl DK rfl rfl rfl rfl rfl fun w h => nN ?_))))
 refine nG (aa (r9 (c1 := []) (c2 := [(.pointer (some ⟨CL, 0, none⟩)), (.pointer (some ⟨Mf, 0, none⟩)), (.pointer (some ⟨b7, 0, none⟩))]) rfl rfl) (tK h 17 PX fun w Wm h => gq h 17 [(.func (.func 104) #[] #[(.pointer (some ⟨CL, 0, none⟩)), (.pointer (some ⟨Mf, 0, none⟩)), (.pointer (some ⟨b7, 0, none⟩))])] rfl PX rfl rfl rfl rfl rfl fun w h => nJ (tK h 18 Ma fun w TL h => nJ (aa (r9 (c1 := []) (c2 := [(.pointer (some ⟨Mf, 0, none⟩)), (.pointer (some ⟨CL, 0, none⟩)), (.pointer (some ⟨Wm, 0, none⟩)), (.pointer (some ⟨TL, 0, none⟩))]) rfl rfl) (gq h 18 [(.func (.func 109) #[] #[(.pointer (some ⟨Mf, 0, none⟩)), (.pointer (some ⟨CL, 0, none⟩)), (.pointer (some ⟨Wm, 0, none⟩)), (.pointer (some ⟨TL, 0, none⟩))])] rfl Ma rfl rfl rfl rfl rfl fun w h => nK (aa (aA h 3 rfl Cx rfl rfl) (aa (bW jR rfl (h.eG 7 rfl)) (aa (ah (v := (I6 0)) rfl) ?_))))))))
 refine nN (aO ?_)
 have hli101 := (h.eG 7 rfl).bT
 refine gu (σ := Nat × Int × List iw × Int × Bool) (inl ([19] ++ rg 87 17)) (fun ⟨Rm, i101, vU, y98, y99⟩ => [(87, (I6 i101))]) (fun ⟨Rm, i101, vU, y98, y99⟩ w => SH w0 M BE w (hset [(1, .rd rV u3 y1), (2, .blk b6 [u3]), (3, .blk b7 [v14]), (7, .own kD 113 v14 vU), (14, .blk KI [(I6 y98)]), (15, .blk CL [(.bool (y99))]), (16, .blk Mf [(.func (.func 103) #[] #[(.pointer (some ⟨KI, 0, none⟩)), (.pointer (some ⟨b6, 0, none⟩)), (.pointer (some ⟨CL, 0, none⟩))])]), (17, .blk Wm [(.func (.func 104) #[] #[(.pointer (some ⟨CL, 0, none⟩)), (.pointer (some ⟨Mf, 0, none⟩)), (.pointer (some ⟨b7, 0, none⟩))])]), (18, .blk TL [(.func (.func 109) #[] #[(.pointer (some ⟨Mf, 0, none⟩)), (.pointer (some ⟨CL, 0, none⟩)), (.pointer (some ⟨Wm, 0, none⟩)), (.pointer (some ⟨TL, 0, none⟩))])])]) ∧ i101 = (Rm : Int) ∧ upto (jH N y1) (lC N y1 a) i101 (((yt.length : Int)).toNat - Rm) (vU, y98, y99) = some r) (fun ⟨Rm, i101, vU, y98, y99⟩ => ((yt.length : Int)).toNat - Rm) ⟨0, 0, yt, 0, true⟩ ⟨rfl, trivial⟩ ?_ ?_
 exact ⟨h.cn _, rfl, hs⟩
 rintro ⟨Rm, i101, vU, y98, y99⟩ w dO ⟨h, hik, hs⟩
 refine nG ?_
 refine aa (eB rfl rfl) (nN ?_)
 refine aM (gK rfl (fun Jq => ?_) (fun Jq => ?_))
 refine aH (ak ?_)
 rw [si (by have := p8 Jq; omega)] at hs
 generalize hnx104 : upto (jH N y1) (lC N y1 a) (i101 + 1) (((yt.length : Int)).toNat - (Rm + 1)) = ou at hs
 have e106r : jV (i101 + 1) := (by have := p8 Jq; have := hli101; exact jV.mk (by omega) (by omega))
 refine aM (aO (nG (aa (ah (v := (I6 i101)) rfl) (aa (ae (v := (I6 i101)) rfl) (nN (bX (σ := Int × Bool) (inl [90, 91, 92]) (fun ⟨tQ, P9⟩ => []) (fun ⟨tQ, P9⟩ w => SH w0 M BE w (hset [(1, .rd rV u3 y1), (2, .blk b6 [u3]), (3, .blk b7 [v14]), (7, .own kD 113 v14 vU), (14, .blk KI [(I6 tQ)]), (15, .blk CL [(.bool (P9))]), (16, .blk Mf [(.func (.func 103) #[] #[(.pointer (some ⟨KI, 0, none⟩)), (.pointer (some ⟨b6, 0, none⟩)), (.pointer (some ⟨CL, 0, none⟩))])]), (17, .blk Wm [(.func (.func 104) #[] #[(.pointer (some ⟨CL, 0, none⟩)), (.pointer (some ⟨Mf, 0, none⟩)), (.pointer (some ⟨b7, 0, none⟩))])]), (18, .blk TL [(.func (.func 109) #[] #[(.pointer (some ⟨Mf, 0, none⟩)), (.pointer (some ⟨CL, 0, none⟩)), (.pointer (some ⟨Wm, 0, none⟩)), (.pointer (some ⟨TL, 0, none⟩))])])]) ∧ jF N y1 vU i101 ou tQ P9 = some r) ?_ ?_))))))
 rintro ⟨tQ, P9⟩ w dO ⟨h, hs⟩
 refine bX (σ := Int × Bool) (inl [93, 94]) (fun ⟨Ca, P8⟩ => []) (fun ⟨Ca, P8⟩ w => SH w0 M BE w (hset [(1, .rd rV u3 y1), (2, .blk b6 [u3]), (3, .blk b7 [v14]), (7, .own kD 113 v14 vU), (14, .blk KI [(I6 Ca)]), (15, .blk CL [(.bool (P8))]), (16, .blk Mf [(.func (.func 103) #[] #[(.pointer (some ⟨KI, 0, none⟩)), (.pointer (some ⟨b6, 0, none⟩)), (.pointer (some ⟨CL, 0, none⟩))])]), (17, .blk Wm [(.func (.func 104) #[] #[(.pointer (some ⟨CL, 0, none⟩)), (.pointer (some ⟨Mf, 0, none⟩)), (.pointer (some ⟨b7, 0, none⟩))])]), (18, .blk TL [(.func (.func 109) #[] #[(.pointer (some ⟨Mf, 0, none⟩)), (.pointer (some ⟨CL, 0, none⟩)), (.pointer (some ⟨Wm, 0, none⟩)), (.pointer (some ⟨TL, 0, none⟩))])])]) ∧ jE N y1 vU i101 ou Ca P8 = some r) ?_ ?_
 rintro ⟨Ca, P8⟩ w dO ⟨h, hs⟩
 refine bX (σ := Int × Bool) (inl [95, 96]) (fun ⟨K5, y112⟩ => []) (fun ⟨K5, y112⟩ w => SH w0 M BE w (hset [(1, .rd rV u3 y1), (2, .blk b6 [u3]), (3, .blk b7 [v14]), (7, .own kD 113 v14 vU), (14, .blk KI [(I6 K5)]), (15, .blk CL [(.bool (y112))]), (16, .blk Mf [(.func (.func 103) #[] #[(.pointer (some ⟨KI, 0, none⟩)), (.pointer (some ⟨b6, 0, none⟩)), (.pointer (some ⟨CL, 0, none⟩))])]), (17, .blk Wm [(.func (.func 104) #[] #[(.pointer (some ⟨CL, 0, none⟩)), (.pointer (some ⟨Mf, 0, none⟩)), (.pointer (some ⟨b7, 0, none⟩))])]), (18, .blk TL [(.func (.func 109) #[] #[(.pointer (some ⟨Mf, 0, none⟩)), (.pointer (some ⟨CL, 0, none⟩)), (.pointer (some ⟨Wm, 0, none⟩)), (.pointer (some ⟨TL, 0, none⟩))])])]) ∧ jD N y1 vU i101 ou K5 y112 = some r) ?_ ?_
 rintro ⟨K5, y112⟩ w dO ⟨h, hs⟩
 refine kI (L := (fun b => b = KI ∨ b = CL ∨ ob v14 b)) mixed h fun w h => bE 0 (aP.refl _ _) rfl aj (by kernel_rfl) (by kernel_rfl) (by kernel_rfl) (fun w hk => have h := h.Yz 14 15 7 (by decide) (by decide) (by decide) rfl rfl rfl hk; aA h 3 rfl Cx rfl rfl) (bE 1 (aP.refl _ _) rfl aj (by kernel_rfl) (by kernel_rfl) (by kernel_rfl) (fun w hk => ah (v := (I6 i101)) rfl) (bE 2 (aP.refl _ _) rfl aj (by kernel_rfl) (by kernel_rfl) (by kernel_rfl) (fun w hk => have h := h.Yz 14 15 7 (by decide) (by decide) (by decide) rfl rfl rfl hk; aA h 18 rfl Ma rfl rfl) ?_))
 obtain ⟨ws123, ZH⟩ : ∃ x, x = w := ⟨_, rfl⟩
 have KJ : aP (fun b => b = KI ∨ b = CL ∨ ob v14 b) ws123 w := ZH ▸ aP.refl (fun b => b = KI ∨ b = CL ∨ ob v14 b) w
 refine rf ZH.symm (bA 3 (by kernel_rfl) rfl aj ?_)
 replace h := h.pair 14 15 (by decide)
 obtain ⟨TM, TN, TP⟩ := h.z8 14 (C := (.two (.blk KI [(I6 K5)]) (.blk CL [(.bool (y112))]) : Chunk)) rfl ⟨trivial, trivial⟩
 obtain ⟨mY, Wn, hs⟩ := aK hs
 refine aX PS rfl rfl (TJ N _ _ TP (hT.go h.keep) KI CL b6 Mf b7 Wm TL (⟨K5, y112⟩ : fJ) TM TN u3 y1 (h.Ta 14 1 rfl rfl) v14 vU (h.ownSr 14 7 (by decide) rfl rfl) (h.uD 2 rfl) (fun hb => h.apart 14 2 (by decide) _ hb rfl) (h.uD 16 rfl) (fun hb => h.apart 14 16 (by decide) _ hb rfl) (h.uD 3 rfl) (fun hb => h.apart 14 3 (by decide) _ hb rfl) (h.uD 17 rfl) (fun hb => h.apart 14 17 (by decide) _ hb rfl) (h.uD 18 rfl) (fun hb => h.apart 14 18 (by decide) _ hb rfl) 1 (h.LQ hT (fun _ h => h.elim) 14 (C := (.two (.blk KI [(I6 K5)]) (.blk CL [(.bool (y112))]) : Chunk)) rfl) _ Wn) ?_
 rintro _ w ⟨Oy, uq122x3_4, rfl, Wo, Wp, Wq⟩
 refine ⟨_, rfl, ?_⟩
 replace h := h.back 14 (C := (.two (.blk KI [(I6 K5)]) (.blk CL [(.bool (y112))]) : Chunk)) (C' := (.two (.blk KI [(I6 mY.2.at_)]) (.blk CL [(.bool (mY.2.ok))]) : Chunk)) rfl ⟨trivial, trivial⟩ Wo Oy Wp
 replace h := h.dA 55 (Ji Wq)
 replace h := h.bY 14 15 (by decide) rfl rfl
 replace KJ := aP.step KJ Oy (fun _ hx _ => hx.elim (fun hx => .inl (hx)) (fun hx => .inr (.inl (hx))))
 refine az (aR KJ ?_)
 obtain ⟨Ay, Jr, hs⟩ := aK hs
 obtain ⟨bq122x4_4, Ws, Wt⟩ := h.qY 7 rfl jR rfl (aB Jr).1 (aB Jr).2
 refine dG 4 KJ rfl (by kernel_rfl) (fun w hk => Wt _ _ _ _ _ _ _ _ _ rfl rfl) (dG 5 KJ rfl (by kernel_rfl) (fun w hk => ag EK rfl) (bA 6 (by kernel_rfl) rfl aj (Yo (a' := { Ay with body := mY.1 }) h 7 rfl Ws rfl (aB Jr).2 ug rfl rfl (h.iD 55 rfl).one rfl (by rintro _ hq; obtain ⟨p2, rfl, q2⟩ := wK hq; exact ⟨_, rfl, (h.iD 55 rfl)⟩) fun w h Wu => ?_)))
 replace KJ := aP.step KJ Wu (fun _ hx _ => .inr (.inr (hx)))
 refine az (aR KJ (fK (by kernel_rfl) (ax (ak (aC (aa (dP rfl rfl e106r) (aa (ah (v := (I6 ((i101 + 1)))) rfl) (az (au ?_)))))))))
 subst hnx104
 exact jB ⟨Rm + 1, i101 + 1, (vU.set (i101).toNat { Ay with body := mY.1 }), mY.2.at_, mY.2.ok⟩ ⟨h.cn _, by omega, hs⟩ (by have := p8 Jq; dsimp only; omega)
 refine aC (aa (aA h 16 rfl DK rfl rfl) (lh (args := [(.pointer (some ⟨KI, 0, none⟩)), (.pointer (some ⟨b6, 0, none⟩)), (.pointer (some ⟨CL, 0, none⟩))]) DI rfl rfl (aQ (args := [(.pointer (some ⟨KI, 0, none⟩)), (.pointer (some ⟨b6, 0, none⟩)), (.pointer (some ⟨CL, 0, none⟩))]) Tryz.func103 rfl Tryz.ntmps103 (bF rfl) (nG (aa (ae (v := (aV [])) rfl) (nK (aa (aA h 14 rfl aU rfl rfl) (aa (aA h 2 rfl qQ rfl rfl) (aa (bW gN rfl (h.ny 1 rfl)) (aa (qV rfl rfl) (nN (aI hs rfl (fun wE hs => ?_) (fun wE hs => ?_)))))))))))))
 refine nG (gq h 15 [(.bool (false))] rfl BB rfl rfl rfl rfl rfl fun w h => nJ (aa (ae (v := (aV [])) rfl) (nR (ay (dD (v := (aV [])) Tryz.results103 rfl (⟨_, rfl, ?_⟩))))))
 refine az (au ?_)
 exact bQ (Ca, false) ⟨h.cn _, hs⟩
 refine nS (aa (aA h 14 rfl aU rfl rfl) ?_)
 obtain ⟨a126, hs⟩ := bB hs
 refine aa (dP rfl rfl a126) (gq h 14 [(I6 ((Ca + 1)))] rfl aU rfl rfl rfl rfl rfl fun w h => nJ (aa (aA h 2 rfl qQ rfl rfl) (aa (aA h 14 rfl aU rfl rfl) ?_)))
 obtain ⟨a127, hs⟩ := bB hs
 refine aa (mV rfl rfl a127) ?_
 obtain ⟨x128, e129, hs⟩ := aK hs
 obtain ⟨b131, o132, cs133, h, r134, i130⟩ := h.Cm 1 115 rfl gN rfl (aB e129).1 (aB e129).2
 obtain rfl := r134
 refine aa (i130 _ _ _ _ _ _ _ _ _ rfl rfl) (aa (fq (k := 0) h 115 rfl Cy rfl rfl) (aa (ae (v := (aV x128)) rfl) (nR (dD (v := (aV x128)) Tryz.results103 rfl (⟨_, rfl, ?_⟩)))))
 refine az (au ?_)
 exact bQ ((Ca + 1), P8) ⟨h.cn _, hs⟩
 refine aC (aa (aA h 16 rfl DK rfl rfl) (lh (args := [(.pointer (some ⟨KI, 0, none⟩)), (.pointer (some ⟨b6, 0, none⟩)), (.pointer (some ⟨CL, 0, none⟩))]) DI rfl rfl (aQ (args := [(.pointer (some ⟨KI, 0, none⟩)), (.pointer (some ⟨b6, 0, none⟩)), (.pointer (some ⟨CL, 0, none⟩))]) Tryz.func103 rfl Tryz.ntmps103 (bF rfl) (nG (aa (ae (v := (aV [])) rfl) (nK (aa (aA h 14 rfl aU rfl rfl) (aa (aA h 2 rfl qQ rfl rfl) (aa (bW gN rfl (h.ny 1 rfl)) (aa (qV rfl rfl) (nN (aI hs rfl (fun c135 hs => ?_) (fun c135 hs => ?_)))))))))))))
 refine nG (gq h 15 [(.bool (false))] rfl BB rfl rfl rfl rfl rfl fun w h => nJ (aa (ae (v := (aV [])) rfl) (nR (ay (dD (v := (aV [])) Tryz.results103 rfl (⟨_, rfl, ?_⟩))))))
 refine az (au ?_)
 exact bQ (tQ, false) ⟨h.cn _, hs⟩
 refine nS (aa (aA h 14 rfl aU rfl rfl) ?_)
 obtain ⟨a136, hs⟩ := bB hs
 refine aa (dP rfl rfl a136) (gq h 14 [(I6 ((tQ + 1)))] rfl aU rfl rfl rfl rfl rfl fun w h => nJ (aa (aA h 2 rfl qQ rfl rfl) (aa (aA h 14 rfl aU rfl rfl) ?_)))
 obtain ⟨a137, hs⟩ := bB hs
 refine aa (mV rfl rfl a137) ?_
 obtain ⟨rE, Wv, hs⟩ := aK hs
 obtain ⟨b141, o142, cs143, h, r144, i140⟩ := h.Cm 1 116 rfl gN rfl (aB Wv).1 (aB Wv).2
 obtain rfl := r144
 refine aa (i140 _ _ _ _ _ _ _ _ _ rfl rfl) (aa (fq (k := 0) h 116 rfl Cy rfl rfl) (aa (ae (v := (aV rE)) rfl) (nR (dD (v := (aV rE)) Tryz.results103 rfl (⟨_, rfl, ?_⟩)))))
 refine az (au ?_)
 exact bQ ((tQ + 1), P9) ⟨h.cn _, hs⟩
 refine bX (σ := Bool × Int × Bool) (inl [90, 91, 92]) (fun ⟨Rl, K6, Qa⟩ => [(92, (.bool (Rl)))]) (fun ⟨Rl, K6, Qa⟩ w => SH w0 M BE w (hset [(1, .rd rV u3 y1), (2, .blk b6 [u3]), (3, .blk b7 [v14]), (7, .own kD 113 v14 vU), (14, .blk KI [(I6 K6)]), (15, .blk CL [(.bool (Qa))]), (16, .blk Mf [(.func (.func 103) #[] #[(.pointer (some ⟨KI, 0, none⟩)), (.pointer (some ⟨b6, 0, none⟩)), (.pointer (some ⟨CL, 0, none⟩))])]), (17, .blk Wm [(.func (.func 104) #[] #[(.pointer (some ⟨CL, 0, none⟩)), (.pointer (some ⟨Mf, 0, none⟩)), (.pointer (some ⟨b7, 0, none⟩))])]), (18, .blk TL [(.func (.func 109) #[] #[(.pointer (some ⟨Mf, 0, none⟩)), (.pointer (some ⟨CL, 0, none⟩)), (.pointer (some ⟨Wm, 0, none⟩)), (.pointer (some ⟨TL, 0, none⟩))])])]) ∧ jG N y1 vU i101 ou Rl K6 Qa = some r) ?_ ?_
 rintro ⟨Rl, K6, Qa⟩ w dO ⟨h, hs⟩
 refine aI hs rfl (fun c148 hs => ?_) (fun c148 hs => ?_)
 refine aC (gq h 15 [(.bool (false))] rfl BB rfl rfl rfl rfl rfl fun w h => az (au ?_))
 exact bQ (K6, false) ⟨h.cn _, hs⟩
 refine aH (au ?_)
 exact bQ (K6, Qa) ⟨h.cn _, hs⟩
 refine aC (aa (aA h 16 rfl DK rfl rfl) (lh (args := [(.pointer (some ⟨KI, 0, none⟩)), (.pointer (some ⟨b6, 0, none⟩)), (.pointer (some ⟨CL, 0, none⟩))]) DI rfl rfl (aQ (args := [(.pointer (some ⟨KI, 0, none⟩)), (.pointer (some ⟨b6, 0, none⟩)), (.pointer (some ⟨CL, 0, none⟩))]) Tryz.func103 rfl Tryz.ntmps103 (bF rfl) (nG (aa (ae (v := (aV [])) rfl) (nK (aa (aA h 14 rfl aU rfl rfl) (aa (aA h 2 rfl qQ rfl rfl) (aa (bW gN rfl (h.ny 1 rfl)) (aa (qV rfl rfl) (nN (aI hs rfl (fun c149 hs => ?_) (fun c149 hs => ?_)))))))))))))
 refine nG (gq h 15 [(.bool (false))] rfl BB rfl rfl rfl rfl rfl fun w h => nJ (aa (ae (v := (aV [])) rfl) (nR (ay (dD (v := (aV [])) Tryz.results103 rfl (⟨_, rfl, ?_⟩))))))
 refine aa (LM rfl rfl) (az (au ?_))
 exact bQ (true, y98, false) ⟨h.cn _, hs⟩
 refine nS (aa (aA h 14 rfl aU rfl rfl) ?_)
 obtain ⟨a150, hs⟩ := bB hs
 refine aa (dP rfl rfl a150) (gq h 14 [(I6 ((y98 + 1)))] rfl aU rfl rfl rfl rfl rfl fun w h => nJ (aa (aA h 2 rfl qQ rfl rfl) (aa (aA h 14 rfl aU rfl rfl) ?_)))
 obtain ⟨a151, hs⟩ := bB hs
 refine aa (mV rfl rfl a151) ?_
 obtain ⟨x152, e153, hs⟩ := aK hs
 obtain ⟨b155, o156, cs157, h, r158, i154⟩ := h.Cm 1 117 rfl gN rfl (aB e153).1 (aB e153).2
 obtain rfl := r158
 refine aa (i154 _ _ _ _ _ _ _ _ _ rfl rfl) (aa (fq (k := 0) h 117 rfl Cy rfl rfl) (aa (ae (v := (aV x152)) rfl) (nR (dD (v := (aV x152)) Tryz.results103 rfl (⟨_, rfl, ?_⟩)))))
 refine aa (LM rfl rfl) (az (au ?_))
 exact bQ (decide ((x152 : Str) ≠ [102, 117, 110]), (y98 + 1), y99) ⟨h.cn _, hs⟩
 rw [sj (by have := of_decide_eq_false Jq; omega)] at hs
 refine iL (bI (bI (eH (ak (aM (bX (σ := Bool) (inl (rg 104 19)) (fun x159 => [(122, (.bool (x159)))]) (fun x159 w => SH w0 M BE w (hset [(3, .blk b7 [v14]), (7, .own kD 113 v14 vU)]) ∧ lv vU x159 = some r) ?_ ?_))))))
 rintro x159 w dO ⟨h, hs⟩
 refine aI hs rfl (fun c160 hs => ?_) (fun c160 hs => ?_)
 refine nG (aa (ae (v := (.slice none 0 0)) rfl) (aa (ae (v := (I6 1)) rfl) (nR (ay (Jd (v1 := (.slice none 0 0)) (v2 := (I6 1)) Tryz.results77 rfl rfl ?_)))))
 obtain rfl := fP hs
 exact ⟨h.grown, _, rfl, fI.nil, lN⟩
 refine nS (aa (aA h 3 rfl Cx rfl rfl) (aa (ae (v := v14) rfl) (aa (ae (v := (I6 0)) rfl) (nR (Jd (v1 := v14) (v2 := (I6 0)) Tryz.results77 rfl rfl ?_)))))
 obtain rfl := fP hs
 exact ⟨h.grown, _, rfl, (h.jQ 7 rfl).1, (h.jQ 7 rfl).2⟩
 refine aC (aa (aA h 15 rfl BB rfl rfl) (aa (gL rfl) (aa (ah (v := (.bool ((!y99)))) rfl) (aG rfl rfl (fun q => aA h 14 rfl aU rfl rfl) (aG rfl rfl (fun q => aA h 2 rfl qQ rfl rfl) (aG rfl rfl (fun q => bW gN (eD q) (h.ny 1 rfl)) (aG rfl rfl (fun q => eB (eD q) (eD q)) (aa (iJ rfl rfl nC) (aa (ah (v := (.bool (((!y99) || decide ((y98 : Int) < (y1.length : Int)))))) rfl) (kT (b := ((!y99) || decide ((y98 : Int) < (y1.length : Int)))) hs (fun Qb hs => ?_) (fun Qb hs => ?_)))))))))))
 refine X3 rfl (cB Qb) rfl (X3 rfl (cB Qb) rfl (X3 rfl (cB Qb) rfl (aa (fB (b := true) (v := (.bool (true))) (cB Qb) rfl) (aa (ah (v := (.bool (true))) rfl) (nM (b' := true) rfl rfl rfl (nM (b' := true) rfl rfl rfl (nM (b' := true) rfl rfl rfl (nM (b' := true) rfl rfl rfl (aa (fB (b := true) (v := (.bool (true))) rfl rfl) (az (au ?_)))))))))))
 exact bQ true ⟨h.cn _, hs⟩
 refine eT rfl (cB Qb) (aa (aA h 3 rfl Cx rfl rfl) (eT rfl (cB Qb) ?_))
 obtain ⟨ZG, e163, hs⟩ := aK hs
 refine aX fnOk112 rfl rfl (BC N _ _ h.lt v14 vU (h.eG 7 rfl) _ e163) ?_
 rintro _ w ⟨k164, rfl⟩
 refine ⟨_, rfl, ?_⟩
 replace h := h.grow k164
 refine eT rfl (cB Qb) (aa (iA rfl rfl) (aa (fB (b := false) (v := (.bool (decide ((ZG : Int) ≠ 0)))) (cB Qb) rfl) (aa (ah (v := (.bool (decide ((ZG : Int) ≠ 0)))) rfl) (kT (b := decide ((ZG : Int) ≠ 0)) hs (fun Mo hs => ?_) (fun Mo hs => ?_)))))
 refine X3 rfl (cB Mo) rfl (X3 rfl (cB Mo) rfl (X3 rfl (cB Mo) rfl (X3 rfl (cB Mo) rfl (aa (fB (b := true) (v := (.bool (true))) (cB Mo) rfl) (az (au ?_))))))
 exact bQ true ⟨h.cn _, hs⟩
 refine eT rfl (cB Mo) (aa (aA h 3 rfl Cx rfl rfl) (eT rfl (cB Mo) ?_))
 obtain ⟨y166, e167, hs⟩ := aK hs
 refine aX fnOk113 rfl rfl (BV N _ _ h.lt (hT.go h.keep) v14 vU (h.eG 7 rfl) _ e167) ?_
 rintro _ w ⟨k168, rfl⟩
 refine ⟨_, rfl, ?_⟩
 replace h := h.grow k168
 refine eT rfl (cB Mo) (aa (ah (v := (aV a)) rfl) (eT rfl (cB Mo) (aa (LM rfl rfl) (aa (fB (b := false) (v := (.bool (decide ((y166 : Str) ≠ a)))) (cB Mo) rfl) (az (au ?_))))))
 exact bQ (decide ((y166 : Str) ≠ a)) ⟨h.cn _, hs⟩
def nH (N : Nat) : Option (List iw) :=
  (nU N [102, 117, 110, 32, 48, 32, 49, 32, 123, 32, 115, 101, 116, 32, 48, 32, 51, 32, 119, 104, 105, 108, 101, 32, 118, 48, 32, 123, 32, 115, 97, 121, 32, 102, 49, 32, 118, 48, 32, 118, 48, 32, 103, 111, 32, 118, 48, 32, 112, 97, 117, 115, 101, 32, 115, 101, 116, 32, 48, 32, 45, 32, 118, 48, 32, 49, 32, 125, 32, 125, 32, 102, 117, 110, 32, 50, 32, 50, 32, 123, 32, 114, 101, 116, 117, 114, 110, 32, 42, 32, 118, 48, 32, 118, 49, 32, 125]).bind fun y1 => some y1.1
theorem En (N : Nat) (w0 : World) (M : BS) (hM : ∀ b, M b → b < w0.heap.size) (hT : ze Tryz.prog 4 w0)  (r : List iw) (hs : nH N = some r) :
    Calls Tryz.prog 40 #[] w0 (fun e w' => Grow w0 w' ∧ ∃ u0, e = .returned (u0) ∧ fI kD 113 w' M u0 r ∧ (∀ b, ob u0 b → w0.heap.size ≤ b)) := by
 refine aQ (args := []) Tryz.func40 rfl Tryz.ntmps40 (bF rfl) ?_
 have h := SH.init hM
 refine nG (aa (ae (v := (.slice none 0 0)) rfl) (nJ ?_))
 obtain ⟨y1, e2, hs⟩ := aK hs
 refine aX fnOk77 rfl rfl (Cb N _ _ h.lt (hT.go h.keep) [102, 117, 110, 32, 48, 32, 49, 32, 123, 32, 115, 101, 116, 32, 48, 32, 51, 32, 119, 104, 105, 108, 101, 32, 118, 48, 32, 123, 32, 115, 97, 121, 32, 102, 49, 32, 118, 48, 32, 118, 48, 32, 103, 111, 32, 118, 48, 32, 112, 97, 117, 115, 101, 32, 115, 101, 116, 32, 48, 32, 45, 32, 118, 48, 32, 49, 32, 125, 32, 125, 32, 102, 117, 110, 32, 50, 32, 50, 32, 123, 32, 114, 101, 116, 117, 114, 110, 32, 42, 32, 118, 48, 32, 118, 49, 32, 125] _ e2) ?_
 rintro _ w ⟨k6, u3, rfl, g4, g5⟩
 refine ⟨_, rfl, ?_⟩
 replace h := h.mK 1 k6 g4 g5
 refine aa (ah (v := (.tuple #[u3, (I6 y1.2)])) rfl) (aa (bu rfl rfl) (aa (bu rfl rfl) (aa (ae (v := u3) rfl) (aa (ae (v := (I6 y1.2)) rfl) (nJ (aa (ah (v := u3) rfl) (aa (ae (v := u3) rfl) (nR (dD (v := u3) Tryz.results40 rfl ?_)))))))))
 obtain rfl := fP hs
 exact ⟨h.grown, _, rfl, (h.jQ 1 rfl).1, (h.jQ 1 rfl).2⟩
def iK (x31 : List Ins) (c : Int) (x34 : Int) (Ab : Int) (SF : Int) (tY : Int) (BD : List Int) : Option (List Ins × Int) :=
  ib (Room 56 x31 [(⟨Ab, c, SF, tY, BD⟩ : Ins)]) (some ((x31 ++ [(⟨Ab, c, SF, tY, BD⟩ : Ins)]), x34))
def uj (F0 : List Tok → List iw → Int → Option (List Ins × Int)) (y9 : Int) (a : List Tok) (c : Int) (b : List iw) (x1 : Tok) (s : List Ins × List Int × Int × Int) (ZI : List Ins × List Int × Int × Int → Option (List Ins × Int)) : Option (List Ins × Int) :=
  match s with | (x31, CE, x34, Ci) => bif decide ((Ci : Int) < y9) then (sub? a x34 (a.length : Int)).bind fun AX => ib (jV (c + Ci)) ((F0 AX b (c + Ci)).bind fun sI => ib (Room 56 x31 sI.1) (ib (jV (x34 + sI.2)) (ib (jV (c + Ci)) (ib (Room 8 CE [(c + Ci)]) (ib (jV (Ci + 1)) (ZI ((x31 ++ sI.1), (CE ++ [(c + Ci)]), (x34 + sI.2), (Ci + 1)))))))) else bif decide ((x1.kind : Int) = 1) then iK x31 c x34 1 x1.n 0 [] else bif decide ((x1.kind : Int) = 2) then iK x31 c x34 2 x1.n 0 [] else bif decide ((x1.kind : Int) = 5) then iK x31 c x34 5 x1.n 0 [] else bif decide ((x1.kind : Int) = 3) then ib (jV (c + 1)) (iK x31 c x34 3 c (c + 1) [x1.n]) else bif decide ((x1.kind : Int) = 4) then iK x31 c x34 4 c x1.n [] else bif decide ((x1.kind : Int) = 6) then iK x31 c x34 7 x1.n 0 CE else iK x31 c x34 0 x1.n 0 []
def zq (N : Nat) (F0 : List Tok → List iw → Int → Option (List Ins × Int)) (a : List Tok) (b : List iw) (c : Int) : Option (List Ins × Int) :=
  (idx a 0).bind fun x1 => (vD x1 b).bind fun y9 => again (uj F0 y9 a c b x1) N ([], [], 1, 0)
def mo : Nat → List Tok → List iw → Int → Option (List Ins × Int)
  | 0 => fun _ _ _ => none
  | N + 1 => zq N (mo N)
theorem zt : ∀ (N : Nat) (w0 : World) (M : BS) (hM : ∀ b, M b → b < w0.heap.size) (va : Value) (a : List Tok) (ha : gy nO w0 BE M va a) (vb : Value) (b : List iw) (hb : gy kD w0 BE M vb b) (c : Int) (r : List Ins × Int) (hs : mo N a b c = some r),
    Calls Tryz.prog 100 #[va, vb, (I6 c)] w0 (fun e w' => Grow w0 w' ∧ ∃ u0, e = .returned (.tuple #[u0, .int .i64 r.2]) ∧ fI kr 93 w' M u0 r.1 ∧ (∀ b, ob u0 b → w0.heap.size ≤ b)) := by
 intro N
 induction N with
 | zero => intro w0 M hM va a ha vb b hb c r hs; cases hs
 | succ N ih =>
 intro w0 M hM va a ha vb b hb c r hs
 replace hs : zq N (mo N) a b c = some r := hs
 generalize mo N = F0 at hs ih
 refine aQ (args := [va, vb, (I6 c)]) Tryz.func100 rfl Tryz.ntmps100 (bF rfl) ?_
 have h := SH.init hM
 replace h := h.gz 1 ha bH
 replace h := h.gz 2 hb (dL bH)
 have vC := ha.bT
 have NF := hb.bT
 refine nG (aa (ae (v := (.slice none 0 0)) rfl) (aa (ae (v := (I6 0)) rfl) (nJ (aa (ah (v := va) rfl) ?_))))
 obtain ⟨x1, e2, hs⟩ := aK hs
 obtain ⟨b4, o5, cs6, h, r7, i3⟩ := h.zP 1 3 rfl nz rfl (aB e2).1 (aB e2).2
 obtain rfl := r7
 refine aa (i3 _ _ _ _ _ _ _ _ _ rfl rfl) (aa (jo (k := 0) (vs := [(I6 x1.kind), (I6 x1.n)]) h 3 rfl mX rfl rfl rfl (bF rfl)) (bP h 4 mX fun w b8 h => dH (vs := [(I6 x1.kind), (I6 x1.n)]) h 4 [(I6 x1.kind), (I6 x1.n)] rfl mX rfl rfl rfl rfl rfl (ai rfl (ai rfl aS)) fun w h => nJ (aa (ae (v := (.slice none 0 0)) rfl) (nJ (aa (ae (v := (.slice none 0 0)) rfl) (nJ (aa (ae (v := (I6 1)) rfl) (nK ?_))))))))
 refine aa (dK (vs := [(I6 x1.kind), (I6 x1.n)]) h 4 rfl mX rfl rfl rfl) (aa (ah (v := vb) rfl) ?_)
 obtain ⟨y9, e10, hs⟩ := aK hs
 refine aX PR rfl rfl (wD _ _ h.lt x1 vb b (h.iV 2 rfl) _ e10) ?_
 rintro _ w ⟨k11, rfl⟩
 refine ⟨_, rfl, ?_⟩
 replace h := h.grow k11
 refine aa (ah (v := (I6 0)) rfl) (nN (aO ?_))
 replace h := h.yj (R := kr) (E := 93) 11
 replace h := h.yj (R := eP) (E := 3) 12
 refine gu (σ := Nat × Value × List Ins × Value × List Int × Int × Int) (inl (rg 9 6 ++ rg 22 27)) (fun ⟨m39, v30, x31, v32, CE, x34, Ci⟩ => [(9, v30), (10, v32), (11, (I6 x34)), (22, (I6 Ci))]) (fun ⟨m39, v30, x31, v32, CE, x34, Ci⟩ w => SH w0 M BE w (hset [(1, .sr nO va a), (2, .sr kD vb b), (4, .blk b8 [(I6 x1.kind), (I6 x1.n)]), (11, .own kr 93 v30 x31), (12, .own eP 3 v32 CE)]) ∧ again (uj F0 y9 a c b x1) m39 (x31, CE, x34, Ci) = some r) (fun ⟨m39, v30, x31, v32, CE, x34, Ci⟩ => m39) ⟨N, (.slice none 0 0), [], (.slice none 0 0), [], 1, 0⟩ ⟨rfl, rfl, rfl, rfl, trivial⟩ ?_ ?_
 exact ⟨h.cn _, hs⟩
 rintro ⟨m39, v30, x31, v32, CE, x34, Ci⟩ w dO ⟨h, hs⟩
 obtain ⟨m391, m39e, m39h⟩ := qA hs
 subst m39e
 replace hs := m39h
 generalize ZJ : again (uj F0 y9 a c b x1) m391 = ZI at hs
 refine nG (aa (eB rfl rfl) (nN (aM (aI hs rfl (fun Tq hs => ?_) (fun Tq hs => ?_)))))
 refine aH (ak (aM (aO (nG (aa (ah (v := (I6 Ci)) rfl) (aa (ae (v := (I6 Ci)) rfl) (nJ (aa (ah (v := va) rfl) (aa (ah (v := (I6 x34)) rfl) ?_)))))))))
 obtain ⟨AX, e45, hs⟩ := aK hs
 obtain ⟨e48, e48a, e48b, e48c⟩ := UR e45
 obtain ⟨u46, h, i47⟩ := h.slS 1 13 rfl nz rfl e48a e48b e48c
 rw [← e48] at h
 refine aa (i47 _ _ _ _ _ _ _ _ _ _ rfl (.inr (congrArg some rfl)) (.inl ⟨rfl, rfl⟩)) (aa (ah (v := vb) rfl) (aa (ah (v := (I6 c)) rfl) (aa (ah (v := (I6 Ci)) rfl) ?_)))
 obtain ⟨a49, hs⟩ := bB hs
 refine aa (dP rfl rfl a49) ?_
 obtain ⟨sI, e51, hs⟩ := aK hs
 refine aX PO rfl rfl (ih _ _ h.lt u46 AX (h.iV 13 rfl) vb b (h.iV 2 rfl) (c + Ci) _ e51) ?_
 rintro _ w ⟨k55, u52, rfl, g53, g54⟩
 refine ⟨_, rfl, ?_⟩
 replace h := h.mK 14 k55 g53 g54
 refine aa (ah (v := (.tuple #[u52, (I6 sI.2)])) rfl) (aa (bu rfl rfl) (aa (bu rfl rfl) (aa (ae (v := u52) rfl) (aa (ae (v := (I6 sI.2)) rfl) (nN (aC (aa (ah (v := v30) rfl) (aa (ah (v := u52) rfl) ?_))))))))
 obtain ⟨a56, hs⟩ := bB hs
 refine lV (R := kr) (m := sI.1) h 11 rfl (h.eG 14 rfl) ic rfl rfl rfl a56.1 a56.2 fun w u57 h => aa (ah (v := (I6 x34)) rfl) (aa (ah (v := (I6 sI.2)) rfl) ?_)
 obtain ⟨a58, hs⟩ := bB hs
 refine aa (dP rfl rfl a58) (aa (ah (v := v32) rfl) (aa (ah (v := (I6 c)) rfl) (aa (ah (v := (I6 Ci)) rfl) ?_)))
 obtain ⟨a59, hs⟩ := bB hs
 refine aa (dP rfl rfl a59) (tL (R := eP) (vs := [(I6 ((c + Ci)))]) (xs := [(c + Ci)]) h 15 jC rfl rfl rfl ⟨rfl, trivial⟩ rfl fun w u60 h => ?_)
 obtain ⟨a61, hs⟩ := bB hs
 refine lV (R := eP) (m := [(c + Ci)]) h 12 rfl (h.eG 15 rfl) jC rfl rfl rfl a61.1 a61.2 fun w u62 h => aa (ae (v := u57) rfl) (aa (ae (v := (I6 ((x34 + sI.2)))) rfl) (aa (ae (v := u62) rfl) (az (ax (ak (aC ?_))))))
 obtain ⟨a63, hs⟩ := bB hs
 refine aa (dP rfl rfl a63) (aa (ah (v := (I6 ((Ci + 1)))) rfl) (az (au ?_)))
 subst ZJ
 exact jB ⟨m391, u57, (x31 ++ sI.1), u62, (CE ++ [(c + Ci)]), (x34 + sI.2), (Ci + 1)⟩ ⟨h.cn _, hs⟩
 refine nE (aa (ah (v := (I6 c)) rfl) (aa (ag rz rfl) (aa (aA h 4 rfl aU rfl rfl) (aa (ek (pv := [(1, (I6 c)), (2, (I6 x1.n))]) (out := [(I6 0), (I6 c), (I6 x1.n), (I6 0), (.slice none 0 0)]) qF rfl ⟨1, 1, [(I6 c)], rfl, rfl, rfl, bF rfl, ⟨2, 1, [(I6 x1.n)], rfl, rfl, rfl, bF rfl, rfl⟩⟩) (bP h 16 nT fun w b64 h => dH (vs := [(I6 0), (I6 c), (I6 x1.n), (I6 0), (.slice none 0 0)]) h 16 [(I6 0), (I6 c), (I6 x1.n), (I6 0), (.slice none 0 0)] rfl nT rfl rfl rfl rfl rfl (ai rfl (ai rfl (ai rfl (ai rfl (ai rfl aS))))) fun w h => nN (bX (σ := Int × Int × Int × Value × List Int) (inl (rg 53 33)) (fun ⟨Ab, SF, tY, v68, BD⟩ => []) (fun ⟨Ab, SF, tY, v68, BD⟩ w => SH w0 M BE w (hset [(11, .own kr 93 v30 x31), (16, .blk b64 [(I6 Ab), (I6 c), (I6 SF), (I6 tY), v68]), (17, .own eP 3 v68 BD)]) ∧ iK x31 c x34 Ab SF tY BD = some r) ?_ ?_))))))
 rintro ⟨Ab, SF, tY, v68, BD⟩ w dO ⟨h, hs⟩
 refine nG (aa (ah (v := v30) rfl) (aa (dK (vs := [(I6 Ab), (I6 c), (I6 SF), (I6 tY), v68]) h 16 rfl nT rfl rfl rfl) ?_))
 replace h := h.freeze 17 rfl
 refine tL (R := kr) (vs := [(.agg #[(I6 Ab), (I6 c), (I6 SF), (I6 tY), v68])]) (xs := [(⟨Ab, c, SF, tY, BD⟩ : Ins)]) h 18 ic rfl rfl rfl ⟨⟨_, rfl, (h.iD 17 rfl)⟩, trivial⟩ rfl fun w u70 h => ?_
 obtain ⟨a71, hs⟩ := bB hs
 refine lV (R := kr) (m := [(⟨Ab, c, SF, tY, BD⟩ : Ins)]) h 11 rfl (h.eG 18 rfl) ic rfl rfl rfl a71.1 a71.2 fun w u72 h => aa (ah (v := (I6 x34)) rfl) (aa (ae (v := u72) rfl) (aa (ae (v := (I6 x34)) rfl) (nR (Jd (v1 := u72) (v2 := (I6 x34)) Tryz.results100 rfl rfl ?_))))
 obtain rfl := fP hs
 exact ⟨h.grown, _, rfl, (h.jQ 11 rfl).1, (h.jQ 11 rfl).2⟩
 refine nG (aa (ag Iu rfl) (aa (aA h 4 rfl aU rfl rfl) (nN (aO (nG (aa (bz rfl rfl) (aa (ae (v := (.bool (decide ((x1.kind : Int) = 1)))) rfl) (nN (aI hs rfl (fun c73 hs => ?_) (fun c73 hs => ?_))))))))))
 refine aC (aa (ag mG rfl) (gq h 16 [(I6 1), (I6 c), (I6 x1.n), (I6 0), (.slice none 0 0)] rfl aU rfl rfl rfl rfl rfl fun w h => az (ax (au ?_))))
 replace h := h.yj (R := eP) (E := 3) 17
 exact bQ (1, x1.n, 0, (.slice none 0 0), []) ⟨h.cn _, hs⟩
 refine nG (aa (bz rfl rfl) (aa (ae (v := (.bool (decide ((x1.kind : Int) = 2)))) rfl) (nN (aI hs rfl (fun c74 hs => ?_) (fun c74 hs => ?_)))))
 refine aC (aa (ag mG rfl) (gq h 16 [(I6 2), (I6 c), (I6 x1.n), (I6 0), (.slice none 0 0)] rfl aU rfl rfl rfl rfl rfl fun w h => az (ax (au ?_))))
 replace h := h.yj (R := eP) (E := 3) 17
 exact bQ (2, x1.n, 0, (.slice none 0 0), []) ⟨h.cn _, hs⟩
 refine nG (aa (bz rfl rfl) (aa (ae (v := (.bool (decide ((x1.kind : Int) = 5)))) rfl) (nN (aI hs rfl (fun c75 hs => ?_) (fun c75 hs => ?_)))))
 refine aC (aa (ag mG rfl) (gq h 16 [(I6 5), (I6 c), (I6 x1.n), (I6 0), (.slice none 0 0)] rfl aU rfl rfl rfl rfl rfl fun w h => az (ax (au ?_))))
 replace h := h.yj (R := eP) (E := 3) 17
 exact bQ (5, x1.n, 0, (.slice none 0 0), []) ⟨h.cn _, hs⟩
 refine nG (aa (bz rfl rfl) (aa (ae (v := (.bool (decide ((x1.kind : Int) = 3)))) rfl) (nN (aI hs rfl (fun c76 hs => ?_) (fun c76 hs => ?_)))))
 refine aC (aa (ah (v := (I6 c)) rfl) (aa (ah (v := (I6 c)) rfl) (aa (ah (v := (I6 c)) rfl) ?_)))
 obtain ⟨a77, hs⟩ := bB hs
 refine aa (dP rfl rfl a77) (aa (ag rz rfl) (aa (aA h 4 rfl aU rfl rfl) (tL (R := eP) (vs := [(I6 x1.n)]) (xs := [x1.n]) h 19 jC rfl rfl rfl ⟨rfl, trivial⟩ rfl fun w QC h => aa (ek (pv := [(0, (I6 3)), (1, (I6 c)), (2, (I6 c)), (3, (I6 ((c + 1)))), (4, QC)]) (out := [(I6 3), (I6 c), (I6 c), (I6 ((c + 1))), QC]) qF rfl ⟨0, 1, [(I6 3)], rfl, rfl, rfl, bF rfl, ⟨1, 1, [(I6 c)], rfl, rfl, rfl, bF rfl, ⟨2, 1, [(I6 c)], rfl, rfl, rfl, bF rfl, ⟨3, 1, [(I6 ((c + 1)))], rfl, rfl, rfl, bF rfl, ⟨4, 1, [QC], rfl, (fM (h.dm 19 rfl).one), rfl, bF rfl, rfl⟩⟩⟩⟩⟩) (dH (vs := [(I6 3), (I6 c), (I6 c), (I6 ((c + 1))), QC]) h 16 [(I6 3), (I6 c), (I6 c), (I6 ((c + 1))), QC] rfl nT rfl rfl rfl rfl rfl (ai rfl (ai rfl (ai rfl (ai rfl (ai (h.dm 19 rfl).one aS))))) fun w h => az (ax (au ?_))))))
 replace h := h.EB 19 17 rfl rfl (by decide)
 exact bQ (3, c, (c + 1), QC, [x1.n]) ⟨h.cn _, hs⟩
 refine nG (aa (bz rfl rfl) (aa (ae (v := (.bool (decide ((x1.kind : Int) = 4)))) rfl) (nN (aI hs rfl (fun c79 hs => ?_) (fun c79 hs => ?_)))))
 refine aC (aa (ah (v := (I6 c)) rfl) (aa (ah (v := (I6 c)) rfl) (aa (ag rz rfl) (aa (aA h 4 rfl aU rfl rfl) (aa (ek (pv := [(0, (I6 4)), (1, (I6 c)), (2, (I6 c)), (3, (I6 x1.n))]) (out := [(I6 4), (I6 c), (I6 c), (I6 x1.n), (.slice none 0 0)]) qF rfl ⟨0, 1, [(I6 4)], rfl, rfl, rfl, bF rfl, ⟨1, 1, [(I6 c)], rfl, rfl, rfl, bF rfl, ⟨2, 1, [(I6 c)], rfl, rfl, rfl, bF rfl, ⟨3, 1, [(I6 x1.n)], rfl, rfl, rfl, bF rfl, rfl⟩⟩⟩⟩) (dH (vs := [(I6 4), (I6 c), (I6 c), (I6 x1.n), (.slice none 0 0)]) h 16 [(I6 4), (I6 c), (I6 c), (I6 x1.n), (.slice none 0 0)] rfl nT rfl rfl rfl rfl rfl (ai rfl (ai rfl (ai rfl (ai rfl (ai rfl aS))))) fun w h => az (ax (au ?_))))))))
 replace h := h.yj (R := eP) (E := 3) 17
 exact bQ (4, c, x1.n, (.slice none 0 0), []) ⟨h.cn _, hs⟩
 refine nG (aa (bz rfl rfl) (aa (ae (v := (.bool (decide ((x1.kind : Int) = 6)))) rfl) (nN (aI hs rfl (fun c80 hs => ?_) (fun c80 hs => ?_)))))
 refine aC (aa (ah (v := v32) rfl) (aa (ag mG rfl) (gq h 16 [(I6 7), (I6 c), (I6 x1.n), (I6 0), (.slice none 0 0)] rfl aU rfl rfl rfl rfl rfl fun w h => aa (ag qZ rfl) (gq h 16 [(I6 7), (I6 c), (I6 x1.n), (I6 0), v32] rfl qD rfl rfl rfl rfl (h.dm 12 rfl).one fun w h => az (ax (au ?_))))))
 replace h := h.EB 12 17 rfl rfl (by decide)
 exact bQ (7, x1.n, 0, v32, CE) ⟨h.cn _, hs⟩
 refine aH (ax (au ?_))
 replace h := h.yj (R := eP) (E := 3) 17
 exact bQ (0, x1.n, 0, (.slice none 0 0), []) ⟨h.cn _, hs⟩
def gG (x8 : List Ins) (ql : List Ins → Option (List Ins)) (x34 : List Ins) : Option (List Ins) :=
  ib (Room 56 x8 x34) (ql (x8 ++ x34))
def sQ (x32 : List Ins) (c : Int) (d : Int) (x8 : List Ins) (Ey : List Ins) (Vo : List Ins) (ql : List Ins → Option (List Ins)) (x90 : Int) : Option (List Ins) :=
  ib (Room 56 x32 [(⟨13, c, (((((d + (x8.length : Int)) + (x32.length : Int)) + 1) + (Ey.length : Int)) + 1), 0, []⟩ : Ins)]) (ib (Room 56 (x32 ++ [(⟨13, c, (((((d + (x8.length : Int)) + (x32.length : Int)) + 1) + (Ey.length : Int)) + 1), 0, []⟩ : Ins)]) Ey) (ib (Room 56 ((x32 ++ [(⟨13, c, (((((d + (x8.length : Int)) + (x32.length : Int)) + 1) + (Ey.length : Int)) + 1), 0, []⟩ : Ins)]) ++ Ey) [(⟨12, 0, x90, 0, []⟩ : Ins)]) (ib (Room 56 (((x32 ++ [(⟨13, c, (((((d + (x8.length : Int)) + (x32.length : Int)) + 1) + (Ey.length : Int)) + 1), 0, []⟩ : Ins)]) ++ Ey) ++ [(⟨12, 0, x90, 0, []⟩ : Ins)]) Vo) (gG x8 ql ((((x32 ++ [(⟨13, c, (((((d + (x8.length : Int)) + (x32.length : Int)) + 1) + (Ey.length : Int)) + 1), 0, []⟩ : Ins)]) ++ Ey) ++ [(⟨12, 0, x90, 0, []⟩ : Ins)]) ++ Vo)))))
def sS (F0 : List bR → List iw → Int → Int → Option (List Ins)) (d : Int) (x8 : List Ins) (x32 : List Ins) (gB : bR) (a : List bR) (b : List iw) (c : Int) (ql : List Ins → Option (List Ins)) (x69 : Bool) : Option (List Ins) :=
  bif x69 then ib (jV ((d + (x8.length : Int)) + (x32.length : Int))) (ib (jV (((d + (x8.length : Int)) + (x32.length : Int)) + 1)) ((F0 gB.a b c (((d + (x8.length : Int)) + (x32.length : Int)) + 1)).bind fun Ey => ib (jV ((d + (x8.length : Int)) + (x32.length : Int))) (ib (jV (((d + (x8.length : Int)) + (x32.length : Int)) + 1)) (ib (jV ((((d + (x8.length : Int)) + (x32.length : Int)) + 1) + (Ey.length : Int))) (ib (jV (((((d + (x8.length : Int)) + (x32.length : Int)) + 1) + (Ey.length : Int)) + 1)) ((F0 gB.b b c (((((d + (x8.length : Int)) + (x32.length : Int)) + 1) + (Ey.length : Int)) + 1)).bind fun Vo => ib (jV ((((((d + (x8.length : Int)) + (x32.length : Int)) + 1) + (Ey.length : Int)) + 1) + (Vo.length : Int))) (bif decide ((gB.kind : Int) = 7) then sQ x32 c d x8 Ey Vo ql (d + (x8.length : Int)) else sQ x32 c d x8 Ey Vo ql ((((((d + (x8.length : Int)) + (x32.length : Int)) + 1) + (Ey.length : Int)) + 1) + (Vo.length : Int))))))))) else gG x8 ql x32
def sU (N : Nat) (F0 : List bR → List iw → Int → Int → Option (List Ins)) (gB : bR) (c : Int) (x8 : List Ins) (ql : List Ins → Option (List Ins)) (b : List iw) (d : Int) (a : List bR) (x32 : List Ins) : Option (List Ins) :=
  bif decide ((gB.kind : Int) = 1) then ib (Room 56 x32 [(⟨2, gB.n, c, 0, []⟩ : Ins)]) (gG x8 ql (x32 ++ [(⟨2, gB.n, c, 0, []⟩ : Ins)])) else bif decide ((gB.kind : Int) = 2) then ib (jV (c + 1)) ((mo N gB.f b (c + 1)).bind fun DN => ib (jV (c + 1)) (ib (Room 56 x32 DN.1) (ib (Room 56 (x32 ++ DN.1) [(⟨6, c, (c + 1), gB.n, []⟩ : Ins)]) (gG x8 ql ((x32 ++ DN.1) ++ [(⟨6, c, (c + 1), gB.n, []⟩ : Ins)]))))) else bif decide ((gB.kind : Int) = 3) then ib (Room 56 x32 [(⟨9, c, 0, 0, []⟩ : Ins)]) (gG x8 ql (x32 ++ [(⟨9, c, 0, 0, []⟩ : Ins)])) else bif decide ((gB.kind : Int) = 4) then ib (Room 56 x32 [(⟨10, 0, 0, 0, []⟩ : Ins)]) (gG x8 ql (x32 ++ [(⟨10, 0, 0, 0, []⟩ : Ins)])) else bif decide ((gB.kind : Int) = 5) then ib (Room 56 x32 [(⟨11, c, 0, 0, []⟩ : Ins)]) (gG x8 ql (x32 ++ [(⟨11, c, 0, 0, []⟩ : Ins)])) else bif decide ((gB.kind : Int) = 8) then ib (Room 56 x32 [(⟨8, c, 0, 0, []⟩ : Ins)]) (gG x8 ql (x32 ++ [(⟨8, c, 0, 0, []⟩ : Ins)])) else bif decide ((gB.kind : Int) = 6) then sS F0 d x8 x32 gB a b c ql (decide ((gB.kind : Int) = 6)) else sS F0 d x8 x32 gB a b c ql (decide ((gB.kind : Int) = 7))
def sV (N : Nat) (F0 : List bR → List iw → Int → Int → Option (List Ins)) (d : Int) (b : List iw) (c : Int) (a : List bR) (gB : bR) (x8 : List Ins) (ql : List Ins → Option (List Ins)) : Option (List Ins) :=
  ib (jV (d + (x8.length : Int))) (bif decide ((0 : Int) < (gB.e.length : Int)) then (mo N gB.e b c).bind fun y104 => sU N F0 gB c x8 ql b d a y104.1 else sU N F0 gB c x8 ql b d a [])
def sW (x8 : List Ins) : Option (List Ins) :=
  some x8
def zu (N : Nat) (F0 : List bR → List iw → Int → Int → Option (List Ins)) (a : List bR) (b : List iw) (c : Int) (d : Int) : Option (List Ins) :=
  each (sV N F0 d b c a) sW a []
def pF : Nat → List bR → List iw → Int → Int → Option (List Ins)
  | 0 => fun _ _ _ _ => none
  | N + 1 => zu N (pF N)
theorem zw : ∀ (N : Nat) (w0 : World) (M : BS) (hM : ∀ b, M b → b < w0.heap.size) (va : Value) (a : List bR) (ha : gy gM w0 BE M va a) (vb : Value) (b : List iw) (hb : gy kD w0 BE M vb b) (c : Int) (d : Int) (r : List Ins) (hs : pF N a b c d = some r),
    Calls Tryz.prog 76 #[va, vb, (I6 c), (I6 d)] w0 (fun e w' => Grow w0 w' ∧ ∃ u0, e = .returned (u0) ∧ fI kr 93 w' M u0 r ∧ (∀ b, ob u0 b → w0.heap.size ≤ b)) := by
 intro N
 induction N with
 | zero => intro w0 M hM va a ha vb b hb c d r hs; cases hs
 | succ N ih =>
 intro w0 M hM va a ha vb b hb c d r hs
 replace hs : zu N (pF N) a b c d = some r := hs
 generalize pF N = F0 at hs ih
 refine aQ (args := [va, vb, (I6 c), (I6 d)]) Tryz.func76 rfl Tryz.ntmps76 (bF rfl) ?_
 have h := SH.init hM
 replace h := h.gz 1 ha bH
 replace h := h.gz 2 hb (dL bH)
 have vC := ha.bT
 have NF := hb.bT
 refine nG (aa (ae (v := (.slice none 0 0)) rfl) (nJ (aa (ae (v := (.slice none 0 0)) rfl) (nK (aa (ah (v := va) rfl) (aa (bW oC rfl (h.iV 1 rfl)) (aa (ah (v := (I6 0)) rfl) (nN (aO ?_)))))))))
 replace h := h.yj (R := kr) (E := 93) 6
 refine gu (σ := Nat × Int × Value × List Ins) (inl ([9] ++ rg 11 9 ++ rg 22 134)) (fun ⟨k9, i10, v7, x8⟩ => [(9, v7), (22, (I6 i10))]) (fun ⟨k9, i10, v7, x8⟩ w => SH w0 M BE w (hset [(1, .sr gM va a), (2, .sr kD vb b), (6, .own kr 93 v7 x8)]) ∧ i10 = (k9 : Int) ∧ each (sV N F0 d b c a) sW (a.drop k9) x8 = some r) (fun ⟨k9, i10, v7, x8⟩ => a.length - k9) ⟨0, 0, (.slice none 0 0), []⟩ ⟨rfl, rfl, trivial⟩ ?_ ?_
 exact ⟨h.cn _, rfl, hs⟩
 rintro ⟨k9, i10, v7, x8⟩ w dO ⟨h, hik, hs⟩
 refine nG ?_
 refine aa (eB rfl rfl) (nN ?_)
 refine aM (gK rfl (fun e14 => ?_) (fun e14 => ?_))
 refine aH (ak ?_)
 obtain ⟨gB, Tv, Tw⟩ := fU (hik ▸ e14)
 rw [Tw, dV] at hs
 generalize Mj : each (sV N F0 d b c a) sW (a.drop (k9 + 1)) = ql at hs
 have Tx := gm ((h.iV 1 rfl)).bT hik e14
 refine aM (aO (nG ?_))
 obtain ⟨b17, o18, cs19, h, Zr, i16⟩ := h.zP 1 7 rfl oC rfl (iI hik) (fZ hik Tv)
 obtain ⟨u21, u23, u25, u27, rfl, g22, g24, g26, g28⟩ := Dy Zr
 replace h := h.dA 8 g22.up
 replace h := h.dA 9 g24.up.up
 replace h := h.dA 10 g26.up.up.up
 replace h := h.dA 11 g28.up.up.up.up
 refine aa (i16 _ _ _ _ _ _ _ _ _ rfl rfl) (aa (jo (k := 0) (vs := [(I6 gB.kind), (I6 gB.n), u21, u23, u25, u27]) h 7 rfl sD rfl rfl rfl (bF rfl)) (bP h 12 sD fun w b29 h => dH (vs := [(I6 gB.kind), (I6 gB.n), u21, u23, u25, u27]) h 12 [(I6 gB.kind), (I6 gB.n), u21, u23, u25, u27] rfl sD rfl rfl rfl rfl rfl (ai rfl (ai rfl (ai (h.iD 8 rfl).one (ai (h.iD 9 rfl).one (ai (h.iD 10 rfl).one (ai (h.iD 11 rfl).one aS)))))) fun w h => nJ (aa (ah (v := (I6 d)) rfl) (aa (ah (v := v7) rfl) (aa (bW iy rfl (h.eG 6 rfl)) ?_)))))
 obtain ⟨a30, hs⟩ := bB hs
 refine aa (dP rfl rfl a30) (aa (ae (v := (I6 ((d + (x8.length : Int))))) rfl) (nJ (aa (ae (v := (.slice none 0 0)) rfl) (nN (bX (σ := Value × List Ins) (inl ([13] ++ rg 30 12)) (fun ⟨v31, x32⟩ => [(13, v31)]) (fun ⟨v31, x32⟩ w => SH w0 M BE w (hset [(1, .sr gM va a), (2, .sr kD vb b), (6, .own kr 93 v7 x8), (8, .rd nO u21 gB.e), (9, .rd nO u23 gB.f), (10, .rd gM u25 gB.a), (11, .rd gM u27 gB.b), (12, .blk b29 [(I6 gB.kind), (I6 gB.n), u21, u23, u25, u27]), (13, .own kr 93 v31 x32)]) ∧ sU N F0 gB c x8 ql b d a x32 = some r) ?_ ?_)))))
 rintro ⟨v31, x32⟩ w dO ⟨h, hs⟩
 refine bX (σ := Value × List Ins) (inl (rg 13 7 ++ rg 42 110)) (fun ⟨v33, x34⟩ => [(13, v33)]) (fun ⟨v33, x34⟩ w => SH w0 M BE w (hset [(1, .sr gM va a), (2, .sr kD vb b), (6, .own kr 93 v7 x8), (13, .own kr 93 v33 x34)]) ∧ gG x8 ql x34 = some r) ?_ ?_
 rintro ⟨v33, x34⟩ w dO ⟨h, hs⟩
 refine aC (aa (ah (v := v7) rfl) (aa (ah (v := v33) rfl) ?_))
 obtain ⟨a35, hs⟩ := bB hs
 refine lV (R := kr) (m := x34) h 6 rfl (h.eG 13 rfl) ic rfl rfl rfl a35.1 a35.2 fun w u36 h => aa (ae (v := u36) rfl) (az (ax (ak (aC (aa (dP rfl rfl Tx) (aa (ah (v := (I6 ((i10 + 1)))) rfl) (az (au ?_))))))))
 subst Mj
 exact jB ⟨k9 + 1, i10 + 1, u36, (x8 ++ x34)⟩ ⟨h.cn _, by omega, hs⟩ (by have := p8 e14; dsimp only; omega)
 refine nG (aa (ag mO rfl) (aa (aA h 12 rfl aU rfl rfl) (nN (aO (nG (aa (bz rfl rfl) (aa (ae (v := (.bool (decide ((gB.kind : Int) = 1)))) rfl) (nN (aI hs rfl (fun c37 hs => ?_) (fun c37 hs => ?_))))))))))
 refine aC (aa (ah (v := v31) rfl) (aa (ag zg rfl) (aa (aA h 12 rfl aU rfl rfl) (aa (ah (v := (I6 c)) rfl) (aa (ek (pv := [(0, (I6 2)), (1, (I6 gB.n)), (2, (I6 c))]) (out := [(I6 2), (I6 gB.n), (I6 c), (I6 0), (.slice none 0 0)]) qF rfl ⟨0, 1, [(I6 2)], rfl, rfl, rfl, bF rfl, ⟨1, 1, [(I6 gB.n)], rfl, rfl, rfl, bF rfl, ⟨2, 1, [(I6 c)], rfl, rfl, rfl, bF rfl, rfl⟩⟩⟩) (tL (R := kr) (vs := [(.agg #[(I6 2), (I6 gB.n), (I6 c), (I6 0), (.slice none 0 0)])]) (xs := [(⟨2, gB.n, c, 0, []⟩ : Ins)]) h 14 ic rfl rfl rfl ⟨⟨_, rfl, gy.nil⟩, trivial⟩ rfl fun w u38 h => ?_))))))
 obtain ⟨a39, hs⟩ := bB hs
 refine lV (R := kr) (m := [(⟨2, gB.n, c, 0, []⟩ : Ins)]) h 13 rfl (h.eG 14 rfl) ic rfl rfl rfl a39.1 a39.2 fun w u40 h => aa (ae (v := u40) rfl) (az (ax (au ?_)))
 exact bQ (u40, (x32 ++ [(⟨2, gB.n, c, 0, []⟩ : Ins)])) ⟨h.cn _, hs⟩
 refine nG (aa (bz rfl rfl) (aa (ae (v := (.bool (decide ((gB.kind : Int) = 2)))) rfl) (nN (aI hs rfl (fun c41 hs => ?_) (fun c41 hs => ?_)))))
 refine nG (aa (ag EL rfl) (aa (aA h 12 rfl AR rfl rfl) (aa (ah (v := vb) rfl) (aa (ah (v := (I6 c)) rfl) ?_))))
 obtain ⟨a42, hs⟩ := bB hs
 refine aa (dP rfl rfl a42) ?_
 obtain ⟨DN, e44, hs⟩ := aK hs
 refine aX PO rfl rfl (zt N _ _ h.lt u23 gB.f (h.ny 9 rfl) vb b (h.iV 2 rfl) (c + 1) _ e44) ?_
 rintro _ w ⟨k48, u45, rfl, g46, g47⟩
 refine ⟨_, rfl, ?_⟩
 replace h := h.mK 15 k48 g46 g47
 refine aa (ah (v := (.tuple #[u45, (I6 DN.2)])) rfl) (aa (bu rfl rfl) (aa (bu rfl rfl) (aa (ae (v := u45) rfl) (aa (ae (v := (I6 DN.2)) rfl) (nN (kI (L := (ob v31)) mixed h fun w h => bE 0 (aP.refl _ _) rfl aj (by kernel_rfl) (by kernel_rfl) (by kernel_rfl) (fun w hk => ah (v := v31) rfl) (bE 1 (aP.refl _ _) rfl aj (by kernel_rfl) (by kernel_rfl) (by kernel_rfl) (fun w hk => ah (v := u45) rfl) (bE 3 (aP.refl _ _) rfl aj (by kernel_rfl) (by kernel_rfl) (by kernel_rfl) (fun w hk => ah (v := (I6 c)) rfl) (bE 4 (aP.refl _ _) rfl aj (by kernel_rfl) (by kernel_rfl) (by kernel_rfl) (fun w hk => ah (v := (I6 c)) rfl) ?_)))))))))
 obtain ⟨ZK, hs⟩ := bB hs
 refine bE 5 (aP.refl _ _) rfl aj (by kernel_rfl) (by kernel_rfl) (by kernel_rfl) (fun w hk => dP rfl rfl ZK) (bE 6 (aP.refl _ _) rfl aj (by kernel_rfl) (by kernel_rfl) (by kernel_rfl) (fun w hk => ag zg rfl) (bE 7 (aP.refl _ _) rfl aj (by kernel_rfl) (by kernel_rfl) (by kernel_rfl) (fun w hk => have h := h.qB 13 rfl hk; aA h 12 rfl aU rfl rfl) (bE 8 (aP.refl _ _) rfl aj (by kernel_rfl) (by kernel_rfl) (by kernel_rfl) (fun w hk => ek (pv := [(0, (I6 6)), (1, (I6 c)), (2, (I6 ((c + 1)))), (3, (I6 gB.n))]) (out := [(I6 6), (I6 c), (I6 ((c + 1))), (I6 gB.n), (.slice none 0 0)]) qF rfl ⟨0, 1, [(I6 6)], rfl, rfl, rfl, bF rfl, ⟨1, 1, [(I6 c)], rfl, rfl, rfl, bF rfl, ⟨2, 1, [(I6 ((c + 1)))], rfl, rfl, rfl, bF rfl, ⟨3, 1, [(I6 gB.n)], rfl, rfl, rfl, bF rfl, rfl⟩⟩⟩⟩) ?_)))
 obtain ⟨IB, hs⟩ := bB hs
 obtain ⟨FN, hs⟩ := bB hs
 obtain ⟨TQ, ws51e⟩ : ∃ x, x = w := ⟨_, rfl⟩
 have xg : aP (ob v31) TQ w := ws51e ▸ aP.refl (ob v31) w
 refine rf ws51e.symm (nD 2 9 (by kernel_rfl) rfl aj rfl aj ?_ ?_)
 have Ww := xg.size
 refine mF (R := kr) (m := DN.1) h 13 rfl (h.eG 15 rfl) ic rfl rfl rfl IB.1 IB.2 fun w Mq h Js Jt => ?_
 have CO : ∀ b, ob Mq b → b < TQ.heap.size → ob v31 b := fun b hb hl => Jt b hb (Nat.lt_of_lt_of_le hl (xg).size)
 replace xg := xg.same Js
 refine az (aR xg (bA 9 (by kernel_rfl) rfl aj (xu (R := kr) (vs := [(.agg #[(I6 6), (I6 c), (I6 ((c + 1))), (I6 gB.n), (.slice none 0 0)])]) (xs := [(⟨6, c, (c + 1), gB.n, []⟩ : Ins)]) h 124 ic rfl rfl rfl ⟨⟨_, rfl, gy.nil⟩, trivial⟩ rfl fun w Mr h Ju Jv => ?_)))
 have Wx : ∀ b, ob Mr b → TQ.heap.size ≤ b := fun b hb => Nat.le_trans xg.size (Jv b hb)
 replace xg := xg.grow Ju
 refine az (aR xg (bA 10 (by kernel_rfl) rfl aj ?_))
 have TR := xg.size
 refine mF (R := kr) (m := [(⟨6, c, (c + 1), gB.n, []⟩ : Ins)]) h 13 rfl (h.eG 124 rfl) ic rfl rfl rfl FN.1 FN.2 fun w yC h Gz GA => ?_
 have TS : ∀ b, ob yC b → b < TQ.heap.size → ob v31 b := fun b hb hl => CO b (GA b hb (Nat.lt_of_lt_of_le hl (xg).size)) hl
 replace xg := aP.step xg Gz (fun x hx hl => CO x hx hl)
 refine az (aR xg (dG 11 xg rfl (by kernel_rfl) (fun w hk => ae (v := yC) rfl) (fK (by kernel_rfl) (ax (au ?_)))))
 exact bQ (yC, ((x32 ++ DN.1) ++ [(⟨6, c, (c + 1), gB.n, []⟩ : Ins)])) ⟨h.cn _, hs⟩
 refine xu (R := kr) (vs := [(.agg #[(I6 6), (I6 c), (I6 ((c + 1))), (I6 gB.n), (.slice none 0 0)])]) (xs := [(⟨6, c, (c + 1), gB.n, []⟩ : Ins)]) h 124 ic rfl rfl rfl ⟨⟨_, rfl, gy.nil⟩, trivial⟩ rfl fun w Mr h Ju Jv => ?_
 have Wx : ∀ b, ob Mr b → TQ.heap.size ≤ b := fun b hb => Nat.le_trans xg.size (Jv b hb)
 replace xg := xg.grow Ju
 refine az (aR xg (bA 2 (by kernel_rfl) rfl aj ?_))
 have Ww := xg.size
 refine mF (R := kr) (m := DN.1) h 13 rfl (h.eG 15 rfl) ic rfl rfl rfl IB.1 IB.2 fun w Mq h Js Jt => ?_
 have CO : ∀ b, ob Mq b → b < TQ.heap.size → ob v31 b := fun b hb hl => Jt b hb (Nat.lt_of_lt_of_le hl (xg).size)
 replace xg := xg.same Js
 refine az (aR xg (bA 10 (by kernel_rfl) rfl aj ?_))
 have TR := xg.size
 refine mF (R := kr) (m := [(⟨6, c, (c + 1), gB.n, []⟩ : Ins)]) h 13 rfl (h.eG 124 rfl) ic rfl rfl rfl FN.1 FN.2 fun w yC h Gz GA => ?_
 have TS : ∀ b, ob yC b → b < TQ.heap.size → ob v31 b := fun b hb hl => CO b (GA b hb (Nat.lt_of_lt_of_le hl (xg).size)) hl
 replace xg := aP.step xg Gz (fun x hx hl => CO x hx hl)
 refine az (aR xg (dG 11 xg rfl (by kernel_rfl) (fun w hk => ae (v := yC) rfl) (fK (by kernel_rfl) (ax (au ?_)))))
 exact bQ (yC, ((x32 ++ DN.1) ++ [(⟨6, c, (c + 1), gB.n, []⟩ : Ins)])) ⟨h.cn _, hs⟩
 refine nG (aa (bz rfl rfl) (aa (ae (v := (.bool (decide ((gB.kind : Int) = 3)))) rfl) (nN (aI hs rfl (fun c53 hs => ?_) (fun c53 hs => ?_)))))
 refine aC (aa (ah (v := v31) rfl) (aa (ah (v := (I6 c)) rfl) (aa (ek (pv := [(0, (I6 9)), (1, (I6 c))]) (out := [(I6 9), (I6 c), (I6 0), (I6 0), (.slice none 0 0)]) qF rfl ⟨0, 1, [(I6 9)], rfl, rfl, rfl, bF rfl, ⟨1, 1, [(I6 c)], rfl, rfl, rfl, bF rfl, rfl⟩⟩) (tL (R := kr) (vs := [(.agg #[(I6 9), (I6 c), (I6 0), (I6 0), (.slice none 0 0)])]) (xs := [(⟨9, c, 0, 0, []⟩ : Ins)]) h 172 ic rfl rfl rfl ⟨⟨_, rfl, gy.nil⟩, trivial⟩ rfl fun w u54 h => ?_))))
 obtain ⟨a55, hs⟩ := bB hs
 refine lV (R := kr) (m := [(⟨9, c, 0, 0, []⟩ : Ins)]) h 13 rfl (h.eG 172 rfl) ic rfl rfl rfl a55.1 a55.2 fun w u56 h => aa (ae (v := u56) rfl) (az (ax (au ?_)))
 exact bQ (u56, (x32 ++ [(⟨9, c, 0, 0, []⟩ : Ins)])) ⟨h.cn _, hs⟩
 refine nG (aa (bz rfl rfl) (aa (ae (v := (.bool (decide ((gB.kind : Int) = 4)))) rfl) (nN (aI hs rfl (fun c57 hs => ?_) (fun c57 hs => ?_)))))
 refine aC (aa (ah (v := v31) rfl) (aa (ek (pv := [(0, (I6 10))]) (out := [(I6 10), (I6 0), (I6 0), (I6 0), (.slice none 0 0)]) qF rfl ⟨0, 1, [(I6 10)], rfl, rfl, rfl, bF rfl, rfl⟩) (tL (R := kr) (vs := [(.agg #[(I6 10), (I6 0), (I6 0), (I6 0), (.slice none 0 0)])]) (xs := [(⟨10, 0, 0, 0, []⟩ : Ins)]) h 173 ic rfl rfl rfl ⟨⟨_, rfl, gy.nil⟩, trivial⟩ rfl fun w u58 h => ?_)))
 obtain ⟨a59, hs⟩ := bB hs
 refine lV (R := kr) (m := [(⟨10, 0, 0, 0, []⟩ : Ins)]) h 13 rfl (h.eG 173 rfl) ic rfl rfl rfl a59.1 a59.2 fun w u60 h => aa (ae (v := u60) rfl) (az (ax (au ?_)))
 exact bQ (u60, (x32 ++ [(⟨10, 0, 0, 0, []⟩ : Ins)])) ⟨h.cn _, hs⟩
 refine nG (aa (bz rfl rfl) (aa (ae (v := (.bool (decide ((gB.kind : Int) = 5)))) rfl) (nN (aI hs rfl (fun c61 hs => ?_) (fun c61 hs => ?_)))))
 refine aC (aa (ah (v := v31) rfl) (aa (ah (v := (I6 c)) rfl) (aa (ek (pv := [(0, (I6 11)), (1, (I6 c))]) (out := [(I6 11), (I6 c), (I6 0), (I6 0), (.slice none 0 0)]) qF rfl ⟨0, 1, [(I6 11)], rfl, rfl, rfl, bF rfl, ⟨1, 1, [(I6 c)], rfl, rfl, rfl, bF rfl, rfl⟩⟩) (tL (R := kr) (vs := [(.agg #[(I6 11), (I6 c), (I6 0), (I6 0), (.slice none 0 0)])]) (xs := [(⟨11, c, 0, 0, []⟩ : Ins)]) h 174 ic rfl rfl rfl ⟨⟨_, rfl, gy.nil⟩, trivial⟩ rfl fun w u62 h => ?_))))
 obtain ⟨a63, hs⟩ := bB hs
 refine lV (R := kr) (m := [(⟨11, c, 0, 0, []⟩ : Ins)]) h 13 rfl (h.eG 174 rfl) ic rfl rfl rfl a63.1 a63.2 fun w u64 h => aa (ae (v := u64) rfl) (az (ax (au ?_)))
 exact bQ (u64, (x32 ++ [(⟨11, c, 0, 0, []⟩ : Ins)])) ⟨h.cn _, hs⟩
 refine nG (aa (bz rfl rfl) (aa (ae (v := (.bool (decide ((gB.kind : Int) = 8)))) rfl) (nN (aI hs rfl (fun Al hs => ?_) (fun Al hs => ?_)))))
 refine aC (aa (ah (v := v31) rfl) (aa (ah (v := (I6 c)) rfl) (aa (ek (pv := [(0, (I6 8)), (1, (I6 c))]) (out := [(I6 8), (I6 c), (I6 0), (I6 0), (.slice none 0 0)]) qF rfl ⟨0, 1, [(I6 8)], rfl, rfl, rfl, bF rfl, ⟨1, 1, [(I6 c)], rfl, rfl, rfl, bF rfl, rfl⟩⟩) (tL (R := kr) (vs := [(.agg #[(I6 8), (I6 c), (I6 0), (I6 0), (.slice none 0 0)])]) (xs := [(⟨8, c, 0, 0, []⟩ : Ins)]) h 175 ic rfl rfl rfl ⟨⟨_, rfl, gy.nil⟩, trivial⟩ rfl fun w u66 h => ?_))))
 obtain ⟨a67, hs⟩ := bB hs
 refine lV (R := kr) (m := [(⟨8, c, 0, 0, []⟩ : Ins)]) h 13 rfl (h.eG 175 rfl) ic rfl rfl rfl a67.1 a67.2 fun w u68 h => aa (ae (v := u68) rfl) (az (ax (au ?_)))
 exact bQ (u68, (x32 ++ [(⟨8, c, 0, 0, []⟩ : Ins)])) ⟨h.cn _, hs⟩
 refine bX (σ := Bool) (inl [102, 103, 104]) (fun x69 => [(102, (.bool (x69)))]) (fun x69 w => SH w0 M BE w (hset [(1, .sr gM va a), (2, .sr kD vb b), (6, .own kr 93 v7 x8), (8, .rd nO u21 gB.e), (9, .rd nO u23 gB.f), (10, .rd gM u25 gB.a), (11, .rd gM u27 gB.b), (12, .blk b29 [(I6 gB.kind), (I6 gB.n), u21, u23, u25, u27]), (13, .own kr 93 v31 x32)]) ∧ sS F0 d x8 x32 gB a b c ql x69 = some r) ?_ ?_
 rintro x69 w dO ⟨h, hs⟩
 refine aI hs rfl (fun c70 hs => ?_) (fun c70 hs => ?_)
 refine nG (aa (ag Cv rfl) (aa (aA h 12 rfl ug rfl rfl) (aa (ah (v := vb) rfl) (aa (ah (v := (I6 c)) rfl) (aa (ah (v := (I6 ((d + (x8.length : Int))))) rfl) (aa (ah (v := v31) rfl) (aa (bW iy rfl (h.eG 13 rfl)) ?_)))))))
 obtain ⟨a71, hs⟩ := bB hs
 refine aa (dP rfl rfl a71) ?_
 obtain ⟨a72, hs⟩ := bB hs
 refine aa (dP rfl rfl a72) ?_
 obtain ⟨Ey, e74, hs⟩ := aK hs
 refine aX PW rfl rfl (ih _ _ h.lt u25 gB.a (h.ny 10 rfl) vb b (h.iV 2 rfl) c (((d + (x8.length : Int)) + (x32.length : Int)) + 1) _ e74) ?_
 rintro _ w ⟨k78, u75, rfl, g76, g77⟩
 refine ⟨_, rfl, ?_⟩
 replace h := h.mK 176 k78 g76 g77
 refine aa (ae (v := u75) rfl) (nJ (aa (ah (v := (I6 ((d + (x8.length : Int))))) rfl) (aa (ah (v := v31) rfl) (aa (bW iy rfl (h.eG 13 rfl)) ?_))))
 obtain ⟨a79, hs⟩ := bB hs
 refine aa (dP rfl rfl a79) ?_
 obtain ⟨a80, hs⟩ := bB hs
 refine aa (dP rfl rfl a80) (aa (ah (v := u75) rfl) (aa (bW iy rfl (h.eG 176 rfl)) ?_))
 obtain ⟨a81, hs⟩ := bB hs
 refine aa (dP rfl rfl a81) ?_
 obtain ⟨a82, hs⟩ := bB hs
 refine aa (dP rfl rfl a82) (aa (ae (v := (I6 ((((((d + (x8.length : Int)) + (x32.length : Int)) + 1) + (Ey.length : Int)) + 1)))) rfl) (nJ (aa (ag Cw rfl) (aa (aA h 12 rfl ug rfl rfl) (aa (ah (v := vb) rfl) (aa (ah (v := (I6 c)) rfl) (aa (ah (v := (I6 ((((((d + (x8.length : Int)) + (x32.length : Int)) + 1) + (Ey.length : Int)) + 1)))) rfl) ?_)))))))
 obtain ⟨Vo, e84, hs⟩ := aK hs
 refine aX PW rfl rfl (ih _ _ h.lt u27 gB.b (h.ny 11 rfl) vb b (h.iV 2 rfl) c (((((d + (x8.length : Int)) + (x32.length : Int)) + 1) + (Ey.length : Int)) + 1) _ e84) ?_
 rintro _ w ⟨k88, u85, rfl, g86, g87⟩
 refine ⟨_, rfl, ?_⟩
 replace h := h.mK 177 k88 g86 g87
 refine aa (ae (v := u85) rfl) (nJ (aa (ah (v := (I6 ((((((d + (x8.length : Int)) + (x32.length : Int)) + 1) + (Ey.length : Int)) + 1)))) rfl) (aa (ah (v := u85) rfl) (aa (bW iy rfl (h.eG 177 rfl)) ?_))))
 obtain ⟨a89, hs⟩ := bB hs
 refine aa (dP rfl rfl a89) (aa (ae (v := (I6 (((((((d + (x8.length : Int)) + (x32.length : Int)) + 1) + (Ey.length : Int)) + 1) + (Vo.length : Int))))) rfl) (nN (bX (σ := Int) (inl [19, 134, 135, 136, 137]) (fun x90 => [(19, (I6 x90))]) (fun x90 w => SH w0 M BE w (hset [(1, .sr gM va a), (2, .sr kD vb b), (6, .own kr 93 v7 x8), (13, .own kr 93 v31 x32), (176, .own kr 93 u75 Ey), (177, .own kr 93 u85 Vo)]) ∧ sQ x32 c d x8 Ey Vo ql x90 = some r) ?_ ?_)))
 rintro x90 w dO ⟨h, hs⟩
 refine aC (aa (ah (v := v31) rfl) (aa (ah (v := (I6 c)) rfl) (aa (ah (v := (I6 ((((((d + (x8.length : Int)) + (x32.length : Int)) + 1) + (Ey.length : Int)) + 1)))) rfl) (aa (ek (pv := [(0, (I6 13)), (1, (I6 c)), (2, (I6 ((((((d + (x8.length : Int)) + (x32.length : Int)) + 1) + (Ey.length : Int)) + 1))))]) (out := [(I6 13), (I6 c), (I6 ((((((d + (x8.length : Int)) + (x32.length : Int)) + 1) + (Ey.length : Int)) + 1))), (I6 0), (.slice none 0 0)]) qF rfl ⟨0, 1, [(I6 13)], rfl, rfl, rfl, bF rfl, ⟨1, 1, [(I6 c)], rfl, rfl, rfl, bF rfl, ⟨2, 1, [(I6 ((((((d + (x8.length : Int)) + (x32.length : Int)) + 1) + (Ey.length : Int)) + 1)))], rfl, rfl, rfl, bF rfl, rfl⟩⟩⟩) (tL (R := kr) (vs := [(.agg #[(I6 13), (I6 c), (I6 ((((((d + (x8.length : Int)) + (x32.length : Int)) + 1) + (Ey.length : Int)) + 1))), (I6 0), (.slice none 0 0)])]) (xs := [(⟨13, c, (((((d + (x8.length : Int)) + (x32.length : Int)) + 1) + (Ey.length : Int)) + 1), 0, []⟩ : Ins)]) h 178 ic rfl rfl rfl ⟨⟨_, rfl, gy.nil⟩, trivial⟩ rfl fun w ZA h => ?_)))))
 obtain ⟨a92, hs⟩ := bB hs
 refine lV (R := kr) (m := [(⟨13, c, (((((d + (x8.length : Int)) + (x32.length : Int)) + 1) + (Ey.length : Int)) + 1), 0, []⟩ : Ins)]) h 13 rfl (h.eG 178 rfl) ic rfl rfl rfl a92.1 a92.2 fun w u93 h => aa (ah (v := u75) rfl) ?_
 obtain ⟨a94, hs⟩ := bB hs
 refine lV (R := kr) (m := Ey) h 13 rfl (h.eG 176 rfl) ic rfl rfl rfl a94.1 a94.2 fun w u95 h => aa (ah (v := (I6 x90)) rfl) (aa (ek (pv := [(0, (I6 12)), (2, (I6 x90))]) (out := [(I6 12), (I6 0), (I6 x90), (I6 0), (.slice none 0 0)]) qF rfl ⟨0, 1, [(I6 12)], rfl, rfl, rfl, bF rfl, ⟨2, 1, [(I6 x90)], rfl, rfl, rfl, bF rfl, rfl⟩⟩) (tL (R := kr) (vs := [(.agg #[(I6 12), (I6 0), (I6 x90), (I6 0), (.slice none 0 0)])]) (xs := [(⟨12, 0, x90, 0, []⟩ : Ins)]) h 179 ic rfl rfl rfl ⟨⟨_, rfl, gy.nil⟩, trivial⟩ rfl fun w u96 h => ?_))
 obtain ⟨a97, hs⟩ := bB hs
 refine lV (R := kr) (m := [(⟨12, 0, x90, 0, []⟩ : Ins)]) h 13 rfl (h.eG 179 rfl) ic rfl rfl rfl a97.1 a97.2 fun w u98 h => aa (ah (v := u85) rfl) ?_
 obtain ⟨a99, hs⟩ := bB hs
 refine lV (R := kr) (m := Vo) h 13 rfl (h.eG 177 rfl) ic rfl rfl rfl a99.1 a99.2 fun w u100 h => aa (ae (v := u100) rfl) (az (ax (au ?_)))
 exact bQ (u100, ((((x32 ++ [(⟨13, c, (((((d + (x8.length : Int)) + (x32.length : Int)) + 1) + (Ey.length : Int)) + 1), 0, []⟩ : Ins)]) ++ Ey) ++ [(⟨12, 0, x90, 0, []⟩ : Ins)]) ++ Vo)) ⟨h.cn _, hs⟩
 refine nG (aa (ag mO rfl) (aa (aA h 12 rfl aU rfl rfl) (aa (bz rfl rfl) (nN (aI hs rfl (fun c101 hs => ?_) (fun c101 hs => ?_))))))
 refine aC (aa (ah (v := (I6 ((d + (x8.length : Int))))) rfl) (aa (ae (v := (I6 ((d + (x8.length : Int))))) rfl) (az (au ?_))))
 exact bQ (d + (x8.length : Int)) ⟨h.cn _, hs⟩
 refine aH (au ?_)
 exact bQ ((((((d + (x8.length : Int)) + (x32.length : Int)) + 1) + (Ey.length : Int)) + 1) + (Vo.length : Int)) ⟨h.cn _, hs⟩
 refine aH (ax (au ?_))
 exact bQ (v31, x32) ⟨h.cn _, hs⟩
 refine nG (aa (bz rfl rfl) (aa (ae (v := (.bool (decide ((gB.kind : Int) = 6)))) rfl) (nN (aI hs rfl (fun ZE hs => ?_) (fun ZE hs => ?_)))))
 refine aH (au ?_)
 exact bQ (decide ((gB.kind : Int) = 6)) ⟨h.cn _, hs⟩
 refine aC (aa (bz rfl rfl) (aa (ae (v := (.bool (decide ((gB.kind : Int) = 7)))) rfl) (az (au ?_))))
 exact bQ (decide ((gB.kind : Int) = 7)) ⟨h.cn _, hs⟩
 refine nG (aa (ag Cu rfl) (aa (aA h 12 rfl AR rfl rfl) (aa (bW nz rfl (h.ny 8 rfl)) (aa (lT rfl rfl) (nN (aI hs rfl (fun Wi hs => ?_) (fun Wi hs => ?_)))))))
 refine aC (aa (ag Cu rfl) (aa (aA h 12 rfl AR rfl rfl) (aa (ah (v := vb) rfl) (aa (ah (v := (I6 c)) rfl) ?_))))
 obtain ⟨y104, Jq, hs⟩ := aK hs
 refine aX PO rfl rfl (zt N _ _ h.lt u21 gB.e (h.ny 8 rfl) vb b (h.iV 2 rfl) c _ Jq) ?_
 rintro _ w ⟨k109, ZF, rfl, g107, g108⟩
 refine ⟨_, rfl, ?_⟩
 replace h := h.mK 180 k109 g107 g108
 refine aa (ah (v := (.tuple #[ZF, (I6 y104.2)])) rfl) (aa (bu rfl rfl) (aa (bu rfl rfl) (aa (ae (v := ZF) rfl) (az (au ?_)))))
 replace h := h.EB 180 13 rfl rfl (by decide)
 exact bQ (ZF, y104.1) ⟨h.cn _, hs⟩
 refine aH (au ?_)
 replace h := h.yj (R := kr) (E := 93) 13
 exact bQ ((.slice none 0 0), []) ⟨h.cn _, hs⟩
 rw [fV (hik ▸ e14), fQ] at hs
 refine nE (aa (ah (v := v7) rfl) (aa (ae (v := v7) rfl) (nR (dD (v := v7) Tryz.results76 rfl ?_))))
 obtain rfl := fP hs
 exact ⟨h.grown, _, rfl, (h.jQ 6 rfl).1, (h.jQ 6 rfl).2⟩
def yu (x8 : List bL) (gB : iw) (ql : List bL → Option (List bL)) (Li : List Ins) : Option (List bL) :=
  ib (Room 40 x8 [(⟨gB.params, 30, Li⟩ : bL)]) (ql (x8 ++ [(⟨gB.params, 30, Li⟩ : bL)]))
def uk (N : Nat) (a : List iw) (gB : iw) (x8 : List bL) (ql : List bL → Option (List bL)) : Option (List bL) :=
  (pF N gB.body a gB.locals 0).bind fun EN => ib (Room 56 EN [(⟨1, gB.locals, 0, 0, []⟩ : Ins), (⟨8, gB.locals, 0, 0, []⟩ : Ins)]) (yu x8 gB ql (EN ++ [(⟨1, gB.locals, 0, 0, []⟩ : Ins), (⟨8, gB.locals, 0, 0, []⟩ : Ins)]))
def um (x8 : List bL) : Option (List bL) :=
  some x8
def BN (N : Nat) (a : List iw) : Option (List bL) :=
  each (uk N a) um a []
theorem F9 (N : Nat) (w0 : World) (M : BS) (hM : ∀ b, M b → b < w0.heap.size) (va : Value) (a : List iw) (ha : gy kD w0 BE M va a) (r : List bL) (hs : BN N a = some r) :
    Calls Tryz.prog 39 #[va] w0 (fun e w' => Grow w0 w' ∧ ∃ u0, e = .returned (u0) ∧ fI jk 57 w' M u0 r ∧ (∀ b, ob u0 b → w0.heap.size ≤ b)) := by
 refine aQ (args := [va]) Tryz.func39 rfl Tryz.ntmps39 (bF rfl) ?_
 have h := SH.init hM
 replace h := h.gz 1 ha bH
 have vC := ha.bT
 refine nG (aa (ae (v := (.slice none 0 0)) rfl) (nJ (aa (ae (v := (.slice none 0 0)) rfl) (nK (aa (ah (v := va) rfl) (aa (bW jR rfl (h.iV 1 rfl)) (aa (ah (v := (I6 0)) rfl) (nN (aO ?_)))))))))
 replace h := h.yj (R := jk) (E := 57) 5
 refine gu (σ := Nat × Int × Value × List bL) (inl ([3, 5, 6] ++ rg 9 27)) (fun ⟨k9, i10, v7, x8⟩ => [(3, v7), (9, (I6 i10))]) (fun ⟨k9, i10, v7, x8⟩ w => SH w0 M BE w (hset [(1, .sr kD va a), (5, .own jk 57 v7 x8)]) ∧ i10 = (k9 : Int) ∧ each (uk N a) um (a.drop k9) x8 = some r) (fun ⟨k9, i10, v7, x8⟩ => a.length - k9) ⟨0, 0, (.slice none 0 0), []⟩ ⟨rfl, rfl, trivial⟩ ?_ ?_
 exact ⟨h.cn _, rfl, hs⟩
 rintro ⟨k9, i10, v7, x8⟩ w dO ⟨h, hik, hs⟩
 refine nG ?_
 refine aa (eB rfl rfl) (nN ?_)
 refine aM (gK rfl (fun e14 => ?_) (fun e14 => ?_))
 refine aH (ak ?_)
 obtain ⟨gB, Tv, Tw⟩ := fU (hik ▸ e14)
 rw [Tw, dV] at hs
 generalize Mj : each (uk N a) um (a.drop (k9 + 1)) = ql at hs
 have Tx := gm ((h.iV 1 rfl)).bT hik e14
 refine aM (aO (nG ?_))
 obtain ⟨b17, o18, cs19, h, Zr, i16⟩ := h.zP 1 6 rfl jR rfl (iI hik) (fZ hik Tv)
 obtain ⟨u21, rfl, g22⟩ := wK Zr
 replace h := h.dA 7 g22.up
 refine aa (i16 _ _ _ _ _ _ _ _ _ rfl rfl) (aa (jo (k := 0) (vs := [(I6 gB.params), (I6 gB.locals), u21]) h 6 rfl pU rfl rfl rfl (bF rfl)) (bP h 8 pU fun w FL h => dH (vs := [(I6 gB.params), (I6 gB.locals), u21]) h 8 [(I6 gB.params), (I6 gB.locals), u21] rfl pU rfl rfl rfl rfl rfl (ai rfl (ai rfl (ai (h.iD 7 rfl).one aS))) fun w h => nJ (aa (ag zf rfl) (aa (aA h 8 rfl aU rfl rfl) (aa (ek (pv := [(0, (I6 gB.params)), (1, (I6 30))]) (out := [(I6 gB.params), (I6 30), (.slice none 0 0)]) Y2 rfl ⟨0, 1, [(I6 gB.params)], rfl, rfl, rfl, bF rfl, ⟨1, 1, [(I6 30)], rfl, rfl, rfl, bF rfl, rfl⟩⟩) (bP h 9 sF fun w b24 h => dH (vs := [(I6 gB.params), (I6 30), (.slice none 0 0)]) h 9 [(I6 gB.params), (I6 30), (.slice none 0 0)] rfl sF rfl rfl rfl rfl rfl (ai rfl (ai rfl (ai rfl aS))) fun w h => nN (bX (σ := Value × List Ins) (inl (rg 16 15)) (fun ⟨v25, Li⟩ => []) (fun ⟨v25, Li⟩ w => SH w0 M BE w (hset [(1, .sr kD va a), (5, .own jk 57 v7 x8), (9, .blk b24 [(I6 gB.params), (I6 30), v25]), (70, .own kr 93 v25 Li)]) ∧ yu x8 gB ql Li = some r) ?_ ?_)))))))
 rintro ⟨v25, Li⟩ w dO ⟨h, hs⟩
 refine aC (aa (ah (v := v7) rfl) (aa (dK (vs := [(I6 gB.params), (I6 30), v25]) h 9 rfl sF rfl rfl rfl) ?_))
 replace h := h.freeze 70 rfl
 refine tL (R := jk) (vs := [(.agg #[(I6 gB.params), (I6 30), v25])]) (xs := [(⟨gB.params, 30, Li⟩ : bL)]) h 71 Q3 rfl rfl rfl ⟨⟨_, rfl, (h.iD 70 rfl)⟩, trivial⟩ rfl fun w u27 h => ?_
 obtain ⟨a28, hs⟩ := bB hs
 refine lV (R := jk) (m := [(⟨gB.params, 30, Li⟩ : bL)]) h 5 rfl (h.eG 71 rfl) Q3 rfl rfl rfl a28.1 a28.2 fun w u29 h => aa (ae (v := u29) rfl) (az (ax (ak (aC (aa (dP rfl rfl Tx) (aa (ah (v := (I6 ((i10 + 1)))) rfl) (az (au ?_))))))))
 subst Mj
 exact jB ⟨k9 + 1, i10 + 1, u29, (x8 ++ [(⟨gB.params, 30, Li⟩ : bL)])⟩ ⟨h.cn _, by omega, hs⟩ (by have := p8 e14; dsimp only; omega)
 refine kI (L := (fun x => x = b24)) mixed h fun w h => bE 0 (aP.refl _ _) rfl aj (by kernel_rfl) (by kernel_rfl) (by kernel_rfl) (fun w hk => ag EK rfl) (bE 1 (aP.refl _ _) rfl aj (by kernel_rfl) (by kernel_rfl) (by kernel_rfl) (fun w hk => have h := h.qB 9 rfl hk; aA h 8 rfl ug rfl rfl) (bE 2 (aP.refl _ _) rfl aj (by kernel_rfl) (by kernel_rfl) (by kernel_rfl) (fun w hk => ah (v := va) rfl) (bE 3 (aP.refl _ _) rfl aj (by kernel_rfl) (by kernel_rfl) (by kernel_rfl) (fun w hk => ag Ct rfl) (bE 4 (aP.refl _ _) rfl aj (by kernel_rfl) (by kernel_rfl) (by kernel_rfl) (fun w hk => have h := h.qB 9 rfl hk; aA h 8 rfl aU rfl rfl) (bE 6 (aP.refl _ _) rfl aj (by kernel_rfl) (by kernel_rfl) (by kernel_rfl) (fun w hk => ag Ct rfl) (bE 7 (aP.refl _ _) rfl aj (by kernel_rfl) (by kernel_rfl) (by kernel_rfl) (fun w hk => have h := h.qB 9 rfl hk; aA h 8 rfl aU rfl rfl) (bE 8 (aP.refl _ _) rfl aj (by kernel_rfl) (by kernel_rfl) (by kernel_rfl) (fun w hk => ek (pv := [(0, (I6 1)), (1, (I6 gB.locals))]) (out := [(I6 1), (I6 gB.locals), (I6 0), (I6 0), (.slice none 0 0)]) qF rfl ⟨0, 1, [(I6 1)], rfl, rfl, rfl, bF rfl, ⟨1, 1, [(I6 gB.locals)], rfl, rfl, rfl, bF rfl, rfl⟩⟩) (bE 9 (aP.refl _ _) rfl aj (by kernel_rfl) (by kernel_rfl) (by kernel_rfl) (fun w hk => ag Ct rfl) (bE 10 (aP.refl _ _) rfl aj (by kernel_rfl) (by kernel_rfl) (by kernel_rfl) (fun w hk => have h := h.qB 9 rfl hk; aA h 8 rfl aU rfl rfl) (bE 11 (aP.refl _ _) rfl aj (by kernel_rfl) (by kernel_rfl) (by kernel_rfl) (fun w hk => ek (pv := [(0, (I6 8)), (1, (I6 gB.locals))]) (out := [(I6 8), (I6 gB.locals), (I6 0), (I6 0), (.slice none 0 0)]) qF rfl ⟨0, 1, [(I6 8)], rfl, rfl, rfl, bF rfl, ⟨1, 1, [(I6 gB.locals)], rfl, rfl, rfl, bF rfl, rfl⟩⟩) ?_))))))))))
 obtain ⟨EN, Rn, hs⟩ := aK hs
 obtain ⟨FO, hs⟩ := bB hs
 obtain ⟨Tu, Rb⟩ : ∃ x, x = w := ⟨_, rfl⟩
 have qX : aP (fun x => x = b24) Tu w := Rb ▸ aP.refl (fun x => x = b24) w
 refine rf Rb.symm (nD 5 12 (by kernel_rfl) rfl aj rfl aj ?_ ?_)
 refine aX PW rfl rfl (zw N _ _ h.lt u21 gB.body (h.ny 7 rfl) va a (h.iV 1 rfl) gB.locals 0 _ Rn) ?_
 rintro _ w ⟨EO, Ms, rfl, Mt, EP⟩
 refine ⟨_, rfl, ?_⟩
 replace h := h.mK 132 EO Mt EP
 have CP : ∀ b, ob Ms b → Tu.heap.size ≤ b := fun b hb => Nat.le_trans qX.size (EP b hb)
 replace qX := qX.grow EO
 refine az (aR qX (bA 12 (by kernel_rfl) rfl aj (xu (R := kr) (vs := [(.agg #[(I6 1), (I6 gB.locals), (I6 0), (I6 0), (.slice none 0 0)]), (.agg #[(I6 8), (I6 gB.locals), (I6 0), (I6 0), (.slice none 0 0)])]) (xs := [(⟨1, gB.locals, 0, 0, []⟩ : Ins), (⟨8, gB.locals, 0, 0, []⟩ : Ins)]) h 216 ic rfl rfl rfl ⟨⟨_, rfl, gy.nil⟩, ⟨⟨_, rfl, gy.nil⟩, trivial⟩⟩ rfl fun w Jw h GD GG => ?_)))
 have TT : ∀ b, ob Jw b → Tu.heap.size ≤ b := fun b hb => Nat.le_trans qX.size (GG b hb)
 replace qX := qX.grow GD
 refine az (aR qX (bA 13 (by kernel_rfl) rfl aj ?_))
 have GH := qX.size
 refine mF (R := kr) (m := [(⟨1, gB.locals, 0, 0, []⟩ : Ins), (⟨8, gB.locals, 0, 0, []⟩ : Ins)]) h 132 rfl (h.eG 216 rfl) ic rfl rfl rfl FO.1 FO.2 fun w CQ h GI GJ => ?_
 replace qX := qX.Yn GI CP
 have TU := Oe GH CP GJ
 refine az (aR qX (dG 14 qX rfl (by kernel_rfl) (fun w hk => ag nQ rfl) (bA 15 (by kernel_rfl) rfl aj (nP h 9 [(I6 gB.params), (I6 30), CQ] rfl xy rfl rfl rfl rfl (h.dm 132 rfl).one fun w h Jy => ?_))))
 replace qX := qX.same Jy
 refine az (aR qX (fK (by kernel_rfl) (au ?_)))
 replace h := h.EB 132 70 rfl rfl (by decide)
 exact bQ (CQ, (EN ++ [(⟨1, gB.locals, 0, 0, []⟩ : Ins), (⟨8, gB.locals, 0, 0, []⟩ : Ins)])) ⟨h.cn _, hs⟩
 refine xu (R := kr) (vs := [(.agg #[(I6 1), (I6 gB.locals), (I6 0), (I6 0), (.slice none 0 0)]), (.agg #[(I6 8), (I6 gB.locals), (I6 0), (I6 0), (.slice none 0 0)])]) (xs := [(⟨1, gB.locals, 0, 0, []⟩ : Ins), (⟨8, gB.locals, 0, 0, []⟩ : Ins)]) h 216 ic rfl rfl rfl ⟨⟨_, rfl, gy.nil⟩, ⟨⟨_, rfl, gy.nil⟩, trivial⟩⟩ rfl fun w Jw h GD GG => ?_
 have TT : ∀ b, ob Jw b → Tu.heap.size ≤ b := fun b hb => Nat.le_trans qX.size (GG b hb)
 replace qX := qX.grow GD
 refine az (aR qX (bA 5 (by kernel_rfl) rfl aj (aX PW rfl rfl (zw N _ _ h.lt u21 gB.body (h.ny 7 rfl) va a (h.iV 1 rfl) gB.locals 0 _ Rn) ?_)))
 rintro _ w ⟨EO, Ms, rfl, Mt, EP⟩
 refine ⟨_, rfl, ?_⟩
 replace h := h.mK 132 EO Mt EP
 have CP : ∀ b, ob Ms b → Tu.heap.size ≤ b := fun b hb => Nat.le_trans qX.size (EP b hb)
 replace qX := qX.grow EO
 refine az (aR qX (bA 13 (by kernel_rfl) rfl aj ?_))
 have GH := qX.size
 refine mF (R := kr) (m := [(⟨1, gB.locals, 0, 0, []⟩ : Ins), (⟨8, gB.locals, 0, 0, []⟩ : Ins)]) h 132 rfl (h.eG 216 rfl) ic rfl rfl rfl FO.1 FO.2 fun w CQ h GI GJ => ?_
 replace qX := qX.Yn GI CP
 have TU := Oe GH CP GJ
 refine az (aR qX (dG 14 qX rfl (by kernel_rfl) (fun w hk => ag nQ rfl) (bA 15 (by kernel_rfl) rfl aj (nP h 9 [(I6 gB.params), (I6 30), CQ] rfl xy rfl rfl rfl rfl (h.dm 132 rfl).one fun w h Jy => ?_))))
 replace qX := qX.same Jy
 refine az (aR qX (fK (by kernel_rfl) (au ?_)))
 replace h := h.EB 132 70 rfl rfl (by decide)
 exact bQ (CQ, (EN ++ [(⟨1, gB.locals, 0, 0, []⟩ : Ins), (⟨8, gB.locals, 0, 0, []⟩ : Ins)])) ⟨h.cn _, hs⟩
 rw [fV (hik ▸ e14), fQ] at hs
 refine nE (aa (ah (v := v7) rfl) (aa (ae (v := v7) rfl) (nR (dD (v := v7) Tryz.results39 rfl ?_))))
 obtain rfl := fP hs
 exact ⟨h.grown, _, rfl, (h.jQ 5 rfl).1, (h.jQ 5 rfl).2⟩
def dM (x6 : Bool) : Bool × Bool × Bool × Bool :=
  bif x6 then (false, false, false, true) else (false, false, false, false)
def dJ (a : Int) (x3 : Bool) : Bool × Bool × Bool × Bool :=
  bif x3 then (true, true, false, true) else bif decide ((a : Int) = 3) then (true, true, true, true) else bif decide ((a : Int) = 10) then dM (decide ((a : Int) = 10)) else dM (decide ((a : Int) = 12))
def dz (a : Int) (x1 : Bool) : Bool × Bool × Bool × Bool :=
  bif x1 then (true, false, false, true) else bif decide ((a : Int) = 2) then dJ a (decide ((a : Int) = 2)) else bif decide ((a : Int) = 4) then dJ a (decide ((a : Int) = 4)) else dJ a (decide ((a : Int) = 6))
def bJ (a : Int) : Bool × Bool × Bool × Bool :=
  bif decide ((a : Int) = 1) then dz a (decide ((a : Int) = 1)) else bif decide ((a : Int) = 5) then dz a (decide ((a : Int) = 5)) else bif decide ((a : Int) = 8) then dz a (decide ((a : Int) = 8)) else bif decide ((a : Int) = 9) then dz a (decide ((a : Int) = 9)) else bif decide ((a : Int) = 11) then dz a (decide ((a : Int) = 11)) else bif decide ((a : Int) = 13) then dz a (decide ((a : Int) = 13)) else dz a (decide ((a : Int) = 7))
theorem Ro (w0 : World) (M : BS) (hM : ∀ b, M b → b < w0.heap.size) (a : Int) (r : Bool × Bool × Bool × Bool) (hs : bJ a = r) :
    Calls Tryz.prog 115 #[(I6 a)] w0 (fun e w' => Grow w0 w' ∧ e = .returned (.tuple #[.bool r.1, .bool r.2.1, .bool r.2.2.1, .bool r.2.2.2])) := by
 refine aQ (args := [(I6 a)]) Tryz.func115 rfl Tryz.ntmps115 (bF rfl) ?_
 have h := SH.init hM
 refine nG (aa (ae (v := (.bool (false))) rfl) (aa (ae (v := (.bool (false))) rfl) (aa (ae (v := (.bool (false))) rfl) (aa (ae (v := (.bool (false))) rfl) (nK (aa (ah (v := (I6 a)) rfl) (nN (aO (bX (σ := Bool) (inl (rg 7 8)) (fun x1 => [(7, (.bool (x1)))]) (fun x1 w => SH w0 M BE w (hset []) ∧ dz a x1 = r) ?_ ?_)))))))))
 rintro x1 w dO ⟨h, hs⟩
 refine aI hs rfl (fun c2 hs => ?_) (fun c2 hs => ?_)
 refine nG (aa (ae (v := (.bool (true))) rfl) (aa (ae (v := (.bool (false))) rfl) (aa (ae (v := (.bool (false))) rfl) (aa (ae (v := (.bool (true))) rfl) (nR (aF (ay (Yy (v1 := (.bool (true))) (v2 := (.bool (false))) (v3 := (.bool (false))) (v4 := (.bool (true))) Tryz.results115 rfl rfl rfl rfl ?_))))))))
 obtain rfl := hs
 exact ⟨h.grown, rfl⟩
 refine bX (σ := Bool) (inl [15, 16, 17, 18]) (fun x3 => [(15, (.bool (x3)))]) (fun x3 w => SH w0 M BE w (hset []) ∧ dJ a x3 = r) ?_ ?_
 rintro x3 w dO ⟨h, hs⟩
 refine aI hs rfl (fun c4 hs => ?_) (fun c4 hs => ?_)
 refine nG (aa (ae (v := (.bool (true))) rfl) (aa (ae (v := (.bool (true))) rfl) (aa (ae (v := (.bool (false))) rfl) (aa (ae (v := (.bool (true))) rfl) (nR (aF (ay (Yy (v1 := (.bool (true))) (v2 := (.bool (true))) (v3 := (.bool (false))) (v4 := (.bool (true))) Tryz.results115 rfl rfl rfl rfl ?_))))))))
 obtain rfl := hs
 exact ⟨h.grown, rfl⟩
 refine nG (aa (bz rfl rfl) (aa (ae (v := (.bool (decide ((a : Int) = 3)))) rfl) (nN (aI hs rfl (fun c5 hs => ?_) (fun c5 hs => ?_)))))
 refine nG (aa (ae (v := (.bool (true))) rfl) (aa (ae (v := (.bool (true))) rfl) (aa (ae (v := (.bool (true))) rfl) (aa (ae (v := (.bool (true))) rfl) (nR (aF (ay (Yy (v1 := (.bool (true))) (v2 := (.bool (true))) (v3 := (.bool (true))) (v4 := (.bool (true))) Tryz.results115 rfl rfl rfl rfl ?_))))))))
 obtain rfl := hs
 exact ⟨h.grown, rfl⟩
 refine bX (σ := Bool) (inl [21, 22, 23]) (fun x6 => [(21, (.bool (x6)))]) (fun x6 w => SH w0 M BE w (hset []) ∧ dM x6 = r) ?_ ?_
 rintro x6 w dO ⟨h, hs⟩
 refine aI hs rfl (fun c7 hs => ?_) (fun c7 hs => ?_)
 refine nG (aa (ae (v := (.bool (false))) rfl) (aa (ae (v := (.bool (false))) rfl) (aa (ae (v := (.bool (false))) rfl) (aa (ae (v := (.bool (true))) rfl) (nR (aF (ay (Yy (v1 := (.bool (false))) (v2 := (.bool (false))) (v3 := (.bool (false))) (v4 := (.bool (true))) Tryz.results115 rfl rfl rfl rfl ?_))))))))
 obtain rfl := hs
 exact ⟨h.grown, rfl⟩
 refine aH (ax (ak (nG (aa (ae (v := (.bool (false))) rfl) (aa (ae (v := (.bool (false))) rfl) (aa (ae (v := (.bool (false))) rfl) (aa (ae (v := (.bool (false))) rfl) (nR (Yy (v1 := (.bool (false))) (v2 := (.bool (false))) (v3 := (.bool (false))) (v4 := (.bool (false))) Tryz.results115 rfl rfl rfl rfl ?_)))))))))
 obtain rfl := hs
 exact ⟨h.grown, rfl⟩
 refine nG (aa (bz rfl rfl) (aa (ae (v := (.bool (decide ((a : Int) = 10)))) rfl) (nN (aI hs rfl (fun c8 hs => ?_) (fun c8 hs => ?_)))))
 refine aH (au ?_)
 exact bQ (decide ((a : Int) = 10)) ⟨h.cn _, hs⟩
 refine aC (aa (bz rfl rfl) (aa (ae (v := (.bool (decide ((a : Int) = 12)))) rfl) (az (au ?_))))
 exact bQ (decide ((a : Int) = 12)) ⟨h.cn _, hs⟩
 refine nG (aa (bz rfl rfl) (aa (ae (v := (.bool (decide ((a : Int) = 2)))) rfl) (nN (aI hs rfl (fun c9 hs => ?_) (fun c9 hs => ?_)))))
 refine aH (au ?_)
 exact bQ (decide ((a : Int) = 2)) ⟨h.cn _, hs⟩
 refine nG (aa (bz rfl rfl) (aa (ae (v := (.bool (decide ((a : Int) = 4)))) rfl) (nN (aI hs rfl (fun c10 hs => ?_) (fun c10 hs => ?_)))))
 refine aH (au ?_)
 exact bQ (decide ((a : Int) = 4)) ⟨h.cn _, hs⟩
 refine aC (aa (bz rfl rfl) (aa (ae (v := (.bool (decide ((a : Int) = 6)))) rfl) (az (au ?_))))
 exact bQ (decide ((a : Int) = 6)) ⟨h.cn _, hs⟩
 refine nG (aa (bz rfl rfl) (aa (ae (v := (.bool (decide ((a : Int) = 1)))) rfl) (nN (aI hs rfl (fun c11 hs => ?_) (fun c11 hs => ?_)))))
 refine aH (au ?_)
 exact bQ (decide ((a : Int) = 1)) ⟨h.cn _, hs⟩
 refine nG (aa (bz rfl rfl) (aa (ae (v := (.bool (decide ((a : Int) = 5)))) rfl) (nN (aI hs rfl (fun c12 hs => ?_) (fun c12 hs => ?_)))))
 refine aH (au ?_)
 exact bQ (decide ((a : Int) = 5)) ⟨h.cn _, hs⟩
 refine nG (aa (bz rfl rfl) (aa (ae (v := (.bool (decide ((a : Int) = 8)))) rfl) (nN (aI hs rfl (fun c13 hs => ?_) (fun c13 hs => ?_)))))
 refine aH (au ?_)
 exact bQ (decide ((a : Int) = 8)) ⟨h.cn _, hs⟩
 refine nG (aa (bz rfl rfl) (aa (ae (v := (.bool (decide ((a : Int) = 9)))) rfl) (nN (aI hs rfl (fun c14 hs => ?_) (fun c14 hs => ?_)))))
 refine aH (au ?_)
 exact bQ (decide ((a : Int) = 9)) ⟨h.cn _, hs⟩
 refine nG (aa (bz rfl rfl) (aa (ae (v := (.bool (decide ((a : Int) = 11)))) rfl) (nN (aI hs rfl (fun c15 hs => ?_) (fun c15 hs => ?_)))))
 refine aH (au ?_)
 exact bQ (decide ((a : Int) = 11)) ⟨h.cn _, hs⟩
 refine nG (aa (bz rfl rfl) (aa (ae (v := (.bool (decide ((a : Int) = 13)))) rfl) (nN (aI hs rfl (fun c16 hs => ?_) (fun c16 hs => ?_)))))
 refine aH (au ?_)
 exact bQ (decide ((a : Int) = 13)) ⟨h.cn _, hs⟩
 refine aC (aa (bz rfl rfl) (aa (ae (v := (.bool (decide ((a : Int) = 7)))) rfl) (az (au ?_))))
 exact bQ (decide ((a : Int) = 7)) ⟨h.cn _, hs⟩
def dE (a : Bool) (b : Int) (mU : Int) : Bool :=
  ((!a) || (decide ((0 : Int) ≤ b) && decide ((b : Int) < mU)))
theorem Eg (w0 : World) (M : BS) (hM : ∀ b, M b → b < w0.heap.size) (a : Bool) (b : Int) (mU : Int) (q0 : Nat) (hq0 : ∃ E, w0.heap[q0]? = some (.cells #[(I6 mU)] E (0, 0))) (r : Bool) (hs : dE a b mU = r) :
    Calls Tryz.prog 116 #[(.bool (a)), (I6 b), (.pointer (some ⟨q0, 0, none⟩))] w0 (fun e w' => Grow w0 w' ∧ e = .returned (.bool r)) := by
 refine aQ (args := [(.bool (a)), (I6 b), (.pointer (some ⟨q0, 0, none⟩))]) Tryz.func116 rfl Tryz.ntmps116 (bF rfl) ?_
 have h := SH.init hM
 replace h := h.LF 1 (cs := [(I6 mU)]) hq0 bH
 refine nG (aa (ae (v := (.bool (false))) rfl) (nJ (aa (ah (v := (.bool (a))) rfl) (aa (gL rfl) (aa (ah (v := (.bool ((!a)))) rfl) (aG rfl rfl (fun q => ah (v := (I6 b)) rfl) (aG rfl rfl (fun q => qV (eD q) rfl) (aG rfl rfl (fun q => ah (v := (.bool (decide ((0 : Int) ≤ b)))) (eD q)) (kG ((!a) == false) rfl rfl (fun q => ah (v := (I6 b)) rfl) (kG ((!a) == false) rfl rfl (fun q => fq (k := 0) h 1 rfl aU rfl rfl) (kG ((!a) == false) rfl rfl (fun q => eB (eD q) (eD q)) (aG rfl rfl (fun q => gZ (eD q) (QN q) nC) (aa (iJ rfl rfl nC) (aa (ae (v := (.bool (((!a) || (decide ((0 : Int) ≤ b) && decide ((b : Int) < mU)))))) rfl) (nR (dD (v := (.bool (((!a) || (decide ((0 : Int) ≤ b) && decide ((b : Int) < mU)))))) Tryz.results116 rfl ?_))))))))))))))))
 obtain rfl := hs
 exact ⟨h.grown, rfl⟩
def kZ (d : Int) (x20 : Int) (s : Unit) (nx22 : Unit → Option Int) : Option Int :=
  bif (!(decide ((0 : Int) ≤ x20) && decide ((x20 : Int) < d))) then some 3 else nx22 ()
def ow (s : Unit) : Option Int :=
  some 0
def dB (x9 : Bool) (a : Ins) (b : Int) (Lj : Int) (c : List bL) (y13 : Int) (Ac : Int) (d : Int) (X7 : Int) : Option Int :=
  bif (!x9) then some 3 else bif (((decide ((a.a : Int) ≠ X7) || decide ((a.b : Int) ≠ Lj)) || decide ((a.c : Int) ≠ y13)) || decide (((a.args.length : Int) : Int) ≠ Ac)) then some 4 else bif decide ((a.op : Int) = 7) then each (kZ d) ow a.args () else some 0
def bN (a : Ins) (b : Int) (c : List bL) (d : Int) (x9 : Bool) (Ac : Int) (Wy : Int) (Lj : Int) (y13 : Int) : Option Int :=
  bif decide ((a.op : Int) = 12) then dB x9 a b Lj c y13 Ac d 0 else dB x9 a b Lj c y13 Ac d Wy
def bU (a : Ins) (b : Int) (c : List bL) (d : Int) (uR : Bool) : Option Int :=
  bif uR then bN a b c d ((bJ a.op).2.2.2) 0 a.a 0 0 else bif decide ((a.op : Int) = 10) then bN a b c d ((bJ a.op).2.2.2) 0 0 0 0 else bN a b c d ((bJ a.op).2.2.2) 0 a.a a.b 0
def bZ (a : Ins) (b : Int) (c : List bL) (d : Int) (e : Int) (x50 : Bool) : Option Int :=
  bif x50 then bN a b c d (decide ((0 : Int) ≤ a.b) && decide ((a.b : Int) < e)) 0 a.a a.b 0 else bif decide ((a.op : Int) = 7) then bif (decide ((a.b : Int) < 0) || decide (((c.length : Int) : Int) ≤ a.b)) then some 5 else (idx c a.b).bind fun x54 => bN a b c d ((bJ a.op).2.2.2) x54.params a.a a.b 0 else bif decide ((a.op : Int) = 8) then bU a b c d (decide ((a.op : Int) = 8)) else bif decide ((a.op : Int) = 9) then bU a b c d (decide ((a.op : Int) = 9)) else bU a b c d (decide ((a.op : Int) = 11))
def cu (a : Ins) (b : Int) (c : List bL) (d : Int) (e : Int) (x34 : Bool) : Option Int :=
  bif x34 then bN a b c d (decide ((0 : Int) ≤ a.c) && decide ((a.c : Int) < 4)) 0 a.a a.b a.c else bif decide ((a.op : Int) = 3) then bif decide (((a.args.length : Int) : Int) = 1) then (idx a.args 0).bind fun x38 => bN a b c d (decide ((1 : Int) ≤ x38) && decide ((x38 : Int) ≤ 5)) 1 a.a a.b a.c else bN a b c d false 1 a.a a.b a.c else bif decide ((a.op : Int) = 12) then bZ a b c d e (decide ((a.op : Int) = 12)) else bZ a b c d e (decide ((a.op : Int) = 13))
def eF (a : Ins) (b : Int) (c : List bL) (d : Int) (e : Int) : Option Int :=
  bif (!(bJ a.op).2.2.2) then some 4 else bif (((!((!(bJ a.op).1) || (decide ((0 : Int) ≤ a.a) && decide ((a.a : Int) < d)))) || (!(dE ((bJ a.op).2.1) a.b d))) || (!(dE ((bJ a.op).2.2.1) a.c d))) then some 3 else bif decide ((a.op : Int) = 1) then bN a b c d (decide ((-1000000000 : Int) ≤ a.b) && decide ((a.b : Int) ≤ 1000000000)) 0 a.a a.b 0 else bif decide ((a.op : Int) = 5) then bN a b c d (decide ((1 : Int) ≤ a.b) && decide ((a.b : Int) ≤ 4)) 0 a.a a.b 0 else bif decide ((a.op : Int) = 4) then cu a b c d e (decide ((a.op : Int) = 4)) else cu a b c d e (decide ((a.op : Int) = 6))
theorem Qc (w0 : World) (M : BS) (hM : ∀ b, M b → b < w0.heap.size) (a : Ins) (Az : Value) (ha4 : gy eP w0 BE M Az a.args) (b : Int) (vc : Value) (c : List bL) (hc : gy jk w0 BE M vc c) (d : Int) (e : Int) (r : Int) (hs : eF a b c d e = some r) :
    Calls Tryz.prog 86 #[(.agg #[(I6 a.op), (I6 a.a), (I6 a.b), (I6 a.c), Az]), (I6 b), vc, (I6 d), (I6 e)] w0 (fun e w' => Grow w0 w' ∧ e = .returned (.int .i64 r)) := by
 refine aQ (args := [(.agg #[(I6 a.op), (I6 a.a), (I6 a.b), (I6 a.c), Az]), (I6 b), vc, (I6 d), (I6 e)]) Tryz.func86 rfl Tryz.ntmps86 (bF rfl) ?_
 have h := SH.init hM
 replace h := h.gz 1 ha4 bH
 replace h := h.gz 2 hc (dL bH)
 have hl_c := hc.bT
 refine nG (mD (cs := [(I6 a.op), (I6 a.a), (I6 a.b), (I6 a.c), Az]) h 3 rfl rfl fun w b1 h => mD (cs := [(I6 d)]) h 4 rfl rfl fun w b2 h => aa (ae (v := (I6 0)) rfl) (nJ (aa (ag mG rfl) (aa (aA h 3 rfl aU rfl rfl) (aX fnOk115 rfl rfl (Ro _ _ h.lt a.op _ rfl) ?_)))))
 rintro _ w ⟨k3, rfl⟩
 refine ⟨_, rfl, ?_⟩
 replace h := h.grow k3
 refine aa (ah (v := (.tuple #[(.bool ((bJ a.op).1)), (.bool ((bJ a.op).2.1)), (.bool ((bJ a.op).2.2.1)), (.bool ((bJ a.op).2.2.2))])) rfl) (aa (bu rfl rfl) (aa (bu rfl rfl) (aa (bu rfl rfl) (aa (bu rfl rfl) (aa (ae (v := (.bool ((bJ a.op).1))) rfl) (aa (ae (v := (.bool ((bJ a.op).2.1))) rfl) (aa (ae (v := (.bool ((bJ a.op).2.2.1))) rfl) (aa (ae (v := (.bool ((bJ a.op).2.2.2))) rfl) (nK (aa (ah (v := (.bool ((bJ a.op).2.2.2))) rfl) (aa (gL rfl) (nN (aI hs rfl (fun c4 hs => ?_) (fun c4 hs => ?_))))))))))))))
 refine nG (aa (ae (v := (I6 4)) rfl) (nR (ay (dD (v := (I6 4)) Tryz.results86 rfl ?_))))
 obtain rfl := fP hs
 exact ⟨h.grown, rfl⟩
 refine nS (aa (r9 (c1 := []) (c2 := [(.pointer (some ⟨b2, 0, none⟩))]) rfl rfl) (aa (ae (v := (.func (.func 116) #[] #[(.pointer (some ⟨b2, 0, none⟩))])) rfl) (nK (aa (ah (v := (.func (.func 116) #[] #[(.pointer (some ⟨b2, 0, none⟩))])) rfl) (aa (ah (v := (.bool ((bJ a.op).1))) rfl) (aa (ag jb rfl) (aa (aA h 3 rfl aU rfl rfl) (lh (args := [(.bool ((bJ a.op).1)), (I6 a.a), (.pointer (some ⟨b2, 0, none⟩))]) Ld rfl rfl (aQ (args := [(.bool ((bJ a.op).1)), (I6 a.a), (.pointer (some ⟨b2, 0, none⟩))]) Tryz.func116 rfl Tryz.ntmps116 (bF rfl) (nG (aa (ae (v := (.bool (false))) rfl) (nJ ?_))))))))))))
 refine aa (ah (v := (.bool ((bJ a.op).1))) rfl) (aa (gL rfl) (aa (ah (v := (.bool ((!(bJ a.op).1)))) rfl) (aG rfl rfl (fun q => ah (v := (I6 a.a)) rfl) (aG rfl rfl (fun q => qV (eD q) rfl) (aG rfl rfl (fun q => ah (v := (.bool (decide ((0 : Int) ≤ a.a)))) (eD q)) (kG ((!(bJ a.op).1) == false) rfl rfl (fun q => ah (v := (I6 a.a)) rfl) (kG ((!(bJ a.op).1) == false) rfl rfl (fun q => aA h 4 rfl aU rfl rfl) (kG ((!(bJ a.op).1) == false) rfl rfl (fun q => eB (eD q) (eD q)) (aG rfl rfl (fun q => gZ (eD q) (QN q) nC) (aa (iJ rfl rfl nC) (aa (ae (v := (.bool (((!(bJ a.op).1) || (decide ((0 : Int) ≤ a.a) && decide ((a.a : Int) < d)))))) rfl) (nR (dD (v := (.bool (((!(bJ a.op).1) || (decide ((0 : Int) ≤ a.a) && decide ((a.a : Int) < d)))))) Tryz.results116 rfl (⟨_, rfl, ?_⟩))))))))))))))
 refine aa (gL rfl) (aa (ah (v := (.bool ((!((!(bJ a.op).1) || (decide ((0 : Int) ≤ a.a) && decide ((a.a : Int) < d))))))) rfl) (aG rfl rfl (fun q => ah (v := (.func (.func 116) #[] #[(.pointer (some ⟨b2, 0, none⟩))])) rfl) (aG rfl rfl (fun q => ah (v := (.bool ((bJ a.op).2.1))) rfl) (aG rfl rfl (fun q => ag gp rfl) (aG rfl rfl (fun q => aA h 3 rfl aU (eD q) rfl) (LG [(.pointer (some ⟨b2, 0, none⟩))] rfl rfl Ld (fun q => (eD q)) (fun q => ky (eD q) (ky (eD q) rfl)) (Eg _ _ h.lt ((bJ a.op).2.1) a.b d b2 (h.uD 4 rfl) _ rfl) fun w k5 => ?_))))))
 replace h := h.grow k5
 refine aG rfl rfl (fun q => gL (eD q)) (aa (iJ rfl rfl nC) (aa (ah (v := (.bool (((!((!(bJ a.op).1) || (decide ((0 : Int) ≤ a.a) && decide ((a.a : Int) < d)))) || (!(dE ((bJ a.op).2.1) a.b d)))))) rfl) (aG rfl rfl (fun q => ah (v := (.func (.func 116) #[] #[(.pointer (some ⟨b2, 0, none⟩))])) rfl) (aG rfl rfl (fun q => ah (v := (.bool ((bJ a.op).2.2.1))) rfl) (aG rfl rfl (fun q => ag mH rfl) (aG rfl rfl (fun q => aA h 3 rfl aU (eD q) rfl) (LG [(.pointer (some ⟨b2, 0, none⟩))] rfl rfl Ld (fun q => (eD q)) (fun q => ky (eD q) (ky (eD q) rfl)) (Eg _ _ h.lt ((bJ a.op).2.2.1) a.c d b2 (h.uD 4 rfl) _ rfl) fun w k6 => ?_)))))))
 replace h := h.grow k6
 refine aG rfl rfl (fun q => gL (eD q)) (aa (iJ rfl rfl nC) (nN (aI hs rfl (fun c7 hs => ?_) (fun c7 hs => ?_))))
 refine nG (aa (ae (v := (I6 3)) rfl) (nR (ay (dD (v := (I6 3)) Tryz.results86 rfl ?_))))
 obtain rfl := fP hs
 exact ⟨h.grown, rfl⟩
 refine nS (aa (ag mH rfl) (aa (aA h 3 rfl aU rfl rfl) (aa (qV rfl rfl) (aa (ah (v := (.bool (decide ((0 : Int) ≤ a.c)))) rfl) (aG rfl rfl (fun q => ag mH rfl) (aG rfl rfl (fun q => aA h 3 rfl aU (eD q) rfl) (aG rfl rfl (fun q => eB (eD q) rfl) (aa (gZ rfl rfl nC) (aa (ae (v := (.bool ((decide ((0 : Int) ≤ a.c) && decide ((a.c : Int) < 4))))) rfl) (nJ (aa (ae (v := (I6 0)) rfl) (nJ (aa (ag mG rfl) (aa (aA h 3 rfl aU rfl rfl) ?_))))))))))))))
 refine aa (ag jb rfl) (aa (aA h 3 rfl aU rfl rfl) (aa (ag gp rfl) (aa (aA h 3 rfl aU rfl rfl) (aa (ek (pv := [(0, (I6 a.op)), (1, (I6 a.a)), (2, (I6 a.b))]) (out := [(I6 a.op), (I6 a.a), (I6 a.b), (I6 0), (.slice none 0 0)]) qF rfl ⟨0, 1, [(I6 a.op)], rfl, rfl, rfl, bF rfl, ⟨1, 1, [(I6 a.a)], rfl, rfl, rfl, bF rfl, ⟨2, 1, [(I6 a.b)], rfl, rfl, rfl, bF rfl, rfl⟩⟩⟩) (bP h 5 nT fun w b8 h => dH (vs := [(I6 a.op), (I6 a.a), (I6 a.b), (I6 0), (.slice none 0 0)]) h 5 [(I6 a.op), (I6 a.a), (I6 a.b), (I6 0), (.slice none 0 0)] rfl nT rfl rfl rfl rfl rfl (ai rfl (ai rfl (ai rfl (ai rfl (ai rfl aS))))) fun w h => nN (bX (σ := Bool × Int × Int × Int × Int) (inl ([10, 14, 17] ++ rg 69 91)) (fun ⟨x9, Ac, Wy, Lj, y13⟩ => [(14, (.bool (x9))), (17, (I6 Ac))]) (fun ⟨x9, Ac, Wy, Lj, y13⟩ w => SH w0 M BE w (hset [(1, .sr eP Az a.args), (3, .blk b1 [(I6 a.op), (I6 a.a), (I6 a.b), (I6 a.c), Az]), (4, .blk b2 [(I6 d)]), (5, .blk b8 [(I6 a.op), (I6 Wy), (I6 Lj), (I6 y13), (.slice none 0 0)])]) ∧ bN a b c d x9 Ac Wy Lj y13 = some r) ?_ ?_))))))
 rintro ⟨x9, Ac, Wy, Lj, y13⟩ w dO ⟨h, hs⟩
 refine bX (σ := Int) (inl [160, 161, 162, 163]) (fun X7 => []) (fun X7 w => SH w0 M BE w (hset [(1, .sr eP Az a.args), (3, .blk b1 [(I6 a.op), (I6 a.a), (I6 a.b), (I6 a.c), Az]), (4, .blk b2 [(I6 d)]), (5, .blk b8 [(I6 a.op), (I6 X7), (I6 Lj), (I6 y13), (.slice none 0 0)])]) ∧ dB x9 a b Lj c y13 Ac d X7 = some r) ?_ ?_
 rintro X7 w dO ⟨h, hs⟩
 refine aM (nG (aa (ah (v := (.bool (x9))) rfl) (aa (gL rfl) (nN (aI hs rfl (fun c15 hs => ?_) (fun c15 hs => ?_))))))
 refine nG (aa (ae (v := (I6 3)) rfl) (nR (ay (dD (v := (I6 3)) Tryz.results86 rfl ?_))))
 obtain rfl := fP hs
 exact ⟨h.grown, rfl⟩
 refine aH (ak (aM (nG (aa (ag jb rfl) (aa (aA h 3 rfl aU rfl rfl) (aa (ag jb rfl) (aa (aA h 5 rfl aU rfl rfl) (aa (iA rfl rfl) (aa (ah (v := (.bool (decide ((a.a : Int) ≠ X7)))) rfl) (aG rfl rfl (fun q => ag gp rfl) (aG rfl rfl (fun q => aA h 3 rfl aU (eD q) rfl) (aG rfl rfl (fun q => ag gp rfl) (aG rfl rfl (fun q => aA h 5 rfl aU (eD q) rfl) (aG rfl rfl (fun q => iA (eD q) (eD q)) (aa (iJ rfl rfl nC) (aa (ah (v := (.bool ((decide ((a.a : Int) ≠ X7) || decide ((a.b : Int) ≠ Lj))))) rfl) (aG rfl rfl (fun q => ag mH rfl) (aG rfl rfl (fun q => aA h 3 rfl aU (eD q) rfl) (aG rfl rfl (fun q => ag mH rfl) (aG rfl rfl (fun q => aA h 5 rfl aU (eD q) rfl) (aG rfl rfl (fun q => iA (eD q) (eD q)) (aa (iJ rfl rfl nC) ?_))))))))))))))))))))))
 refine aa (ah (v := (.bool (((decide ((a.a : Int) ≠ X7) || decide ((a.b : Int) ≠ Lj)) || decide ((a.c : Int) ≠ y13))))) rfl) (aG rfl rfl (fun q => ag qZ rfl) (aG rfl rfl (fun q => aA h 3 rfl qD (eD q) rfl) (aG rfl rfl (fun q => bW bV (eD q) (h.iV 1 rfl)) (aG rfl rfl (fun q => ah (v := (I6 Ac)) rfl) (aG rfl rfl (fun q => iA (eD q) (eD q)) (aa (iJ rfl rfl nC) (nN (aI hs rfl (fun c16 hs => ?_) (fun c16 hs => ?_)))))))))
 refine nG (aa (ae (v := (I6 4)) rfl) (nR (ay (dD (v := (I6 4)) Tryz.results86 rfl ?_))))
 obtain rfl := fP hs
 exact ⟨h.grown, rfl⟩
 refine aH (ak (aM (nG (aa (ag mG rfl) (aa (aA h 3 rfl aU rfl rfl) (aa (bz rfl rfl) (nN (aI hs rfl (fun c17 hs => ?_) (fun c17 hs => ?_)))))))))
 refine nG (aa (ag qZ rfl) (aa (aA h 3 rfl qD rfl rfl) (aa (bW bV rfl (h.iV 1 rfl)) (aa (ah (v := (I6 0)) rfl) (nN (aO (gu (σ := Nat × Int) (inl ([10, 20] ++ rg 198 9)) (fun ⟨k18, i19⟩ => [(198, (I6 i19))]) (fun ⟨k18, i19⟩ w => SH w0 M BE w (hset [(1, .sr eP Az a.args), (4, .blk b2 [(I6 d)])]) ∧ i19 = (k18 : Int) ∧ each (kZ d) ow (a.args.drop k18) () = some r) (fun ⟨k18, i19⟩ => a.args.length - k18) ⟨0, 0⟩ ⟨rfl, trivial⟩ ?_ ?_)))))))
 exact ⟨h.cn _, rfl, hs⟩
 rintro ⟨k18, i19⟩ w dO ⟨h, hik, hs⟩
 refine nG ?_
 refine aa (eB rfl rfl) (nN ?_)
 refine aM (gK rfl (fun e23 => ?_) (fun e23 => ?_))
 refine aH (ak ?_)
 obtain ⟨x20, e24a, e24b⟩ := fU (hik ▸ e23)
 rw [e24b, dV] at hs
 generalize hnx22 : each (kZ d) ow (a.args.drop (k18 + 1)) = nx22 at hs
 have e24r := gm ((h.iV 1 rfl)).bT hik e23
 refine aM (aO (nG ?_))
 obtain ⟨b26, o27, cs28, h, r29, i25⟩ := h.zP 1 6 rfl bV rfl (iI hik) (fZ hik e24a)
 obtain rfl := r29
 refine aa (i25 _ _ _ _ _ _ _ _ _ rfl rfl) (aa (fq (k := 0) h 6 rfl aU rfl rfl) (aa (ae (v := (I6 x20)) rfl) (nJ (aa (ah (v := (.func (.func 116) #[] #[(.pointer (some ⟨b2, 0, none⟩))])) rfl) (aa (ah (v := (I6 x20)) rfl) (lh (args := [(.bool (true)), (I6 x20), (.pointer (some ⟨b2, 0, none⟩))]) Ld rfl rfl (aQ (args := [(.bool (true)), (I6 x20), (.pointer (some ⟨b2, 0, none⟩))]) Tryz.func116 rfl Tryz.ntmps116 (bF rfl) (nG (aa (ae (v := (.bool (false))) rfl) (nJ (aa (ah (v := (.bool (true))) rfl) (aa (gL rfl) (aa (ah (v := (.bool (false))) rfl) (eT rfl rfl (aa (ah (v := (I6 x20)) rfl) (eT rfl rfl ?_))))))))))))))))
 refine aa (qV rfl rfl) (eT rfl rfl (aa (ah (v := (.bool (decide ((0 : Int) ≤ x20)))) rfl) (aG rfl rfl (fun q => ah (v := (I6 x20)) rfl) (aG rfl rfl (fun q => aA h 4 rfl aU rfl rfl) (aG rfl rfl (fun q => eB (eD q) (eD q)) (eT rfl rfl (aa (gZ rfl rfl nC) (aa (fB (b := false) (v := (.bool ((decide ((0 : Int) ≤ x20) && decide ((x20 : Int) < d))))) rfl rfl) (aa (ae (v := (.bool ((decide ((0 : Int) ≤ x20) && decide ((x20 : Int) < d))))) rfl) (nR (dD (v := (.bool ((decide ((0 : Int) ≤ x20) && decide ((x20 : Int) < d))))) Tryz.results116 rfl (⟨_, rfl, ?_⟩))))))))))))
 refine aa (gL rfl) (nN (aI hs rfl (fun c30 hs => ?_) (fun c30 hs => ?_)))
 refine nG (aa (ae (v := (I6 3)) rfl) (nR (aF (ay (ay (aF (ay (dD (v := (I6 3)) Tryz.results86 rfl ?_))))))))
 obtain rfl := fP hs
 exact ⟨h.grown, rfl⟩
 refine aH (ax (ak (aC (aa (dP rfl rfl e24r) (aa (ah (v := (I6 ((i19 + 1)))) rfl) (az (au ?_)))))))
 subst hnx22
 exact jB ⟨k18 + 1, i19 + 1⟩ ⟨h.cn _, by omega, hs⟩ (by have := p8 e23; dsimp only; omega)
 rw [fV (hik ▸ e23), fQ] at hs
 refine nE (aa (ae (v := (I6 0)) rfl) (nR (dD (v := (I6 0)) Tryz.results86 rfl ?_)))
 obtain rfl := fP hs
 exact ⟨h.grown, rfl⟩
 refine nS (aa (ae (v := (I6 0)) rfl) (nR (dD (v := (I6 0)) Tryz.results86 rfl ?_)))
 obtain rfl := fP hs
 exact ⟨h.grown, rfl⟩
 refine nG (aa (ag mG rfl) (aa (aA h 3 rfl aU rfl rfl) (aa (bz rfl rfl) (nN (aI hs rfl (fun c31 hs => ?_) (fun c31 hs => ?_))))))
 refine aC (aa (ag jb rfl) (gq h 5 [(I6 a.op), (I6 0), (I6 Lj), (I6 y13), (.slice none 0 0)] rfl aU rfl rfl rfl rfl rfl fun w h => az (au ?_)))
 exact bQ 0 ⟨h.cn _, hs⟩
 refine aH (au ?_)
 exact bQ Wy ⟨h.cn _, hs⟩
 refine nG (aa (ag mG rfl) (aa (aA h 3 rfl aU rfl rfl) (nN (aO (nG (aa (bz rfl rfl) (aa (ae (v := (.bool (decide ((a.op : Int) = 1)))) rfl) (nN (aI hs rfl (fun c32 hs => ?_) (fun c32 hs => ?_))))))))))
 refine aC (aa (ag gp rfl) (aa (aA h 3 rfl aU rfl rfl) (aa (qV rfl rfl) (aa (ah (v := (.bool (decide ((-1000000000 : Int) ≤ a.b)))) rfl) (aG rfl rfl (fun q => ag gp rfl) (aG rfl rfl (fun q => aA h 3 rfl aU (eD q) rfl) (aG rfl rfl (fun q => Gh (eD q) rfl) (aa (gZ rfl rfl nC) (aa (ae (v := (.bool ((decide ((-1000000000 : Int) ≤ a.b) && decide ((a.b : Int) ≤ 1000000000))))) rfl) (az (ax (au ?_))))))))))))
 exact bQ ((decide ((-1000000000 : Int) ≤ a.b) && decide ((a.b : Int) ≤ 1000000000)), 0, a.a, a.b, 0) ⟨h.cn _, hs⟩
 refine nG (aa (bz rfl rfl) (aa (ae (v := (.bool (decide ((a.op : Int) = 5)))) rfl) (nN (aI hs rfl (fun c33 hs => ?_) (fun c33 hs => ?_)))))
 refine aC (aa (ag gp rfl) (aa (aA h 3 rfl aU rfl rfl) (aa (qV rfl rfl) (aa (ah (v := (.bool (decide ((1 : Int) ≤ a.b)))) rfl) (aG rfl rfl (fun q => ag gp rfl) (aG rfl rfl (fun q => aA h 3 rfl aU (eD q) rfl) (aG rfl rfl (fun q => Gh (eD q) rfl) (aa (gZ rfl rfl nC) (aa (ae (v := (.bool ((decide ((1 : Int) ≤ a.b) && decide ((a.b : Int) ≤ 4))))) rfl) (az (ax (au ?_))))))))))))
 exact bQ ((decide ((1 : Int) ≤ a.b) && decide ((a.b : Int) ≤ 4)), 0, a.a, a.b, 0) ⟨h.cn _, hs⟩
 refine bX (σ := Bool) (inl [91, 92, 93]) (fun x34 => [(91, (.bool (x34)))]) (fun x34 w => SH w0 M BE w (hset [(1, .sr eP Az a.args), (2, .sr jk vc c), (3, .blk b1 [(I6 a.op), (I6 a.a), (I6 a.b), (I6 a.c), Az]), (4, .blk b2 [(I6 d)]), (5, .blk b8 [(I6 a.op), (I6 a.a), (I6 a.b), (I6 0), (.slice none 0 0)])]) ∧ cu a b c d e x34 = some r) ?_ ?_
 rintro x34 w dO ⟨h, hs⟩
 refine aI hs rfl (fun c35 hs => ?_) (fun c35 hs => ?_)
 refine lg 5 mixed (by kernel_rfl) h fun w h => aD (ah (v := (.bool ((decide ((0 : Int) ≤ a.c) && decide ((a.c : Int) < 4))))) rfl) (aD (ag mH rfl) (aD (aA h 3 rfl aU rfl rfl) (aD (ae (v := (.bool ((decide ((0 : Int) ≤ a.c) && decide ((a.c : Int) < 4))))) rfl) (aD (ag mH rfl) (uH (gq h 5 [(I6 a.op), (I6 a.a), (I6 a.b), (I6 a.c), (.slice none 0 0)] rfl aU rfl rfl rfl rfl rfl fun w h => az (ax (au ?_))))))))
 exact bQ ((decide ((0 : Int) ≤ a.c) && decide ((a.c : Int) < 4)), 0, a.a, a.b, a.c) ⟨h.cn _, hs⟩
 refine nG (aa (bz rfl rfl) (aa (ae (v := (.bool (decide ((a.op : Int) = 3)))) rfl) (nN (aI hs rfl (fun c36 hs => ?_) (fun c36 hs => ?_)))))
 refine aM (lg 4 mixed (by kernel_rfl) h fun w h => aD (ag mH rfl) (aD (aA h 3 rfl aU rfl rfl) (aD (ae (v := (I6 1)) rfl) (aD (ag mH rfl) (uH (gq h 5 [(I6 a.op), (I6 a.a), (I6 a.b), (I6 a.c), (.slice none 0 0)] rfl aU rfl rfl rfl rfl rfl fun w h => nN (aC (aa (ag qZ rfl) (aa (aA h 3 rfl qD rfl rfl) (aa (bW bV rfl (h.iV 1 rfl)) (aa (bz rfl rfl) (aa (ah (v := (.bool (decide (((a.args.length : Int) : Int) = 1)))) rfl) (kT (b := decide (((a.args.length : Int) : Int) = 1)) hs (fun c37 hs => ?_) (fun c37 hs => ?_))))))))))))))
 refine eT rfl (cB c37) (aa (ag qZ rfl) (eT rfl (cB c37) (aa (aA h 3 rfl qD rfl rfl) (eT rfl (cB c37) ?_))))
 obtain ⟨x38, e39, hs⟩ := aK hs
 obtain ⟨b41, o42, cs43, h, r44, i40⟩ := h.zP 1 7 rfl bV rfl (aB e39).1 (aB e39).2
 obtain rfl := r44
 refine aa (i40 _ _ _ _ _ _ _ _ _ rfl rfl) (eT rfl (cB c37) (aa (fq (k := 0) h 7 rfl aU rfl rfl) (eT rfl (cB c37) (aa (qV rfl rfl) (aa (fB (b := true) (v := (.bool (decide ((1 : Int) ≤ x38)))) (cB c37) rfl) (aa (ah (v := (.bool (decide ((1 : Int) ≤ x38)))) rfl) (aG rfl rfl (fun q => ag qZ rfl) (aG rfl rfl (fun q => aA h 3 rfl qD (eD q) rfl) ?_))))))))
 obtain ⟨b46, o47, cs48, h, r49, i45⟩ := h.zP 1 8 rfl bV rfl (aB e39).1 (aB e39).2
 obtain rfl := r49
 refine aG rfl rfl (fun q => i45 _ _ _ _ _ _ _ _ _ (eD q) rfl) (aG rfl rfl (fun q => fq (k := 0) h 8 rfl aU (eD q) rfl) (aG rfl rfl (fun q => Gh (eD q) rfl) (aa (gZ rfl rfl nC) (aa (ae (v := (.bool ((decide ((1 : Int) ≤ x38) && decide ((x38 : Int) ≤ 5))))) rfl) (az (ax (au ?_)))))))
 exact bQ ((decide ((1 : Int) ≤ x38) && decide ((x38 : Int) ≤ 5)), 1, a.a, a.b, a.c) ⟨h.cn _, hs⟩
 refine vT rfl (cB c37) rfl (vT rfl (cB c37) rfl (vT rfl (cB c37) rfl (vT rfl (cB c37) rfl (vT rfl (cB c37) rfl (aa (fB (b := false) (v := (.bool (false))) (cB c37) rfl) (aa (ah (v := (.bool (false))) rfl) (nM (b' := false) rfl rfl rfl (nM (b' := false) rfl rfl rfl (nM (b' := false) rfl rfl rfl (nM (b' := false) rfl rfl rfl (nM (b' := false) rfl rfl rfl (aa (fB (b := false) (v := (.bool (false))) rfl rfl) (aa (ae (v := (.bool (false))) rfl) (az (ax (au ?_))))))))))))))))
 exact bQ (false, 1, a.a, a.b, a.c) ⟨h.cn _, hs⟩
 refine bX (σ := Bool) (inl [121, 122, 123]) (fun x50 => [(121, (.bool (x50)))]) (fun x50 w => SH w0 M BE w (hset [(1, .sr eP Az a.args), (2, .sr jk vc c), (3, .blk b1 [(I6 a.op), (I6 a.a), (I6 a.b), (I6 a.c), Az]), (4, .blk b2 [(I6 d)]), (5, .blk b8 [(I6 a.op), (I6 a.a), (I6 a.b), (I6 0), (.slice none 0 0)])]) ∧ bZ a b c d e x50 = some r) ?_ ?_
 rintro x50 w dO ⟨h, hs⟩
 refine aI hs rfl (fun c51 hs => ?_) (fun c51 hs => ?_)
 refine aC (aa (ag gp rfl) (aa (aA h 3 rfl aU rfl rfl) (aa (qV rfl rfl) (aa (ah (v := (.bool (decide ((0 : Int) ≤ a.b)))) rfl) (aG rfl rfl (fun q => ag gp rfl) (aG rfl rfl (fun q => aA h 3 rfl aU (eD q) rfl) (aG rfl rfl (fun q => ah (v := (I6 e)) rfl) (aG rfl rfl (fun q => eB (eD q) (eD q)) (aa (gZ rfl rfl nC) (aa (ae (v := (.bool ((decide ((0 : Int) ≤ a.b) && decide ((a.b : Int) < e))))) rfl) (az (ax (au ?_)))))))))))))
 exact bQ ((decide ((0 : Int) ≤ a.b) && decide ((a.b : Int) < e)), 0, a.a, a.b, 0) ⟨h.cn _, hs⟩
 refine nG (aa (bz rfl rfl) (aa (ae (v := (.bool (decide ((a.op : Int) = 7)))) rfl) (nN (aI hs rfl (fun Gw hs => ?_) (fun Gw hs => ?_)))))
 refine aM (nG (aa (ag gp rfl) (aa (aA h 3 rfl aU rfl rfl) (aa (eB rfl rfl) (aa (ah (v := (.bool (decide ((a.b : Int) < 0)))) rfl) (aG rfl rfl (fun q => ag gp rfl) (aG rfl rfl (fun q => aA h 3 rfl aU (eD q) rfl) (aG rfl rfl (fun q => ah (v := vc) rfl) (aG rfl rfl (fun q => bW gU (eD q) (h.iV 2 rfl)) (aG rfl rfl (fun q => qV (eD q) (eD q)) (aa (iJ rfl rfl nC) (nN (aI hs rfl (fun c53 hs => ?_) (fun c53 hs => ?_))))))))))))))
 refine nG (aa (ae (v := (I6 5)) rfl) (nR (ay (aF (ay (dD (v := (I6 5)) Tryz.results86 rfl ?_))))))
 obtain rfl := fP hs
 exact ⟨h.grown, rfl⟩
 refine aH (ak (aC (aa (ah (v := vc) rfl) (aa (ag gp rfl) (aa (aA h 3 rfl aU rfl rfl) ?_)))))
 obtain ⟨x54, e55, hs⟩ := aK hs
 obtain ⟨b57, o58, cs59, h, r60, i56⟩ := h.zP 2 9 rfl gU rfl (aB e55).1 (aB e55).2
 obtain ⟨Vm, rfl, g62⟩ := jW r60
 replace h := h.dA 10 g62.up
 refine aa (i56 _ _ _ _ _ _ _ _ _ rfl rfl) (aa (ag Ak rfl) (aa (fq (k := 0) h 9 rfl aU rfl rfl) (aa (ae (v := (I6 x54.params)) rfl) (az (ax (au ?_))))))
 exact bQ ((bJ a.op).2.2.2, x54.params, a.a, a.b, 0) ⟨h.cn _, hs⟩
 refine bX (σ := Bool) (inl [151, 152, 153, 154]) (fun uR => [(151, (.bool (uR)))]) (fun uR w => SH w0 M BE w (hset [(1, .sr eP Az a.args), (3, .blk b1 [(I6 a.op), (I6 a.a), (I6 a.b), (I6 a.c), Az]), (4, .blk b2 [(I6 d)]), (5, .blk b8 [(I6 a.op), (I6 a.a), (I6 a.b), (I6 0), (.slice none 0 0)])]) ∧ bU a b c d uR = some r) ?_ ?_
 rintro uR w dO ⟨h, hs⟩
 refine aI hs rfl (fun c64 hs => ?_) (fun c64 hs => ?_)
 refine aC (aa (ag gp rfl) (gq h 5 [(I6 a.op), (I6 a.a), (I6 0), (I6 0), (.slice none 0 0)] rfl aU rfl rfl rfl rfl rfl fun w h => az (ax (au ?_))))
 exact bQ ((bJ a.op).2.2.2, 0, a.a, 0, 0) ⟨h.cn _, hs⟩
 refine nG (aa (bz rfl rfl) (aa (ae (v := (.bool (decide ((a.op : Int) = 10)))) rfl) (nN (aI hs rfl (fun Al hs => ?_) (fun Al hs => ?_)))))
 refine aC (aa (ag jb rfl) (gq h 5 [(I6 a.op), (I6 0), (I6 a.b), (I6 0), (.slice none 0 0)] rfl aU rfl rfl rfl rfl rfl fun w h => aa (ag gp rfl) (gq h 5 [(I6 a.op), (I6 0), (I6 0), (I6 0), (.slice none 0 0)] rfl aU rfl rfl rfl rfl rfl fun w h => az (ax (au ?_)))))
 exact bQ ((bJ a.op).2.2.2, 0, 0, 0, 0) ⟨h.cn _, hs⟩
 refine aH (ax (au ?_))
 exact bQ ((bJ a.op).2.2.2, 0, a.a, a.b, 0) ⟨h.cn _, hs⟩
 refine nG (aa (bz rfl rfl) (aa (ae (v := (.bool (decide ((a.op : Int) = 8)))) rfl) (nN (aI hs rfl (fun c66 hs => ?_) (fun c66 hs => ?_)))))
 refine aH (au ?_)
 exact bQ (decide ((a.op : Int) = 8)) ⟨h.cn _, hs⟩
 refine nG (aa (bz rfl rfl) (aa (ae (v := (.bool (decide ((a.op : Int) = 9)))) rfl) (nN (aI hs rfl (fun c67 hs => ?_) (fun c67 hs => ?_)))))
 refine aH (au ?_)
 exact bQ (decide ((a.op : Int) = 9)) ⟨h.cn _, hs⟩
 refine aC (aa (bz rfl rfl) (aa (ae (v := (.bool (decide ((a.op : Int) = 11)))) rfl) (az (au ?_))))
 exact bQ (decide ((a.op : Int) = 11)) ⟨h.cn _, hs⟩
 refine nG (aa (bz rfl rfl) (aa (ae (v := (.bool (decide ((a.op : Int) = 12)))) rfl) (nN (aI hs rfl (fun c68 hs => ?_) (fun c68 hs => ?_)))))
 refine aH (au ?_)
 exact bQ (decide ((a.op : Int) = 12)) ⟨h.cn _, hs⟩
 refine aC (aa (bz rfl rfl) (aa (ae (v := (.bool (decide ((a.op : Int) = 13)))) rfl) (az (au ?_))))
 exact bQ (decide ((a.op : Int) = 13)) ⟨h.cn _, hs⟩
 refine nG (aa (bz rfl rfl) (aa (ae (v := (.bool (decide ((a.op : Int) = 4)))) rfl) (nN (aI hs rfl (fun c69 hs => ?_) (fun c69 hs => ?_)))))
 refine aH (au ?_)
 exact bQ (decide ((a.op : Int) = 4)) ⟨h.cn _, hs⟩
 refine aC (aa (bz rfl rfl) (aa (ae (v := (.bool (decide ((a.op : Int) = 6)))) rfl) (az (au ?_))))
 exact bQ (decide ((a.op : Int) = 6)) ⟨h.cn _, hs⟩
def fo (a : List bL) (GK : bL) (i35 : Int) (iU : Ins) (s : Unit) (Qd : Unit → Option Int) : Option Int :=
  (eF iU i35 a GK.regs (GK.code.length : Int)).bind fun Ew => bif decide ((Ew : Int) ≠ 0) then some Ew else Qd ()
def rF (GK : bL) (pg : Unit → Option Int) (s : Unit) : Option Int :=
  ib (jV ((GK.code.length : Int) - 1)) ((idx GK.code ((GK.code.length : Int) - 1)).bind fun x54 => bif (decide ((x54.op : Int) ≠ 8) && decide ((x54.op : Int) ≠ 12)) then some 4 else pg ())
def gP (a : List bL) (GK : bL) (s : Unit) (pg : Unit → Option Int) : Option Int :=
  dW (fo a GK) (rF GK pg) 0 GK.code ()
def ku (s : Unit) : Option Int :=
  some 0
def jK (i3 : Int) (x4 : bL) (s : Unit) (Jo : Unit → Option Int) : Option Int :=
  bif (((((decide ((x4.params : Int) < 0) || decide ((3 : Int) < x4.params)) || decide ((x4.regs : Int) < 1)) || decide ((x4.regs : Int) < x4.params)) || decide ((40 : Int) < x4.regs)) || (decide ((i3 : Int) = 0) && decide ((0 : Int) < x4.params))) then some 3 else bif (decide (((x4.code.length : Int) : Int) = 0) || decide ((2000 : Int) < (x4.code.length : Int))) then some 2 else Jo ()
def kv (a : List bL) (s : Unit) : Option Int :=
  each (gP a) ku a ()
def qR (a : List bL) : Option Int :=
  bif (decide (((a.length : Int) : Int) = 0) || decide ((4 : Int) < (a.length : Int))) then some 2 else dW jK (kv a) 0 a ()
theorem IC (w0 : World) (M : BS) (hM : ∀ b, M b → b < w0.heap.size) (va : Value) (a : List bL) (ha : gy jk w0 BE M va a) (r : Int) (hs : qR a = some r) :
    Calls Tryz.prog 63 #[va] w0 (fun e w' => Grow w0 w' ∧ e = .returned (.int .i64 r)) := by
 refine aQ (args := [va]) Tryz.func63 rfl Tryz.ntmps63 (bF rfl) ?_
 have h := SH.init hM
 replace h := h.gz 1 ha bH
 have vC := ha.bT
 refine nG (aa (ae (v := (I6 0)) rfl) (nK (aa (ah (v := va) rfl) (aa (bW gU rfl (h.iV 1 rfl)) (aa (bz rfl rfl) (aa (ah (v := (.bool (decide (((a.length : Int) : Int) = 0)))) rfl) (aG rfl rfl (fun q => ah (v := va) rfl) (aG rfl rfl (fun q => bW gU (eD q) (h.iV 1 rfl)) (aG rfl rfl (fun q => lT (eD q) rfl) (aa (iJ rfl rfl nC) (nN (aI hs rfl (fun c1 hs => ?_) (fun c1 hs => ?_)))))))))))))
 refine nG (aa (ae (v := (I6 2)) rfl) (nR (ay (dD (v := (I6 2)) Tryz.results63 rfl ?_))))
 obtain rfl := fP hs
 exact ⟨h.grown, rfl⟩
 refine aH (ak (aM (nG (aa (ah (v := va) rfl) (aa (bW gU rfl (h.iV 1 rfl)) (aa (ah (v := (I6 0)) rfl) (nN (aO (gu (σ := Nat × Int) (inl ([2, 3, 4] ++ rg 21 50)) (fun ⟨k2, i3⟩ => [(21, (I6 i3))]) (fun ⟨k2, i3⟩ w => SH w0 M BE w (hset [(1, .sr jk va a)]) ∧ i3 = (k2 : Int) ∧ dW jK (kv a) i3 (a.drop k2) () = some r) (fun ⟨k2, i3⟩ => a.length - k2) ⟨0, 0⟩ ⟨rfl, trivial⟩ ?_ ?_)))))))))
 exact ⟨h.cn _, rfl, hs⟩
 rintro ⟨k2, i3⟩ w dO ⟨h, hik, hs⟩
 refine nG ?_
 refine aa (eB rfl rfl) (nN ?_)
 refine aM (gK rfl (fun e7 => ?_) (fun e7 => ?_))
 refine aH (ak ?_)
 obtain ⟨x4, e8a, e8b⟩ := fU (hik ▸ e7)
 rw [e8b, ja] at hs
 generalize Me : dW jK (kv a) (i3 + 1) (a.drop (k2 + 1)) = Jo at hs
 have Y6 := gm ((h.iV 1 rfl)).bT hik e7
 refine aM (aO (nG (aa (ah (v := (I6 i3)) rfl) ?_)))
 obtain ⟨b10, o11, cs12, h, r13, i9⟩ := h.zP 1 2 rfl gU rfl (iI hik) (fZ hik e8a)
 obtain ⟨V4, rfl, g15⟩ := jW r13
 replace h := h.dA 3 g15.up
 refine aa (i9 _ _ _ _ _ _ _ _ _ rfl rfl) (aa (jo (k := 0) (vs := [(I6 x4.params), (I6 x4.regs), V4]) h 2 rfl sF rfl rfl rfl (bF rfl)) (bP h 4 sF fun w b16 h => aa (ae (v := (I6 i3)) rfl) (dH (vs := [(I6 x4.params), (I6 x4.regs), V4]) h 4 [(I6 x4.params), (I6 x4.regs), V4] rfl sF rfl rfl rfl rfl rfl (ai rfl (ai rfl (ai (h.iD 3 rfl).one aS))) fun w h => nK (aa (ag Ak rfl) (aa (aA h 4 rfl aU rfl rfl) (aa (eB rfl rfl) (aa (ah (v := (.bool (decide ((x4.params : Int) < 0)))) rfl) (aG rfl rfl (fun q => ag Ak rfl) (aG rfl rfl (fun q => aA h 4 rfl aU (eD q) rfl) (aG rfl rfl (fun q => lT (eD q) rfl) (aa (iJ rfl rfl nC) (aa (ah (v := (.bool ((decide ((x4.params : Int) < 0) || decide ((3 : Int) < x4.params))))) rfl) (aG rfl rfl (fun q => ag wy rfl) (aG rfl rfl (fun q => aA h 4 rfl aU (eD q) rfl) (aG rfl rfl (fun q => eB (eD q) rfl) (aa (iJ rfl rfl nC) (aa (ah (v := (.bool (((decide ((x4.params : Int) < 0) || decide ((3 : Int) < x4.params)) || decide ((x4.regs : Int) < 1))))) rfl) ?_)))))))))))))))))
 refine aG rfl rfl (fun q => ag wy rfl) (aG rfl rfl (fun q => aA h 4 rfl aU (eD q) rfl) (aG rfl rfl (fun q => ag Ak rfl) (aG rfl rfl (fun q => aA h 4 rfl aU (eD q) rfl) (aG rfl rfl (fun q => eB (eD q) (eD q)) (aa (iJ rfl rfl nC) (aa (ah (v := (.bool ((((decide ((x4.params : Int) < 0) || decide ((3 : Int) < x4.params)) || decide ((x4.regs : Int) < 1)) || decide ((x4.regs : Int) < x4.params))))) rfl) (aG rfl rfl (fun q => ag wy rfl) (aG rfl rfl (fun q => aA h 4 rfl aU (eD q) rfl) (aG rfl rfl (fun q => lT (eD q) rfl) (aa (iJ rfl rfl nC) (aa (ah (v := (.bool (((((decide ((x4.params : Int) < 0) || decide ((3 : Int) < x4.params)) || decide ((x4.regs : Int) < 1)) || decide ((x4.regs : Int) < x4.params)) || decide ((40 : Int) < x4.regs))))) rfl) (aG rfl rfl (fun q => ah (v := (I6 i3)) rfl) (aG rfl rfl (fun q => bz (eD q) rfl) (aG rfl rfl (fun q => ah (v := (.bool (decide ((i3 : Int) = 0)))) (eD q)) (kG (((((decide ((x4.params : Int) < 0) || decide ((3 : Int) < x4.params)) || decide ((x4.regs : Int) < 1)) || decide ((x4.regs : Int) < x4.params)) || decide ((40 : Int) < x4.regs)) == false) rfl rfl (fun q => ag Ak rfl) (kG (((((decide ((x4.params : Int) < 0) || decide ((3 : Int) < x4.params)) || decide ((x4.regs : Int) < 1)) || decide ((x4.regs : Int) < x4.params)) || decide ((40 : Int) < x4.regs)) == false) rfl rfl (fun q => aA h 4 rfl aU (eD q) rfl) (kG (((((decide ((x4.params : Int) < 0) || decide ((3 : Int) < x4.params)) || decide ((x4.regs : Int) < 1)) || decide ((x4.regs : Int) < x4.params)) || decide ((40 : Int) < x4.regs)) == false) rfl rfl (fun q => lT (eD q) rfl) (aG rfl rfl (fun q => gZ (eD q) (QN q) nC) (aa (iJ rfl rfl nC) (nN (aI hs rfl (fun c17 hs => ?_) (fun c17 hs => ?_))))))))))))))))))))))
 refine nG (aa (ae (v := (I6 3)) rfl) (nR (ay (aF (ay (ay (aF (ay (dD (v := (I6 3)) Tryz.results63 rfl ?_)))))))))
 obtain rfl := fP hs
 exact ⟨h.grown, rfl⟩
 refine nS (aa (ag nQ rfl) (aa (aA h 4 rfl xy rfl rfl) (aa (bW iy rfl (h.ny 3 rfl)) (aa (bz rfl rfl) (aa (ah (v := (.bool (decide (((x4.code.length : Int) : Int) = 0)))) rfl) (aG rfl rfl (fun q => ag nQ rfl) (aG rfl rfl (fun q => aA h 4 rfl xy (eD q) rfl) (aG rfl rfl (fun q => bW iy (eD q) (h.ny 3 rfl)) (aG rfl rfl (fun q => lT (eD q) rfl) (aa (iJ rfl rfl nC) (nN (aI hs rfl (fun c18 hs => ?_) (fun c18 hs => ?_)))))))))))))
 refine nG (aa (ae (v := (I6 2)) rfl) (nR (aF (ay (ay (aF (ay (dD (v := (I6 2)) Tryz.results63 rfl ?_))))))))
 obtain rfl := fP hs
 exact ⟨h.grown, rfl⟩
 refine aH (ax (ak (aC (aa (dP rfl rfl Y6) (aa (ah (v := (I6 ((i3 + 1)))) rfl) (az (au ?_)))))))
 subst Me
 exact jB ⟨k2 + 1, i3 + 1⟩ ⟨h.cn _, by omega, hs⟩ (by have := p8 e7; dsimp only; omega)
 rw [fV (hik ▸ e7), mh] at hs
 refine iL (bI (bI (eH (ak (aM (nG (aa (ah (v := va) rfl) (aa (bW gU rfl (h.iV 1 rfl)) (aa (ah (v := (I6 0)) rfl) (nN (aO (gu (σ := Nat × Int) (inl ([2, 6, 7, 8, 9, 10] ++ rg 73 41)) (fun ⟨k19, i20⟩ => [(73, (I6 i20))]) (fun ⟨k19, i20⟩ w => SH w0 M BE w (hset [(1, .sr jk va a)]) ∧ i20 = (k19 : Int) ∧ each (gP a) ku (a.drop k19) () = some r) (fun ⟨k19, i20⟩ => a.length - k19) ⟨0, 0⟩ ⟨rfl, trivial⟩ ?_ ?_))))))))))))
 exact ⟨h.cn _, rfl, hs⟩
 rintro ⟨k19, i20⟩ w dO ⟨h, hik, hs⟩
 refine nG ?_
 refine aa (eB rfl rfl) (nN ?_)
 refine aM (gK rfl (fun e24 => ?_) (fun e24 => ?_))
 refine aH (ak ?_)
 obtain ⟨GK, e25a, e25b⟩ := fU (hik ▸ e24)
 rw [e25b, dV] at hs
 generalize ZB : each (gP a) ku (a.drop (k19 + 1)) = pg at hs
 have e25r := gm ((h.iV 1 rfl)).bT hik e24
 refine aM (aO (nG ?_))
 obtain ⟨b27, o28, cs29, h, r30, i26⟩ := h.zP 1 5 rfl gU rfl (iI hik) (fZ hik e25a)
 obtain ⟨u31, rfl, g32⟩ := jW r30
 replace h := h.dA 6 g32.up
 refine aa (i26 _ _ _ _ _ _ _ _ _ rfl rfl) (aa (jo (k := 0) (vs := [(I6 GK.params), (I6 GK.regs), u31]) h 5 rfl sF rfl rfl rfl (bF rfl)) (bP h 7 sF fun w b33 h => dH (vs := [(I6 GK.params), (I6 GK.regs), u31]) h 7 [(I6 GK.params), (I6 GK.regs), u31] rfl sF rfl rfl rfl rfl rfl (ai rfl (ai rfl (ai (h.iD 6 rfl).one aS))) fun w h => nK (aa (ag nQ rfl) (aa (aA h 7 rfl xy rfl rfl) (aa (bW iy rfl (h.ny 6 rfl)) (aa (ah (v := (I6 0)) rfl) (nN (aO (gu (σ := Nat × Int) (inl ([2, 7, 8, 9] ++ rg 80 18)) (fun ⟨Rp, i35⟩ => [(80, (I6 i35))]) (fun ⟨Rp, i35⟩ w => SH w0 M BE w (hset [(1, .sr jk va a), (6, .rd kr u31 GK.code), (7, .blk b33 [(I6 GK.params), (I6 GK.regs), u31])]) ∧ i35 = (Rp : Int) ∧ dW (fo a GK) (rF GK pg) i35 (GK.code.drop Rp) () = some r) (fun ⟨Rp, i35⟩ => GK.code.length - Rp) ⟨0, 0⟩ ⟨rfl, trivial⟩ ?_ ?_)))))))))
 exact ⟨h.cn _, rfl, hs⟩
 rintro ⟨Rp, i35⟩ w dO ⟨h, hik, hs⟩
 refine nG ?_
 refine aa (eB rfl rfl) (nN ?_)
 refine aM (gK rfl (fun e39 => ?_) (fun e39 => ?_))
 refine aH (ak ?_)
 obtain ⟨iU, e40a, e40b⟩ := fU (hik ▸ e39)
 rw [e40b, ja] at hs
 generalize ZL : dW (fo a GK) (rF GK pg) (i35 + 1) (GK.code.drop (Rp + 1)) = Qd at hs
 have e40r := gm ((h.ny 6 rfl)).bT hik e39
 refine aM (aO (nG (aa (ah (v := (I6 i35)) rfl) ?_)))
 obtain ⟨b42, o43, cs44, h, r45, i41⟩ := h.Cm 6 8 rfl iy rfl (iI hik) (fZ hik e40a)
 obtain ⟨u46, rfl, g47⟩ := wM r45
 replace h := h.dA 9 g47.up
 refine aa (i41 _ _ _ _ _ _ _ _ _ rfl rfl) (aa (jo (k := 0) (vs := [(I6 iU.op), (I6 iU.a), (I6 iU.b), (I6 iU.c), u46]) h 8 rfl nT rfl rfl rfl (bF rfl)) (bP h 10 nT fun w b48 h => aa (ae (v := (I6 i35)) rfl) (dH (vs := [(I6 iU.op), (I6 iU.a), (I6 iU.b), (I6 iU.c), u46]) h 10 [(I6 iU.op), (I6 iU.a), (I6 iU.b), (I6 iU.c), u46] rfl nT rfl rfl rfl rfl rfl (ai rfl (ai rfl (ai rfl (ai rfl (ai (h.iD 9 rfl).one aS))))) fun w h => nJ (aa (dK (vs := [(I6 iU.op), (I6 iU.a), (I6 iU.b), (I6 iU.c), u46]) h 10 rfl nT rfl rfl rfl) (aa (ah (v := (I6 i35)) rfl) (aa (ah (v := va) rfl) (aa (ag wy rfl) (aa (aA h 7 rfl aU rfl rfl) (aa (ag nQ rfl) (aa (aA h 7 rfl xy rfl rfl) (aa (bW iy rfl (h.ny 6 rfl)) ?_)))))))))))
 obtain ⟨Ew, e50, hs⟩ := aK hs
 refine aX fnOk86 rfl rfl (Qc _ _ h.lt iU u46 (h.ny 9 rfl) i35 va a (h.iV 1 rfl) GK.regs (GK.code.length : Int) _ e50) ?_
 rintro _ w ⟨k51, rfl⟩
 refine ⟨_, rfl, ?_⟩
 replace h := h.grow k51
 refine aa (ae (v := (I6 Ew)) rfl) (nJ (aa (ah (v := (I6 Ew)) rfl) (aa (iA rfl rfl) (nN (aI hs rfl (fun Gw hs => ?_) (fun Gw hs => ?_))))))
 refine nG (aa (ah (v := (I6 Ew)) rfl) (aa (ae (v := (I6 Ew)) rfl) (nR (aF (ay (ay (aF (ay (aF (ay (ay (aF (ay (dD (v := (I6 Ew)) Tryz.results63 rfl ?_))))))))))))))
 obtain rfl := fP hs
 exact ⟨h.grown, rfl⟩
 refine aH (ax (ak (aC (aa (dP rfl rfl e40r) (aa (ah (v := (I6 ((i35 + 1)))) rfl) (az (au ?_)))))))
 subst ZL
 exact jB ⟨Rp + 1, i35 + 1⟩ ⟨h.cn _, by omega, hs⟩ (by have := p8 e39; dsimp only; omega)
 rw [fV (hik ▸ e39), mh] at hs
 refine nE (aa (ag nQ rfl) (aa (aA h 7 rfl xy rfl rfl) (aa (ag nQ rfl) (aa (aA h 7 rfl xy rfl rfl) (aa (bW iy rfl (h.ny 6 rfl)) ?_)))))
 obtain ⟨a53, hs⟩ := bB hs
 refine aa (mV rfl rfl a53) ?_
 obtain ⟨x54, e55, hs⟩ := aK hs
 obtain ⟨b57, o58, cs59, h, r60, i56⟩ := h.Cm 6 11 rfl iy rfl (aB e55).1 (aB e55).2
 obtain ⟨Vm, rfl, g62⟩ := wM r60
 replace h := h.dA 12 g62.up
 refine aa (i56 _ _ _ _ _ _ _ _ _ rfl rfl) (aa (ag mG rfl) (aa (fq (k := 0) h 11 rfl aU rfl rfl) (aa (ae (v := (I6 x54.op)) rfl) (nJ (aa (ah (v := (I6 x54.op)) rfl) (aa (iA rfl rfl) (aa (ah (v := (.bool (decide ((x54.op : Int) ≠ 8)))) rfl) (aG rfl rfl (fun q => ah (v := (I6 x54.op)) rfl) (aG rfl rfl (fun q => iA (eD q) rfl) (aa (gZ rfl rfl nC) (nN (aI hs rfl (fun c63 hs => ?_) (fun c63 hs => ?_)))))))))))))
 refine nG (aa (ae (v := (I6 4)) rfl) (nR (aF (ay (ay (aF (ay (dD (v := (I6 4)) Tryz.results63 rfl ?_))))))))
 obtain rfl := fP hs
 exact ⟨h.grown, rfl⟩
 refine aH (ax (ak (aC (aa (dP rfl rfl e25r) (aa (ah (v := (I6 ((i20 + 1)))) rfl) (az (au ?_)))))))
 subst ZB
 exact jB ⟨k19 + 1, i20 + 1⟩ ⟨h.cn _, by omega, hs⟩ (by have := p8 e24; dsimp only; omega)
 rw [fV (hik ▸ e24), fQ] at hs
 refine nE (aa (ae (v := (I6 0)) rfl) (nR (dD (v := (I6 0)) Tryz.results63 rfl ?_)))
 obtain rfl := fP hs
 exact ⟨h.grown, rfl⟩
def Qe (a : List bL) : Option (LX.State × Int) :=
  (qR a).bind fun y2 => bif decide ((y2 : Int) ≠ 0) then some ((⟨[], [], 0, 0⟩ : LX.State), y2) else (idx a 0).bind fun x6 => ib (0 ≤ x6.regs ∧ x6.regs * 16 ≤ 140737488355328) (some ((⟨[(⟨0, 0, (List.replicate x6.regs.toNat (⟨0, 0⟩ : Val)), 0⟩ : LX.Frame)], [], 0, 0⟩ : LX.State), 0))
theorem ZM (w0 : World) (M : BS) (hM : ∀ b, M b → b < w0.heap.size) (va : Value) (a : List bL) (ha : gy jk w0 BE M va a) (r : LX.State × Int) (hs : Qe a = some r) :
    Calls Tryz.prog 29 #[va] w0 (fun e w' => Grow w0 w' ∧ ∃ uC, ∃ wF, e = .returned (.tuple #[.agg #[uC, wF, .int .i64 r.1.status, .int .i64 r.1.aL], .int .i64 r.2]) ∧ gX fC w' M uC r.1.frames ∧ gX (rU bC) w' M wF r.1.cells) := by
 refine aQ (args := [va]) Tryz.func29 rfl Tryz.ntmps29 (bF rfl) ?_
 have h := SH.init hM
 replace h := h.gz 1 ha bH
 have vC := ha.bT
 refine nG (bP h 2 bM fun w b1 h => aa (ae (v := (I6 0)) rfl) (nK (aa (ah (v := va) rfl) ?_)))
 obtain ⟨y2, e3, hs⟩ := aK hs
 refine aX YR rfl rfl (IC _ _ h.lt va a (h.iV 1 rfl) _ e3) ?_
 rintro _ w ⟨k4, rfl⟩
 refine ⟨_, rfl, ?_⟩
 replace h := h.grow k4
 refine aa (ae (v := (I6 y2)) rfl) (nJ (aa (ah (v := (I6 y2)) rfl) (aa (iA rfl rfl) (nN (aI hs rfl (fun c5 hs => ?_) (fun c5 hs => ?_))))))
 refine nG (aa (ek (pv := []) (out := [(.slice none 0 0), (.slice none 0 0), (I6 0), (I6 0)]) rA rfl rfl) (aa (ah (v := (I6 y2)) rfl) (dH (vs := [(.slice none 0 0), (.slice none 0 0), (I6 0), (I6 0)]) h 2 [(.slice none 0 0), (.slice none 0 0), (I6 0), (I6 0)] rfl bM rfl rfl rfl rfl rfl (ai rfl (ai rfl (ai rfl (ai rfl aS)))) fun w h => aa (ae (v := (I6 y2)) rfl) (nR (ay (ll (vs := [(.slice none 0 0), (.slice none 0 0), (I6 0), (I6 0)]) (v2 := (I6 y2)) Tryz.results29 rfl rfl h 2 rfl bM rfl ?_))))))
 obtain rfl := fP hs
 exact ⟨h.grown, _, _, rfl, gy.nil, gy.nil⟩
 refine nS (aa (ah (v := va) rfl) ?_)
 obtain ⟨x6, e7, hs⟩ := aK hs
 obtain ⟨b9, o10, cs11, h, r12, i8⟩ := h.zP 1 3 rfl gU rfl (aB e7).1 (aB e7).2
 obtain ⟨Mg, rfl, g14⟩ := jW r12
 replace h := h.dA 4 g14.up
 refine aa (i8 _ _ _ _ _ _ _ _ _ rfl rfl) (aa (ag wy rfl) (aa (fq (k := 1) h 3 rfl aU rfl rfl) ?_))
 obtain ⟨a16, hs⟩ := bB hs
 refine tX (R := bC) (zs := [(I6 0), (I6 0)]) (a := (⟨0, 0⟩ : Val)) h 5 kL aY rfl (by decide) rfl rfl a16 rfl (fun _ _ => rfl) fun w Jb h u15k u15f => aa (ek (pv := [(2, Jb)]) (out := [(I6 0), (I6 0), Jb, (I6 0)]) CB rfl ⟨2, 1, [Jb], rfl, (fM (h.dm 5 rfl).one), rfl, bF rfl, rfl⟩) ?_
 replace h := h.freeze 5 rfl
 refine tL (R := fC) (vs := [(.agg #[(I6 0), (I6 0), Jb, (I6 0)])]) (xs := [(⟨0, 0, (List.replicate x6.regs.toNat (⟨0, 0⟩ : Val)), 0⟩ : LX.Frame)]) h 6 jT rfl rfl rfl ⟨⟨_, rfl, (h.iD 5 rfl)⟩, trivial⟩ rfl fun w QB h => aa (ek (pv := [(0, QB)]) (out := [QB, (.slice none 0 0), (I6 0), (I6 0)]) rA rfl ⟨0, 1, [QB], rfl, (fM (h.dm 6 rfl).one), rfl, bF rfl, rfl⟩) (dH (vs := [QB, (.slice none 0 0), (I6 0), (I6 0)]) h 2 [QB, (.slice none 0 0), (I6 0), (I6 0)] rfl bM rfl rfl rfl rfl rfl (ai (h.dm 6 rfl).one (ai rfl (ai rfl (ai rfl aS)))) fun w h => aa (ae (v := (I6 0)) rfl) (nR (ll (vs := [QB, (.slice none 0 0), (I6 0), (I6 0)]) (v2 := (I6 0)) Tryz.results29 rfl rfl h 2 rfl bM rfl ?_)))
 replace h := h.freeze 6 rfl
 obtain rfl := fP hs
 exact ⟨h.grown, _, _, rfl, h.Yj 6 rfl, gy.nil⟩
def dY (a : Val) (b : Int) : Int :=
  bif decide ((a.kind : Int) = 0) then bif decide ((a.n : Int) ≠ 0) then 4 else 0 else bif decide ((a.kind : Int) = 1) then bif (decide ((a.n : Int) < -1000000000) || decide ((1000000000 : Int) < a.n)) then 3 else 0 else bif decide ((a.kind : Int) = 2) then bif (decide ((a.n : Int) < 0) || decide ((b : Int) ≤ a.n)) then 5 else 0 else 4
theorem DX (w0 : World) (M : BS) (hM : ∀ b, M b → b < w0.heap.size) (a : Val) (b : Int) (r : Int) (hs : dY a b = r) :
    Calls Tryz.prog 81 #[(.agg #[(I6 a.kind), (I6 a.n)]), (I6 b)] w0 (fun e w' => Grow w0 w' ∧ e = .returned (.int .i64 r)) := by
 refine aQ (args := [(.agg #[(I6 a.kind), (I6 a.n)]), (I6 b)]) Tryz.func81 rfl Tryz.ntmps81 (bF rfl) ?_
 have h := SH.init hM
 refine nG (mD (cs := [(I6 a.kind), (I6 a.n)]) h 1 rfl rfl fun w b1 h => aa (ae (v := (I6 0)) rfl) (nK (aa (ag mW rfl) (aa (aA h 1 rfl aU rfl rfl) (nN (aO (nG (aa (bz rfl rfl) (aa (ae (v := (.bool (decide ((a.kind : Int) = 0)))) rfl) (nN (aI hs rfl (fun c2 hs => ?_) (fun c2 hs => ?_))))))))))))
 refine nG (aa (ag fu rfl) (aa (aA h 1 rfl aU rfl rfl) (aa (iA rfl rfl) (nN (aI hs rfl (fun c3 hs => ?_) (fun c3 hs => ?_))))))
 refine nG (aa (ae (v := (I6 4)) rfl) (nR (aF (ay (dD (v := (I6 4)) Tryz.results81 rfl ?_)))))
 obtain rfl := hs
 exact ⟨h.grown, rfl⟩
 refine aH (ax (ak (nG (aa (ae (v := (I6 0)) rfl) (nR (dD (v := (I6 0)) Tryz.results81 rfl ?_))))))
 obtain rfl := hs
 exact ⟨h.grown, rfl⟩
 refine nG (aa (bz rfl rfl) (aa (ae (v := (.bool (decide ((a.kind : Int) = 1)))) rfl) (nN (aI hs rfl (fun c4 hs => ?_) (fun c4 hs => ?_)))))
 refine nG (aa (ag fu rfl) (aa (aA h 1 rfl aU rfl rfl) (aa (eB rfl rfl) (aa (ah (v := (.bool (decide ((a.n : Int) < -1000000000)))) rfl) (aG rfl rfl (fun q => ag fu rfl) (aG rfl rfl (fun q => aA h 1 rfl aU (eD q) rfl) (aG rfl rfl (fun q => lT (eD q) rfl) (aa (iJ rfl rfl nC) (nN (aI hs rfl (fun c5 hs => ?_) (fun c5 hs => ?_)))))))))))
 refine nG (aa (ae (v := (I6 3)) rfl) (nR (aF (ay (dD (v := (I6 3)) Tryz.results81 rfl ?_)))))
 obtain rfl := hs
 exact ⟨h.grown, rfl⟩
 refine aH (ax (ak (nG (aa (ae (v := (I6 0)) rfl) (nR (dD (v := (I6 0)) Tryz.results81 rfl ?_))))))
 obtain rfl := hs
 exact ⟨h.grown, rfl⟩
 refine nG (aa (bz rfl rfl) (aa (ae (v := (.bool (decide ((a.kind : Int) = 2)))) rfl) (nN (aI hs rfl (fun c6 hs => ?_) (fun c6 hs => ?_)))))
 refine nG (aa (ag fu rfl) (aa (aA h 1 rfl aU rfl rfl) (aa (eB rfl rfl) (aa (ah (v := (.bool (decide ((a.n : Int) < 0)))) rfl) (aG rfl rfl (fun q => ag fu rfl) (aG rfl rfl (fun q => aA h 1 rfl aU (eD q) rfl) (aG rfl rfl (fun q => ah (v := (I6 b)) rfl) (aG rfl rfl (fun q => qV (eD q) (eD q)) (aa (iJ rfl rfl nC) (nN (aI hs rfl (fun c7 hs => ?_) (fun c7 hs => ?_))))))))))))
 refine nG (aa (ae (v := (I6 5)) rfl) (nR (aF (ay (dD (v := (I6 5)) Tryz.results81 rfl ?_)))))
 obtain rfl := hs
 exact ⟨h.grown, rfl⟩
 refine aH (ax (ak (nG (aa (ae (v := (I6 0)) rfl) (nR (dD (v := (I6 0)) Tryz.results81 rfl ?_))))))
 obtain rfl := hs
 exact ⟨h.grown, rfl⟩
 refine nG (aa (ae (v := (I6 4)) rfl) (nR (aF (ay (dD (v := (I6 4)) Tryz.results81 rfl ?_)))))
 obtain rfl := hs
 exact ⟨h.grown, rfl⟩
def jl (a : List (List Val)) (DY : Val) (s : Unit) (Y4 : Unit → Int) : Int :=
  bif decide (((dY DY (a.length : Int)) : Int) ≠ 0) then (dY DY (a.length : Int)) else Y4 ()
def iT (Jo : Unit → Int) (s : Unit) : Int :=
  Jo ()
def j4 (a : List (List Val)) (x4 : List Val) (s : Unit) (Jo : Unit → Int) : Int :=
  bif (decide (((x4.length : Int) : Int) = 0) || decide ((4 : Int) < (x4.length : Int))) then 2 else each (jl a) (iT Jo) x4 ()
def jm (s : Unit) : Int :=
  0
def fE (a : List (List Val)) : Int :=
  bif decide ((24 : Int) < (a.length : Int)) then 2 else each (j4 a) jm a ()
theorem Eh (w0 : World) (M : BS) (hM : ∀ b, M b → b < w0.heap.size) (va : Value) (a : List (List Val)) (ha : gy (rU bC) w0 BE M va a) (r : Int) (hs : fE a = r) :
    Calls Tryz.prog 80 #[va] w0 (fun e w' => Grow w0 w' ∧ e = .returned (.int .i64 r)) := by
 refine aQ (args := [va]) Tryz.func80 rfl Tryz.ntmps80 (bF rfl) ?_
 have h := SH.init hM
 replace h := h.gz 1 ha bH
 have vC := ha.bT
 refine nG (aa (ae (v := (I6 0)) rfl) (nK (aa (ah (v := va) rfl) (aa (bW eQ rfl (h.iV 1 rfl)) (aa (lT rfl rfl) (nN (aI hs rfl (fun c1 hs => ?_) (fun c1 hs => ?_))))))))
 refine nG (aa (ae (v := (I6 2)) rfl) (nR (ay (dD (v := (I6 2)) Tryz.results80 rfl ?_))))
 obtain rfl := hs
 exact ⟨h.grown, rfl⟩
 refine aH (ak (aM (nG (aa (ah (v := va) rfl) (aa (bW eQ rfl (h.iV 1 rfl)) (aa (ah (v := (I6 0)) rfl) (nN (aO (gu (σ := Nat × Int) (inl ([2, 4, 6, 7] ++ rg 13 27)) (fun ⟨k2, i3⟩ => [(13, (I6 i3))]) (fun ⟨k2, i3⟩ w => SH w0 M BE w (hset [(1, .sr (rU bC) va a)]) ∧ i3 = (k2 : Int) ∧ each (j4 a) jm (a.drop k2) () = r) (fun ⟨k2, i3⟩ => a.length - k2) ⟨0, 0⟩ ⟨rfl, trivial⟩ ?_ ?_)))))))))
 exact ⟨h.cn _, rfl, hs⟩
 rintro ⟨k2, i3⟩ w dO ⟨h, hik, hs⟩
 refine nG ?_
 refine aa (eB rfl rfl) (nN ?_)
 refine aM (gK rfl (fun e7 => ?_) (fun e7 => ?_))
 refine aH (ak ?_)
 obtain ⟨x4, e8a, e8b⟩ := fU (hik ▸ e7)
 rw [e8b, dV] at hs
 generalize Me : each (j4 a) jm (a.drop (k2 + 1)) = Jo at hs
 have Y6 := gm ((h.iV 1 rfl)).bT hik e7
 refine aM (aO (nG ?_))
 obtain ⟨b10, o11, cs12, h, r13, i9⟩ := h.zP 1 2 rfl eQ rfl (iI hik) (fZ hik e8a)
 obtain ⟨V4, rfl, g15⟩ := r13
 replace h := h.dA 3 g15.up
 refine aa (i9 _ _ _ _ _ _ _ _ _ rfl rfl) (aa (fq (k := 0) h 2 rfl j3 rfl rfl) (aa (ae (v := V4) rfl) (nK (aa (ah (v := V4) rfl) (aa (bW aZ rfl (h.ny 3 rfl)) (aa (bz rfl rfl) (aa (ah (v := (.bool (decide (((x4.length : Int) : Int) = 0)))) rfl) (aG rfl rfl (fun q => ah (v := V4) rfl) (aG rfl rfl (fun q => bW aZ (eD q) (h.ny 3 rfl)) (aG rfl rfl (fun q => lT (eD q) rfl) (aa (iJ rfl rfl nC) (nN (aI hs rfl (fun c16 hs => ?_) (fun c16 hs => ?_))))))))))))))
 refine nG (aa (ae (v := (I6 2)) rfl) (nR (ay (aF (ay (ay (aF (ay (dD (v := (I6 2)) Tryz.results80 rfl ?_)))))))))
 obtain rfl := hs
 exact ⟨h.grown, rfl⟩
 refine nS (aa (ah (v := V4) rfl) (aa (bW aZ rfl (h.ny 3 rfl)) (aa (ah (v := (I6 0)) rfl) (nN (aO (gu (σ := Nat × Int) (inl ([2, 6, 7] ++ rg 27 12)) (fun ⟨k17, i18⟩ => [(27, (I6 i18))]) (fun ⟨k17, i18⟩ w => SH w0 M BE w (hset [(1, .sr (rU bC) va a), (3, .rd bC V4 x4)]) ∧ i18 = (k17 : Int) ∧ each (jl a) (iT Jo) (x4.drop k17) () = r) (fun ⟨k17, i18⟩ => x4.length - k17) ⟨0, 0⟩ ⟨rfl, trivial⟩ ?_ ?_))))))
 exact ⟨h.cn _, rfl, hs⟩
 rintro ⟨k17, i18⟩ w dO ⟨h, hik, hs⟩
 refine nG ?_
 refine aa (eB rfl rfl) (nN ?_)
 refine aM (gK rfl (fun e22 => ?_) (fun e22 => ?_))
 refine aH (ak ?_)
 obtain ⟨DY, e23a, e23b⟩ := fU (hik ▸ e22)
 rw [e23b, dV] at hs
 generalize Y5 : each (jl a) (iT Jo) (x4.drop (k17 + 1)) = Y4 at hs
 have e23r := gm ((h.ny 3 rfl)).bT hik e22
 refine aM (aO (nG ?_))
 obtain ⟨b25, o26, cs27, h, r28, i24⟩ := h.Cm 3 4 rfl aZ rfl (iI hik) (fZ hik e23a)
 obtain rfl := r28
 refine aa (i24 _ _ _ _ _ _ _ _ _ rfl rfl) (aa (jo (k := 0) (vs := [(I6 DY.kind), (I6 DY.n)]) h 4 rfl aY rfl rfl rfl (bF rfl)) (bP h 5 aY fun w b29 h => dH (vs := [(I6 DY.kind), (I6 DY.n)]) h 5 [(I6 DY.kind), (I6 DY.n)] rfl aY rfl rfl rfl rfl rfl (ai rfl (ai rfl aS)) fun w h => nJ (aa (dK (vs := [(I6 DY.kind), (I6 DY.n)]) h 5 rfl aY rfl rfl rfl) (aa (ah (v := va) rfl) (aa (bW eQ rfl (h.iV 1 rfl)) (aX Tm rfl rfl (DX _ _ h.lt DY (a.length : Int) _ rfl) ?_))))))
 rintro _ w ⟨k30, rfl⟩
 refine ⟨_, rfl, ?_⟩
 replace h := h.grow k30
 refine aa (ae (v := (I6 ((dY DY (a.length : Int))))) rfl) (nJ (aa (ah (v := (I6 ((dY DY (a.length : Int))))) rfl) (aa (iA rfl rfl) (nN (aI hs rfl (fun c31 hs => ?_) (fun c31 hs => ?_))))))
 refine nG (aa (ah (v := (I6 ((dY DY (a.length : Int))))) rfl) (aa (ae (v := (I6 ((dY DY (a.length : Int))))) rfl) (nR (aF (ay (ay (aF (aF (ay (ay (aF (ay (dD (v := (I6 ((dY DY (a.length : Int))))) Tryz.results80 rfl ?_)))))))))))))
 obtain rfl := hs
 exact ⟨h.grown, rfl⟩
 refine aH (ax (ak (aC (aa (dP rfl rfl e23r) (aa (ah (v := (I6 ((i18 + 1)))) rfl) (az (au ?_)))))))
 subst Y5
 exact jB ⟨k17 + 1, i18 + 1⟩ ⟨h.cn _, by omega, hs⟩ (by have := p8 e22; dsimp only; omega)
 rw [fV (hik ▸ e22), fQ] at hs
 refine iL (bI (bI (eH (ax (ak (aC (aa (dP rfl rfl Y6) (aa (ah (v := (I6 ((i3 + 1)))) rfl) (az (au ?_))))))))))
 subst Me
 exact jB ⟨k2 + 1, i3 + 1⟩ ⟨h.cn _, by omega, hs⟩ (by have := p8 e7; dsimp only; omega)
 rw [fV (hik ▸ e7), fQ] at hs
 refine nE (aa (ae (v := (I6 0)) rfl) (nR (dD (v := (I6 0)) Tryz.results80 rfl ?_)))
 obtain rfl := hs
 exact ⟨h.grown, rfl⟩
def qH (b : LX.State) (x38 : Val) (s : Unit) (ZI : Unit → Option Int) : Option Int :=
  bif decide (((dY x38 (b.cells.length : Int)) : Int) ≠ 0) then some (dY x38 (b.cells.length : Int)) else ZI ()
def qI (Mv : Unit → Option Int) (s : Unit) : Option Int :=
  Mv ()
def vG (x9 : LX.Frame) (uB : bL) (b : LX.State) (Mv : Unit → Option Int) (CE : Bool) : Option Int :=
  bif CE then some 3 else bif decide (((x9.regs.length : Int) : Int) ≠ uB.regs) then some 4 else each (qH b) (qI Mv) x9.regs ()
def vH (a : List bL) (b : LX.State) (i8 : Int) (x9 : LX.Frame) (s : Unit) (Mv : Unit → Option Int) : Option Int :=
  bif (decide ((x9.proc : Int) < 0) || decide (((a.length : Int) : Int) ≤ x9.proc)) then some 5 else (idx a x9.proc).bind fun uB => bif (((decide ((x9.at_ : Int) < 0) || decide (((uB.code.length : Int) : Int) ≤ x9.at_)) || decide ((x9.lW : Int) < 0)) || (decide ((i8 : Int) = 0) && decide ((x9.lW : Int) ≠ 0))) then vG x9 uB b Mv true else bif decide ((0 : Int) < i8) then ib (jV (i8 - 1)) ((idx b.frames (i8 - 1)).bind fun x54 => vG x9 uB b Mv (decide (((x54.regs.length : Int) : Int) ≤ x9.lW))) else vG x9 uB b Mv false
def xN (s : Unit) : Option Int :=
  some 0
def AY (a : List bL) (b : LX.State) : Option Int :=
  bif (((decide ((b.status : Int) < 0) || decide ((3 : Int) < b.status)) || decide ((b.aL : Int) < -1000000000)) || decide ((1000000000 : Int) < b.aL)) then some 3 else bif ((decide ((b.status : Int) ≠ 3) && decide ((b.aL : Int) ≠ 0)) || (decide ((b.status : Int) = 1) != decide (((b.frames.length : Int) : Int) = 0))) then some 4 else bif decide ((10 : Int) < (b.frames.length : Int)) then some 2 else bif decide (((fE b.cells) : Int) ≠ 0) then some (fE b.cells) else dW (vH a b) xN 0 b.frames ()
theorem TV (w0 : World) (M : BS) (hM : ∀ b, M b → b < w0.heap.size) (va : Value) (a : List bL) (ha : gy jk w0 BE M va a) (b : LX.State) (vb0 vb1 : Value) (hb0 : gy fC w0 BE M vb0 b.frames) (hb1 : gy (rU bC) w0 BE M vb1 b.cells) (r : Int) (hs : AY a b = some r) :
    Calls Tryz.prog 64 #[va, (.agg #[vb0, vb1, (I6 b.status), (I6 b.aL)])] w0 (fun e w' => Grow w0 w' ∧ e = .returned (.int .i64 r)) := by
 refine aQ (args := [va, (.agg #[vb0, vb1, (I6 b.status), (I6 b.aL)])]) Tryz.func64 rfl Tryz.ntmps64 (bF rfl) ?_
 have h := SH.init hM
 replace h := h.gz 1 ha bH
 replace h := h.gz 2 hb0 (dL bH)
 replace h := h.gz 3 hb1 (dL (dL bH))
 have vC := ha.bT
 refine nG (mD (cs := [vb0, vb1, (I6 b.status), (I6 b.aL)]) h 4 rfl rfl fun w b1 h => aa (ae (v := (I6 0)) rfl) (nK (aa (ag lq rfl) (aa (aA h 4 rfl aU rfl rfl) (aa (eB rfl rfl) (aa (ah (v := (.bool (decide ((b.status : Int) < 0)))) rfl) (aG rfl rfl (fun q => ag lq rfl) (aG rfl rfl (fun q => aA h 4 rfl aU (eD q) rfl) (aG rfl rfl (fun q => lT (eD q) rfl) (aa (iJ rfl rfl nC) (aa (ah (v := (.bool ((decide ((b.status : Int) < 0) || decide ((3 : Int) < b.status))))) rfl) (aG rfl rfl (fun q => ag Aj rfl) (aG rfl rfl (fun q => aA h 4 rfl aU (eD q) rfl) (aG rfl rfl (fun q => eB (eD q) rfl) (aa (iJ rfl rfl nC) (aa (ah (v := (.bool (((decide ((b.status : Int) < 0) || decide ((3 : Int) < b.status)) || decide ((b.aL : Int) < -1000000000))))) rfl) (aG rfl rfl (fun q => ag Aj rfl) ?_)))))))))))))))))
 refine aG rfl rfl (fun q => aA h 4 rfl aU (eD q) rfl) (aG rfl rfl (fun q => lT (eD q) rfl) (aa (iJ rfl rfl nC) (nN (aI hs rfl (fun c2 hs => ?_) (fun c2 hs => ?_)))))
 refine nG (aa (ae (v := (I6 3)) rfl) (nR (ay (dD (v := (I6 3)) Tryz.results64 rfl ?_))))
 obtain rfl := fP hs
 exact ⟨h.grown, rfl⟩
 refine aH (ak (aM (nG (aa (ag lq rfl) (aa (aA h 4 rfl aU rfl rfl) (aa (iA rfl rfl) (aa (ah (v := (.bool (decide ((b.status : Int) ≠ 3)))) rfl) (aG rfl rfl (fun q => ag Aj rfl) (aG rfl rfl (fun q => aA h 4 rfl aU (eD q) rfl) (aG rfl rfl (fun q => iA (eD q) rfl) (aa (gZ rfl rfl nC) (aa (ah (v := (.bool ((decide ((b.status : Int) ≠ 3) && decide ((b.aL : Int) ≠ 0))))) rfl) (aG rfl rfl (fun q => ag lq rfl) (aG rfl rfl (fun q => aA h 4 rfl aU (eD q) rfl) (aG rfl rfl (fun q => bz (eD q) rfl) (aG rfl rfl (fun q => ag dQ rfl) (aG rfl rfl (fun q => aA h 4 rfl gD (eD q) rfl) (aG rfl rfl (fun q => bW dx (eD q) (h.iV 2 rfl)) (aG rfl rfl (fun q => bz (eD q) rfl) (aG rfl rfl (fun q => r_neqb Tryz.underlying4 (eD q) (eD q)) (aa (iJ rfl rfl nC) (az ?_))))))))))))))))))))))
 refine ak (aI hs rfl (fun c3 hs => ?_) (fun c3 hs => ?_))
 refine nG (aa (ae (v := (I6 4)) rfl) (nR (ay (dD (v := (I6 4)) Tryz.results64 rfl ?_))))
 obtain rfl := fP hs
 exact ⟨h.grown, rfl⟩
 refine aH (ak (aM (nG (aa (ag dQ rfl) (aa (aA h 4 rfl gD rfl rfl) (aa (bW dx rfl (h.iV 2 rfl)) (aa (lT rfl rfl) (nN (aI hs rfl (fun c4 hs => ?_) (fun c4 hs => ?_))))))))))
 refine nG (aa (ae (v := (I6 2)) rfl) (nR (ay (dD (v := (I6 2)) Tryz.results64 rfl ?_))))
 obtain rfl := fP hs
 exact ⟨h.grown, rfl⟩
 refine aH (ak (aM (nG (aa (ag gF rfl) (aa (aA h 4 rfl jU rfl rfl) (aX YT rfl rfl (Eh _ _ h.lt vb1 b.cells (h.iV 3 rfl) _ rfl) ?_))))))
 rintro _ w ⟨k5, rfl⟩
 refine ⟨_, rfl, ?_⟩
 replace h := h.grow k5
 refine aa (ae (v := (I6 ((fE b.cells)))) rfl) (nJ (aa (ah (v := (I6 ((fE b.cells)))) rfl) (aa (iA rfl rfl) (nN (aI hs rfl (fun c6 hs => ?_) (fun c6 hs => ?_))))))
 refine nG (aa (ah (v := (I6 ((fE b.cells)))) rfl) (aa (ae (v := (I6 ((fE b.cells)))) rfl) (nR (ay (dD (v := (I6 ((fE b.cells)))) Tryz.results64 rfl ?_)))))
 obtain rfl := fP hs
 exact ⟨h.grown, rfl⟩
 refine aH (ak (aM (nG (aa (ag dQ rfl) (aa (aA h 4 rfl gD rfl rfl) (aa (bW dx rfl (h.iV 2 rfl)) (aa (ah (v := (I6 0)) rfl) (nN (aO (gu (σ := Nat × Int) (inl ([4, 6, 7, 8, 10, 11] ++ rg 61 85)) (fun ⟨k7, i8⟩ => [(61, (I6 i8))]) (fun ⟨k7, i8⟩ w => SH w0 M BE w (hset [(1, .sr jk va a), (2, .sr fC vb0 b.frames), (3, .sr (rU bC) vb1 b.cells), (4, .blk b1 [vb0, vb1, (I6 b.status), (I6 b.aL)])]) ∧ i8 = (k7 : Int) ∧ dW (vH a b) xN i8 (b.frames.drop k7) () = some r) (fun ⟨k7, i8⟩ => b.frames.length - k7) ⟨0, 0⟩ ⟨rfl, trivial⟩ ?_ ?_))))))))))
 exact ⟨h.cn _, rfl, hs⟩
 rintro ⟨k7, i8⟩ w dO ⟨h, hik, hs⟩
 refine nG ?_
 refine aa (eB rfl rfl) (nN ?_)
 refine aM (gK rfl (fun e12 => ?_) (fun e12 => ?_))
 refine aH (ak ?_)
 obtain ⟨x9, e13a, e13b⟩ := fU (hik ▸ e12)
 rw [e13b, ja] at hs
 generalize hnx11 : dW (vH a b) xN (i8 + 1) (b.frames.drop (k7 + 1)) = Mv at hs
 have e13r := gm ((h.iV 2 rfl)).bT hik e12
 refine aM (aO (nG (aa (ah (v := (I6 i8)) rfl) ?_)))
 obtain ⟨b15, o16, cs17, h, r18, i14⟩ := h.zP 2 5 rfl dx rfl (iI hik) (fZ hik e13a)
 obtain ⟨Q5, rfl, g20⟩ := uJ r18
 replace h := h.dA 6 g20.up
 refine aa (i14 _ _ _ _ _ _ _ _ _ rfl rfl) (aa (jo (k := 0) (vs := [(I6 x9.proc), (I6 x9.at_), Q5, (I6 x9.lW)]) h 5 rfl il rfl rfl rfl (bF rfl)) (bP h 7 il fun w NA h => aa (ae (v := (I6 i8)) rfl) (dH (vs := [(I6 x9.proc), (I6 x9.at_), Q5, (I6 x9.lW)]) h 7 [(I6 x9.proc), (I6 x9.at_), Q5, (I6 x9.lW)] rfl il rfl rfl rfl rfl rfl (ai rfl (ai rfl (ai (h.iD 6 rfl).one (ai rfl aS)))) fun w h => nK (aa (ag yU rfl) (aa (aA h 7 rfl aU rfl rfl) (aa (eB rfl rfl) (aa (ah (v := (.bool (decide ((x9.proc : Int) < 0)))) rfl) (aG rfl rfl (fun q => ag yU rfl) (aG rfl rfl (fun q => aA h 7 rfl aU (eD q) rfl) (aG rfl rfl (fun q => ah (v := va) rfl) (aG rfl rfl (fun q => bW gU (eD q) (h.iV 1 rfl)) (aG rfl rfl (fun q => qV (eD q) (eD q)) (aa (iJ rfl rfl nC) (nN (aI hs rfl (fun c22 hs => ?_) (fun c22 hs => ?_))))))))))))))))
 refine nG (aa (ae (v := (I6 5)) rfl) (nR (ay (aF (ay (ay (aF (ay (dD (v := (I6 5)) Tryz.results64 rfl ?_)))))))))
 obtain rfl := fP hs
 exact ⟨h.grown, rfl⟩
 refine nS (aa (ah (v := va) rfl) (aa (ag yU rfl) (aa (aA h 7 rfl aU rfl rfl) ?_)))
 obtain ⟨uB, e24, hs⟩ := aK hs
 obtain ⟨b26, o27, cs28, h, r29, i25⟩ := h.zP 1 8 rfl gU rfl (aB e24).1 (aB e24).2
 obtain ⟨u30, rfl, g31⟩ := jW r29
 replace h := h.dA 9 g31.up
 refine aa (i25 _ _ _ _ _ _ _ _ _ rfl rfl) (aa (jo (k := 0) (vs := [(I6 uB.params), (I6 uB.regs), u30]) h 8 rfl sF rfl rfl rfl (bF rfl)) (bP h 10 sF fun w b32 h => dH (vs := [(I6 uB.params), (I6 uB.regs), u30]) h 10 [(I6 uB.params), (I6 uB.regs), u30] rfl sF rfl rfl rfl rfl rfl (ai rfl (ai rfl (ai (h.iD 9 rfl).one aS))) fun w h => nN (aM (bX (σ := Bool) (inl (rg 81 42)) (fun CE => [(98, (gv (((decide ((x9.at_ : Int) < 0) || decide (((uB.code.length : Int) : Int) ≤ x9.at_)) || decide ((x9.lW : Int) < 0)) == false) (I6 i8))), (100, (gv (((decide ((x9.at_ : Int) < 0) || decide (((uB.code.length : Int) : Int) ≤ x9.at_)) || decide ((x9.lW : Int) < 0)) == false) (.bool (decide ((i8 : Int) = 0))))), (122, (.bool (CE)))]) (fun CE w => SH w0 M BE w (hset [(1, .sr jk va a), (2, .sr fC vb0 b.frames), (3, .sr (rU bC) vb1 b.cells), (4, .blk b1 [vb0, vb1, (I6 b.status), (I6 b.aL)]), (6, .rd bC Q5 x9.regs), (7, .blk NA [(I6 x9.proc), (I6 x9.at_), Q5, (I6 x9.lW)]), (9, .rd kr u30 uB.code), (10, .blk b32 [(I6 uB.params), (I6 uB.regs), u30])]) ∧ vG x9 uB b Mv CE = some r) ?_ ?_))))
 rintro CE w dO ⟨h, hs⟩
 refine aI hs rfl (fun c34 hs => ?_) (fun c34 hs => ?_)
 refine nG (aa (ae (v := (I6 3)) rfl) (nR (ay (aF (ay (ay (aF (ay (dD (v := (I6 3)) Tryz.results64 rfl ?_)))))))))
 obtain rfl := fP hs
 exact ⟨h.grown, rfl⟩
 refine aH (ak (aM (nG (aa (ag jZ rfl) (aa (aA h 7 rfl j3 rfl rfl) (aa (bW aZ rfl (h.ny 6 rfl)) (aa (ag wy rfl) (aa (aA h 10 rfl aU rfl rfl) (aa (iA rfl rfl) (nN (aI hs rfl (fun c35 hs => ?_) (fun c35 hs => ?_))))))))))))
 refine nG (aa (ae (v := (I6 4)) rfl) (nR (ay (aF (ay (ay (aF (ay (dD (v := (I6 4)) Tryz.results64 rfl ?_)))))))))
 obtain rfl := fP hs
 exact ⟨h.grown, rfl⟩
 refine nS (aa (ag jZ rfl) (aa (aA h 7 rfl j3 rfl rfl) (aa (bW aZ rfl (h.ny 6 rfl)) (aa (ah (v := (I6 0)) rfl) (nN (aO (gu (σ := Nat × Int) (inl ([4, 10, 11] ++ rg 132 13)) (fun ⟨k36, i37⟩ => [(132, (I6 i37))]) (fun ⟨k36, i37⟩ w => SH w0 M BE w (hset [(1, .sr jk va a), (2, .sr fC vb0 b.frames), (3, .sr (rU bC) vb1 b.cells), (4, .blk b1 [vb0, vb1, (I6 b.status), (I6 b.aL)]), (6, .rd bC Q5 x9.regs)]) ∧ i37 = (k36 : Int) ∧ each (qH b) (qI Mv) (x9.regs.drop k36) () = some r) (fun ⟨k36, i37⟩ => x9.regs.length - k36) ⟨0, 0⟩ ⟨rfl, trivial⟩ ?_ ?_)))))))
 exact ⟨h.cn _, rfl, hs⟩
 rintro ⟨k36, i37⟩ w dO ⟨h, hik, hs⟩
 refine nG ?_
 refine aa (eB rfl rfl) (nN ?_)
 refine aM (gK rfl (fun e41 => ?_) (fun e41 => ?_))
 refine aH (ak ?_)
 obtain ⟨x38, e42a, e42b⟩ := fU (hik ▸ e41)
 rw [e42b, dV] at hs
 generalize ZJ : each (qH b) (qI Mv) (x9.regs.drop (k36 + 1)) = ZI at hs
 have e42r := gm ((h.ny 6 rfl)).bT hik e41
 refine aM (aO (nG ?_))
 obtain ⟨Qf, o45, cs46, h, r47, i43⟩ := h.Cm 6 11 rfl aZ rfl (iI hik) (fZ hik e42a)
 obtain rfl := r47
 refine aa (i43 _ _ _ _ _ _ _ _ _ rfl rfl) (aa (jo (k := 0) (vs := [(I6 x38.kind), (I6 x38.n)]) h 11 rfl aY rfl rfl rfl (bF rfl)) (bP h 12 aY fun w b48 h => dH (vs := [(I6 x38.kind), (I6 x38.n)]) h 12 [(I6 x38.kind), (I6 x38.n)] rfl aY rfl rfl rfl rfl rfl (ai rfl (ai rfl aS)) fun w h => nJ (aa (dK (vs := [(I6 x38.kind), (I6 x38.n)]) h 12 rfl aY rfl rfl rfl) (aa (ag gF rfl) (aa (aA h 4 rfl jU rfl rfl) (aa (bW eQ rfl (h.iV 3 rfl)) (aX Tm rfl rfl (DX _ _ h.lt x38 (b.cells.length : Int) _ rfl) ?_)))))))
 rintro _ w ⟨ZN, rfl⟩
 refine ⟨_, rfl, ?_⟩
 replace h := h.grow ZN
 refine aa (ae (v := (I6 ((dY x38 (b.cells.length : Int))))) rfl) (nJ (aa (ah (v := (I6 ((dY x38 (b.cells.length : Int))))) rfl) (aa (iA rfl rfl) (nN (aI hs rfl (fun c50 hs => ?_) (fun c50 hs => ?_))))))
 refine nG (aa (ah (v := (I6 ((dY x38 (b.cells.length : Int))))) rfl) (aa (ae (v := (I6 ((dY x38 (b.cells.length : Int))))) rfl) (nR (aF (ay (ay (aF (aF (ay (ay (aF (ay (dD (v := (I6 ((dY x38 (b.cells.length : Int))))) Tryz.results64 rfl ?_)))))))))))))
 obtain rfl := fP hs
 exact ⟨h.grown, rfl⟩
 refine aH (ax (ak (aC (aa (dP rfl rfl e42r) (aa (ah (v := (I6 ((i37 + 1)))) rfl) (az (au ?_)))))))
 subst ZJ
 exact jB ⟨k36 + 1, i37 + 1⟩ ⟨h.cn _, by omega, hs⟩ (by have := p8 e41; dsimp only; omega)
 rw [fV (hik ▸ e41), fQ] at hs
 refine iL (bI (bI (eH (ax (ak (aC (aa (dP rfl rfl e13r) (aa (ah (v := (I6 ((i8 + 1)))) rfl) (az (au ?_))))))))))
 subst hnx11
 exact jB ⟨k7 + 1, i8 + 1⟩ ⟨h.cn _, by omega, hs⟩ (by have := p8 e12; dsimp only; omega)
 refine uI mixed (by kernel_rfl) h fun w h => aD (ag qC rfl) (aD (aA h 7 rfl aU rfl rfl) (aD (eB rfl rfl) (aD (ah (v := (.bool (decide ((x9.at_ : Int) < 0)))) rfl) (yA rfl rfl (fun q => ag qC rfl) (yA rfl rfl (fun q => aA h 7 rfl aU (eD q) rfl) (yA rfl rfl (fun q => ag nQ rfl) (yA rfl rfl (fun q => aA h 10 rfl xy (eD q) rfl) (yA rfl rfl (fun q => bW iy (eD q) (h.ny 9 rfl)) (yA rfl rfl (fun q => qV (eD q) (eD q)) (aD (iJ rfl rfl nC) (aD (ah (v := (.bool ((decide ((x9.at_ : Int) < 0) || decide (((uB.code.length : Int) : Int) ≤ x9.at_))))) rfl) (yA rfl rfl (fun q => ag DF rfl) (yA rfl rfl (fun q => aA h 7 rfl aU (eD q) rfl) (yA rfl rfl (fun q => eB (eD q) rfl) (aD (iJ rfl rfl nC) (aD (ah (v := (.bool (((decide ((x9.at_ : Int) < 0) || decide (((uB.code.length : Int) : Int) ≤ x9.at_)) || decide ((x9.lW : Int) < 0))))) rfl) (yA rfl rfl (fun q => ah (v := (I6 i8)) rfl) (yA rfl rfl (fun q => bz (eD q) rfl) (yA rfl rfl (fun q => ah (v := (.bool (decide ((i8 : Int) = 0)))) (eD q)) (UY (((decide ((x9.at_ : Int) < 0) || decide (((uB.code.length : Int) : Int) ≤ x9.at_)) || decide ((x9.lW : Int) < 0)) == false) rfl rfl (fun q => ag DF rfl) (UY (((decide ((x9.at_ : Int) < 0) || decide (((uB.code.length : Int) : Int) ≤ x9.at_)) || decide ((x9.lW : Int) < 0)) == false) rfl rfl (fun q => aA h 7 rfl aU (eD q) rfl) (UY (((decide ((x9.at_ : Int) < 0) || decide (((uB.code.length : Int) : Int) ≤ x9.at_)) || decide ((x9.lW : Int) < 0)) == false) rfl rfl (fun q => iA (eD q) rfl) ?_))))))))))))))))))))))
 refine yA rfl rfl (fun q => gZ (eD q) (QN q) nC) (aD (iJ rfl rfl nC) (aD (ah (v := (.bool ((((decide ((x9.at_ : Int) < 0) || decide (((uB.code.length : Int) : Int) ≤ x9.at_)) || decide ((x9.lW : Int) < 0)) || (decide ((i8 : Int) = 0) && decide ((x9.lW : Int) ≠ 0)))))) rfl) (kT (b := (((decide ((x9.at_ : Int) < 0) || decide (((uB.code.length : Int) : Int) ≤ x9.at_)) || decide ((x9.lW : Int) < 0)) || (decide ((i8 : Int) = 0) && decide ((x9.lW : Int) ≠ 0)))) hs (fun c51 hs => ?_) (fun c51 hs => ?_))))
 refine dR (b' := true) rfl (cB c51) rfl (dR (b' := true) rfl (cB c51) rfl (dR (b' := true) rfl (cB c51) rfl (wo rfl rfl (wo rfl rfl (wo rfl rfl (wo rfl rfl (wo rfl rfl (wo rfl rfl (wo rfl rfl (wo rfl rfl (wo rfl rfl (wo rfl rfl (wo rfl rfl (dR (b' := true) rfl (cB c51) rfl (aD (fB (b := true) (v := (.bool (true))) (cB c51) rfl) (uf (au ?_)))))))))))))))))
 exact bQ true ⟨h.cn _, hs⟩
 refine fw rfl (cB c51) (aD (ah (v := (I6 i8)) rfl) (fw rfl (cB c51) (aD (lT rfl rfl) (fw rfl (cB c51) (aD (ah (v := (.bool (decide ((0 : Int) < i8)))) rfl) (kT (b := decide ((0 : Int) < i8)) hs (fun Gw hs => ?_) (fun Gw hs => ?_)))))))
 refine fw rfl (cB Gw) (aD (ag DF rfl) (fw rfl (cB Gw) (aD (aA h 7 rfl aU rfl rfl) (fw rfl (cB Gw) (aD (ag dQ rfl) (fw rfl (cB Gw) (aD (aA h 4 rfl gD rfl rfl) (fw rfl (cB Gw) (aD (ah (v := (I6 i8)) rfl) (fw rfl (cB Gw) ?_))))))))))
 obtain ⟨a53, hs⟩ := bB hs
 refine aD (mV rfl rfl a53) (fw rfl (cB Gw) ?_)
 obtain ⟨x54, e55, hs⟩ := aK hs
 obtain ⟨b57, o58, cs59, h, r60, i56⟩ := h.zP 2 13 rfl dx rfl (aB e55).1 (aB e55).2
 obtain ⟨Vm, rfl, g62⟩ := uJ r60
 replace h := h.dA 14 g62.up
 refine aD (i56 _ _ _ _ _ _ _ _ _ rfl rfl) (fw rfl (cB Gw) (aD (ag jZ rfl) (fw rfl (cB Gw) (aD (fq (k := 2) h 13 rfl j3 rfl rfl) (fw rfl (cB Gw) (aD (bW aZ rfl (h.ny 14 rfl)) (fw rfl (cB Gw) (aD (qV rfl rfl) (fw rfl (cB c51) (aD (fB (b := true) (v := (.bool (decide (((x54.regs.length : Int) : Int) ≤ x9.lW)))) (cB Gw) rfl) (aD (fB (b := false) (v := (.bool (decide (((x54.regs.length : Int) : Int) ≤ x9.lW)))) (cB c51) rfl) (uf (au ?_)))))))))))))
 exact bQ (decide (((x54.regs.length : Int) : Int) ≤ x9.lW)) ⟨h.cn _, hs⟩
 refine dR (b' := false) rfl (cB Gw) rfl (dR (b' := false) rfl (cB Gw) rfl (dR (b' := false) rfl (cB Gw) rfl (dR (b' := false) rfl (cB Gw) rfl (dR (b' := false) rfl (cB Gw) rfl (dR (b' := false) rfl (cB Gw) rfl (dR (b' := false) rfl (cB Gw) rfl (dR (b' := false) rfl (cB Gw) rfl (dR (b' := false) rfl (cB Gw) rfl (dR (b' := false) rfl (cB Gw) rfl (dR (b' := false) rfl (cB Gw) rfl (fw rfl (cB c51) (aD (fB (b := false) (v := (.bool (false))) (cB Gw) rfl) (aD (fB (b := false) (v := (.bool (false))) (cB c51) rfl) (uf (au ?_)))))))))))))))
 exact bQ false ⟨h.cn _, hs⟩
 rw [fV (hik ▸ e12), mh] at hs
 refine nE (aa (ae (v := (I6 0)) rfl) (nR (dD (v := (I6 0)) Tryz.results64 rfl ?_)))
 obtain rfl := fP hs
 exact ⟨h.grown, rfl⟩
def ER (a : List bL) (b : LX.State) : Option Int :=
  (qR a).bind fun y2 => bif decide ((y2 : Int) ≠ 0) then some y2 else (AY a b).bind fun y6 => some y6
theorem Mw (w0 : World) (M : BS) (hM : ∀ b, M b → b < w0.heap.size) (va : Value) (a : List bL) (ha : gy jk w0 BE M va a) (b : LX.State) (vb0 vb1 : Value) (hb0 : gy fC w0 BE M vb0 b.frames) (hb1 : gy (rU bC) w0 BE M vb1 b.cells) (r : Int) (hs : ER a b = some r) :
    Calls Tryz.prog 27 #[va, (.agg #[vb0, vb1, (I6 b.status), (I6 b.aL)])] w0 (fun e w' => Grow w0 w' ∧ e = .returned (.int .i64 r)) := by
 refine aQ (args := [va, (.agg #[vb0, vb1, (I6 b.status), (I6 b.aL)])]) Tryz.func27 rfl Tryz.ntmps27 (bF rfl) ?_
 have h := SH.init hM
 replace h := h.gz 1 ha bH
 replace h := h.gz 2 hb0 (dL bH)
 replace h := h.gz 3 hb1 (dL (dL bH))
 have vC := ha.bT
 refine nG (mD (cs := [vb0, vb1, (I6 b.status), (I6 b.aL)]) h 4 rfl rfl fun w b1 h => aa (ae (v := (I6 0)) rfl) (nK (aa (ah (v := va) rfl) ?_)))
 obtain ⟨y2, e3, hs⟩ := aK hs
 refine aX YR rfl rfl (IC _ _ h.lt va a (h.iV 1 rfl) _ e3) ?_
 rintro _ w ⟨k4, rfl⟩
 refine ⟨_, rfl, ?_⟩
 replace h := h.grow k4
 refine aa (ae (v := (I6 y2)) rfl) (nJ (aa (ah (v := (I6 y2)) rfl) (aa (iA rfl rfl) (nN (aI hs rfl (fun c5 hs => ?_) (fun c5 hs => ?_))))))
 refine nG (aa (ah (v := (I6 y2)) rfl) (aa (ae (v := (I6 y2)) rfl) (nR (ay (dD (v := (I6 y2)) Tryz.results27 rfl ?_)))))
 obtain rfl := fP hs
 exact ⟨h.grown, rfl⟩
 refine nS (aa (ah (v := va) rfl) (aa (dK (vs := [vb0, vb1, (I6 b.status), (I6 b.aL)]) h 4 rfl bM rfl rfl rfl) ?_))
 obtain ⟨y6, e7, hs⟩ := aK hs
 refine aX fnOk64 rfl rfl (TV _ _ h.lt va a (h.iV 1 rfl) b vb0 vb1 (h.iV 2 rfl) (h.iV 3 rfl) _ e7) ?_
 rintro _ w ⟨k8, rfl⟩
 refine ⟨_, rfl, ?_⟩
 replace h := h.grow k8
 refine aa (ae (v := (I6 y6)) rfl) (nR (dD (v := (I6 y6)) Tryz.results27 rfl ?_))
 obtain rfl := fP hs
 exact ⟨h.grown, rfl⟩
theorem uS (w0 : World) (M : BS) (hM : ∀ b, M b → b < w0.heap.size) (va : Value) (a : List LX.Frame) (ha : gy fC w0 BE M va a) (r : List LX.Frame) (hs : clone 48 a = some r) :
    Calls Tryz.prog 83 #[va] w0 (fun e w' => Grow w0 w' ∧ ∃ u0, e = .returned u0 ∧ fI fC 49 w' M u0 r ∧ (∀ b, ob u0 b → w0.heap.size ≤ b)) := by
  obtain ⟨hr, hs⟩ := bB hs
  cases hs
  refine aQ (args := [va]) Tryz.func83 rfl Tryz.ntmps83 (bF rfl) ?_
  have h := (SH.init hM).gz 1 ha bH
  refine nG (aa (ae rfl) (nN ?_))
  refine aM (nG (aa (ah rfl) (aa (FC dx rfl (h.iV 1 rfl) rfl) (nN ?_))))
  refine gK rfl (fun c => ?_) (fun c => ?_)
  · obtain ⟨c1, c2⟩ := xk (h.iV 1 rfl) c
    refine nG (aa (ae rfl) (nR (ay ?_)))
    refine dD (v := .slice none 0 0) Tryz.results83 rfl ?_
    rw [c2]
    exact ⟨h.grown, _, rfl, fI.nil, lN⟩
  · refine aH (ak ?_)
    refine nG ?_
    refine tL (R := fC) (vs := []) (xs := []) h 2 jT rfl rfl rfl trivial rfl fun w u h => ?_
    refine aa (ah rfl) ?_
    refine lV (R := fC) (m := a) h 2 rfl (h.iV 1 rfl) jT rfl rfl rfl hr.1 hr.2 fun w u h => ?_
    refine aa (ae rfl) (nR ?_)
    refine dD (v := u) Tryz.results83 rfl ?_
    exact ⟨h.grown, _, rfl, (h.jQ 2 rfl).1, (h.jQ 2 rfl).2⟩
theorem Eo (w0 : World) (M : BS) (hM : ∀ b, M b → b < w0.heap.size) (va : Value) (a : List (List Val)) (ha : gy (rU bC) w0 BE M va a) (r : List (List Val)) (hs : clone 24 a = some r) :
    Calls Tryz.prog 114 #[va] w0 (fun e w' => Grow w0 w' ∧ ∃ u0, e = .returned u0 ∧ fI (rU bC) 47 w' M u0 r ∧ (∀ b, ob u0 b → w0.heap.size ≤ b)) := by
  obtain ⟨hr, hs⟩ := bB hs
  cases hs
  refine aQ (args := [va]) Tryz.func114 rfl Tryz.ntmps114 (bF rfl) ?_
  have h := (SH.init hM).gz 1 ha bH
  refine nG (aa (ae rfl) (nN ?_))
  refine aM (nG (aa (ah rfl) (aa (FC eQ rfl (h.iV 1 rfl) rfl) (nN ?_))))
  refine gK rfl (fun c => ?_) (fun c => ?_)
  · obtain ⟨c1, c2⟩ := xk (h.iV 1 rfl) c
    refine nG (aa (ae rfl) (nR (ay ?_)))
    refine dD (v := .slice none 0 0) Tryz.results114 rfl ?_
    rw [c2]
    exact ⟨h.grown, _, rfl, fI.nil, lN⟩
  · refine aH (ak ?_)
    refine nG ?_
    refine tL (R := (rU bC)) (vs := []) (xs := []) h 2 kK rfl rfl rfl trivial rfl fun w u h => ?_
    refine aa (ah rfl) ?_
    refine lV (R := (rU bC)) (m := a) h 2 rfl (h.iV 1 rfl) kK rfl rfl rfl hr.1 hr.2 fun w u h => ?_
    refine aa (ae rfl) (nR ?_)
    refine dD (v := u) Tryz.results114 rfl ?_
    exact ⟨h.grown, _, rfl, (h.jQ 2 rfl).1, (h.jQ 2 rfl).2⟩
theorem zx (w0 : World) (M : BS) (hM : ∀ b, M b → b < w0.heap.size) (va : Value) (a : List Val) (ha : gy bC w0 BE M va a) (r : List Val) (hs : clone 16 a = some r) :
    Calls Tryz.prog 85 #[va] w0 (fun e w' => Grow w0 w' ∧ ∃ u0, e = .returned u0 ∧ fI bC 51 w' M u0 r ∧ (∀ b, ob u0 b → w0.heap.size ≤ b)) := by
  obtain ⟨hr, hs⟩ := bB hs
  cases hs
  refine aQ (args := [va]) Tryz.func85 rfl Tryz.ntmps85 (bF rfl) ?_
  have h := (SH.init hM).gz 1 ha bH
  refine nG (aa (ae rfl) (nN ?_))
  refine aM (nG (aa (ah rfl) (aa (FC aZ rfl (h.iV 1 rfl) rfl) (nN ?_))))
  refine gK rfl (fun c => ?_) (fun c => ?_)
  · obtain ⟨c1, c2⟩ := xk (h.iV 1 rfl) c
    refine nG (aa (ae rfl) (nR (ay ?_)))
    refine dD (v := .slice none 0 0) Tryz.results85 rfl ?_
    rw [c2]
    exact ⟨h.grown, _, rfl, fI.nil, lN⟩
  · refine aH (ak ?_)
    refine nG ?_
    refine tL (R := bC) (vs := []) (xs := []) h 2 kL rfl rfl rfl trivial rfl fun w u h => ?_
    refine aa (ah rfl) ?_
    refine lV (R := bC) (m := a) h 2 rfl (h.iV 1 rfl) kL rfl rfl rfl hr.1 hr.2 fun w u h => ?_
    refine aa (ae rfl) (nR ?_)
    refine dD (v := u) Tryz.results85 rfl ?_
    exact ⟨h.grown, _, rfl, (h.jQ 2 rfl).1, (h.jQ 2 rfl).2⟩
def Am (a : List (List Val)) (i14 : Int) (s : Unit) (Qg : Unit → Option (List (List Val))) : Option (List (List Val)) :=
  (idx a i14).bind fun x20 => (clone 16 x20).bind fun y31 => Qg ()
def Ao (a : List (List Val)) (s : Unit) : Option (List (List Val)) :=
  some a
def FP (a : List (List Val)) : Option (List (List Val)) :=
  (clone 24 a).bind fun y1 => upto (Am a) (Ao a) 0 ((a.length : Int)).toNat ()
theorem ES (w0 : World) (M : BS) (hM : ∀ b, M b → b < w0.heap.size) (va : Value) (a : List (List Val)) (ha : gy (rU bC) w0 BE M va a) (r : List (List Val)) (hs : FP a = some r) :
    Calls Tryz.prog 84 #[va] w0 (fun e w' => Grow w0 w' ∧ ∃ uC, ∃ BG, e = .returned (uC) ∧ Chunk.holds w' M (Chunk.own' ((.two (.own (dZ Val).raw 47 uC (List.zip r BG)) (.ik (dS bC 51 hn BG (List.map (dZ Val).sub r)))) : Chunk)) ((.two (.own (dZ Val).raw 47 uC (List.zip r BG)) (.ik (dS bC 51 hn BG (List.map (dZ Val).sub r)))) : Chunk) ∧ (∀ b, Chunk.own' ((.two (.own (dZ Val).raw 47 uC (List.zip r BG)) (.ik (dS bC 51 hn BG (List.map (dZ Val).sub r)))) : Chunk) b → w0.heap.size ≤ b)) := by
 refine aQ (args := [va]) Tryz.func84 rfl Tryz.ntmps84 (bF rfl) ?_
 have h := SH.init hM
 replace h := h.gz 1 ha bH
 have vC := ha.bT
 refine nG (aa (ae (v := (.slice none 0 0)) rfl) (nJ (aa (ah (v := va) rfl) ?_)))
 obtain ⟨y1, e2, hs⟩ := aK hs
 have z3 := Cs e2
 subst z3
 refine aX fnOk114 rfl rfl (Eo _ _ h.lt va a (h.iV 1 rfl) _ e2) ?_
 rintro _ w ⟨k7, u4, rfl, g5, g6⟩
 refine ⟨_, rfl, ?_⟩
 replace h := h.mK 2 k7 g5 g6
 obtain ⟨us8, -, h⟩ := h.thaw (N := (dZ Val)) (R := bC) (Es := 51) 2 3 4 rfl (by decide) (by decide) (by decide) rfl nLst_op
 refine aa (ae (v := u4) rfl) (nK (aa (ah (v := u4) rfl) (aa (mM (N := (dZ Val)) eQ rfl (h.eG 2 rfl) (h.fD 3 rfl)) (aa (ah (v := (I6 0)) rfl) (nN (aO ?_))))))
 have hli14 := (h.iV 1 rfl).bT
 refine gu (σ := Nat × Int × List Value) (inl ([3, 4] ++ rg 9 11)) (fun ⟨k13, i14, Jz⟩ => [(9, (I6 i14))]) (fun ⟨k13, i14, Jz⟩ w => SH w0 M BE w (hset [(2, .own (dZ Val).raw 47 u4 (List.zip a Jz)), (3, .ik (dS bC 51 (hge (k13)) Jz (List.map (dZ Val).sub a))), (4, .ik (Ip bC (k13) Jz (List.map (dZ Val).sub a)))]) ∧ i14 = (k13 : Int) ∧ upto (Am a) (Ao a) i14 (((a.length : Int)).toNat - k13) () = some r) (fun ⟨k13, i14, Jz⟩ => ((a.length : Int)).toNat - k13) ⟨0, 0, us8⟩ ⟨rfl, trivial⟩ ?_ ?_
 exact ⟨h.cn _, rfl, hs⟩
 rintro ⟨k13, i14, Jz⟩ w dO ⟨h, hik, hs⟩
 refine nG ?_
 refine aa (eB rfl rfl) (nN ?_)
 refine aM (gK rfl (fun e18 => ?_) (fun e18 => ?_))
 refine aH (ak ?_)
 rw [si (by have := p8 e18; omega)] at hs
 generalize hnx17 : upto (Am a) (Ao a) (i14 + 1) (((a.length : Int)).toNat - (k13 + 1)) = Qg at hs
 have e19r : jV (i14 + 1) := (by have := p8 e18; have := hli14; exact jV.mk (by omega) (by omega))
 refine aM (aO (nG (aa (ah (v := (I6 i14)) rfl) ?_)))
 obtain ⟨x20, e21, hs⟩ := aK hs
 obtain ⟨u25, e260, r27⟩ := h.YI 4 x20 rfl (h.fD 3 rfl) (Oo hik (aB e21).2) rfl
 have e26 := at_pd hik e260
 replace h := h.dA 5 r27
 obtain ⟨FL, q24, i22⟩ := h.qY 2 rfl eQ rfl (aB e21).1 (eu (aB e21).2 e26)
 refine aa (i22 _ _ _ _ _ _ _ _ _ rfl rfl) ?_
 obtain ⟨cs28, m29, r30⟩ := h.uF 2 rfl q24 (eu (aB e21).2 e26)
 obtain ⟨rfl, -⟩ := r30
 refine aa (kH (k := 0) m29 j3 rfl rfl) (aa (ae (v := (I6 i14)) rfl) (aa (ae (v := u25) rfl) (nN (aC (aa (ah (v := u4) rfl) (aa (ah (v := (I6 i14)) rfl) (aa (ah (v := u25) rfl) ?_)))))))
 obtain ⟨y31, e32, hs⟩ := aK hs
 have z33 := Cs e32
 subst z33
 refine aX YV rfl rfl (zx _ _ h.lt u25 x20 (h.ny 5 rfl) _ e32) ?_
 rintro _ w ⟨k37, u34, rfl, g35, g36⟩
 refine ⟨_, rfl, ?_⟩
 replace h := h.mK 6 k37 g35 g36
 obtain ⟨b39, q40, i38⟩ := h.qY 2 rfl eQ rfl (aB e21).1 (eu (aB e21).2 e26)
 refine aa (i38 _ _ _ _ _ _ _ _ _ rfl rfl) ?_
 have o41 : (Value.oneCell' u34) = true := (h.dm 6 rfl).one
 refine Ii (off := 0) (a' := (x20, u34)) h 2 rfl q40 rfl (eu (aB e21).2 e26) j3 rfl rfl o41 rfl (by rintro _ ⟨rfl, _⟩; exact ⟨rfl, o41⟩) fun w h => ?_
 rw [QU (aB e21).2, YF hik] at h
 replace h := h.QX 3 4 6 rfl rfl rfl (by decide) (by decide) (by decide) (Oo hik (aB e21).2) (Oo hik e26) rfl
 generalize List.set Jz k13 u34 = us42 at h
 refine az (ax (ak (aC (aa (dP rfl rfl e19r) (aa (ah (v := (I6 ((i14 + 1)))) rfl) (az (au ?_)))))))
 subst hnx17
 exact jB ⟨k13 + 1, i14 + 1, us42⟩ ⟨h.cn _, by omega, hs⟩ (by have := p8 e18; dsimp only; omega)
 rw [sj (by have := of_decide_eq_false e18; omega)] at hs
 replace h := h.YD 3 rfl (by have := of_decide_eq_false e18; omega)
 replace h := h.fA 4
 refine nE (aa (ah (v := u4) rfl) (aa (ae (v := u4) rfl) (nR (dD (v := u4) Tryz.results84 rfl ?_))))
 replace h := h.pair 2 3 (by decide)
 obtain rfl := fP hs
 obtain ⟨o1, o2, o3⟩ := h.kJ 2 (C := (.two (.own (dZ Val).raw 47 u4 (List.zip a Jz)) (.ik (dS bC 51 hn Jz (List.map (dZ Val).sub a))) : Chunk)) rfl ⟨trivial, trivial⟩
 exact ⟨o2, u4, Jz, rfl, o1, Iq o3⟩
def DZ (a : LX.State) (i13 : Int) (s : Unit) (nx16 : Unit → Option LX.State) : Option LX.State :=
  (idx a.frames i13).bind fun DY => (clone 16 DY.regs).bind fun ZO => nx16 ()
def D5 (a : LX.State) (y7 : List (List Val)) (s : Unit) : Option LX.State :=
  some (⟨a.frames, y7, a.status, a.aL⟩ : LX.State)
def GL (a : LX.State) (y7 : List (List Val)) : Option LX.State :=
  upto (DZ a) (D5 a y7) 0 ((a.frames.length : Int)).toNat ()
def D6 (a : LX.State) : Option LX.State :=
  (clone 48 a.frames).bind fun ZP => (FP a.cells).bind fun uT => GL a uT
theorem FQ (w0 : World) (M : BS) (hM : ∀ b, M b → b < w0.heap.size) (a : LX.State) (yg xO : Value) (ha0 : gy fC w0 BE M yg a.frames) (ha1 : gy (rU bC) w0 BE M xO a.cells) (r : LX.State) (hs : D6 a = some r) :
    Calls Tryz.prog 49 #[(.agg #[yg, xO, (I6 a.status), (I6 a.aL)])] w0 (fun e w' => Grow w0 w' ∧ ∃ uC, ∃ wF, ∃ BG, ∃ GM, e = .returned (.agg #[uC, wF, .int .i64 r.status, .int .i64 r.aL]) ∧ Chunk.holds w' M (Chunk.own' ((cU uC wF r.frames BG r.cells GM) : Chunk)) ((cU uC wF r.frames BG r.cells GM) : Chunk) ∧ (∀ b, Chunk.own' ((cU uC wF r.frames BG r.cells GM) : Chunk) b → w0.heap.size ≤ b)) := by
 refine aQ (args := [(.agg #[yg, xO, (I6 a.status), (I6 a.aL)])]) Tryz.func49 rfl Tryz.ntmps49 (bF rfl) ?_
 have h := SH.init hM
 replace h := h.gz 1 ha0 bH
 replace h := h.gz 2 ha1 (dL bH)
 refine nG (mD (cs := [yg, xO, (I6 a.status), (I6 a.aL)]) h 3 rfl rfl fun w b1 h => bP h 4 bM fun w b2 h => nN (bX (σ := Value × List Value × Value × List Value × List (List Val)) (inl (rg 5 8)) (fun ⟨v3, us4, v5, NI, y7⟩ => []) (fun ⟨v3, us4, v5, NI, y7⟩ w => SH w0 M BE w (hset [(3, .blk b1 [v3, v5, (I6 a.status), (I6 a.aL)]), (4, .blk b2 [(.slice none 0 0), (.slice none 0 0), (I6 0), (I6 0)]), (29, .own bg.raw 49 v3 (List.zip a.frames us4)), (30, .ik (dS bC 51 (hge (0)) us4 (List.map bg.sub a.frames))), (31, .ik (Ip bC (0) us4 (List.map bg.sub a.frames))), (65, .own (dZ Val).raw 47 v5 (List.zip y7 NI)), (66, .ik (dS bC 51 hn NI (List.map (dZ Val).sub y7)))]) ∧ GL a y7 = some r) ?_ ?_))
 rintro ⟨v3, us4, v5, NI, y7⟩ w dO ⟨h, hs⟩
 refine aM (nG (aa (ag dQ rfl) (aa (aA h 3 rfl gD rfl rfl) (aa (mM (N := bg) dx rfl (h.eG 29 rfl) (h.fD 30 rfl)) (aa (ah (v := (I6 0)) rfl) (nN (aO ?_)))))))
 have hli13 := PL (h.eG 29 rfl) (h.fD 30 rfl)
 refine gu (σ := Nat × Int × List Value) (inl ([3, 4] ++ rg 16 14)) (fun ⟨k12, i13, Mx⟩ => [(16, (I6 i13))]) (fun ⟨k12, i13, Mx⟩ w => SH w0 M BE w (hset [(3, .blk b1 [v3, v5, (I6 a.status), (I6 a.aL)]), (4, .blk b2 [(.slice none 0 0), (.slice none 0 0), (I6 0), (I6 0)]), (29, .own bg.raw 49 v3 (List.zip a.frames Mx)), (30, .ik (dS bC 51 (hge (k12)) Mx (List.map bg.sub a.frames))), (31, .ik (Ip bC (k12) Mx (List.map bg.sub a.frames))), (65, .own (dZ Val).raw 47 v5 (List.zip y7 NI)), (66, .ik (dS bC 51 hn NI (List.map (dZ Val).sub y7)))]) ∧ i13 = (k12 : Int) ∧ upto (DZ a) (D5 a y7) i13 (((a.frames.length : Int)).toNat - k12) () = some r) (fun ⟨k12, i13, Mx⟩ => ((a.frames.length : Int)).toNat - k12) ⟨0, 0, us4⟩ ⟨rfl, trivial⟩ ?_ ?_
 exact ⟨h.cn _, rfl, hs⟩
 rintro ⟨k12, i13, Mx⟩ w dO ⟨h, hik, hs⟩
 refine nG ?_
 refine aa (eB rfl rfl) (nN ?_)
 refine aM (gK rfl (fun e17 => ?_) (fun e17 => ?_))
 refine aH (ak ?_)
 rw [si (by have := p8 e17; omega)] at hs
 generalize hnx16 : upto (DZ a) (D5 a y7) (i13 + 1) (((a.frames.length : Int)).toNat - (k12 + 1)) = nx16 at hs
 have e18r : jV (i13 + 1) := (by have := p8 e17; have := hli13; exact jV.mk (by omega) (by omega))
 refine aM (aO (nG (aa (ah (v := (I6 i13)) rfl) ?_)))
 obtain ⟨DY, e20, hs⟩ := aK hs
 obtain ⟨u24, e250, r26⟩ := h.YI 31 DY.regs rfl (h.fD 30 rfl) (Oo hik (aB e20).2) rfl
 have e25 := at_pd hik e250
 replace h := h.dA 67 r26
 obtain ⟨b22, q23, i21⟩ := h.qY 29 rfl dx rfl (aB e20).1 (eu (aB e20).2 e25)
 refine aa (i21 _ _ _ _ _ _ _ _ _ rfl rfl) ?_
 obtain ⟨cs27, m28, r29⟩ := h.uF 29 rfl q23 (eu (aB e20).2 e25)
 obtain ⟨rfl, -⟩ := r29
 refine aa (kg (k := 0) (vs := [(I6 DY.proc), (I6 DY.at_), u24, (I6 DY.lW)]) m28 il rfl rfl rfl (bF rfl)) (bP h 68 il fun w b30 h => aa (ae (v := (I6 i13)) rfl) (dH (vs := [(I6 DY.proc), (I6 DY.at_), u24, (I6 DY.lW)]) h 68 [(I6 DY.proc), (I6 DY.at_), u24, (I6 DY.lW)] rfl il rfl rfl rfl rfl rfl (ai rfl (ai rfl (ai (h.iD 67 rfl).one (ai rfl aS)))) fun w h => nN (kI (L := (ob v3)) mixed h fun w h => bE 0 (aP.refl _ _) rfl aj (by kernel_rfl) (by kernel_rfl) (by kernel_rfl) (fun w hk => ag dQ rfl) (bE 1 (aP.refl _ _) rfl aj (by kernel_rfl) (by kernel_rfl) (by kernel_rfl) (fun w hk => have h := h.qB 29 rfl hk; aA h 3 rfl gD rfl rfl) (bE 2 (aP.refl _ _) rfl aj (by kernel_rfl) (by kernel_rfl) (by kernel_rfl) (fun w hk => ah (v := (I6 i13)) rfl) (bE 3 (aP.refl _ _) rfl aj (by kernel_rfl) (by kernel_rfl) (by kernel_rfl) (fun w hk => ag jZ rfl) (bE 4 (aP.refl _ _) rfl aj (by kernel_rfl) (by kernel_rfl) (by kernel_rfl) (fun w hk => have h := h.qB 29 rfl hk; aA h 68 rfl j3 rfl rfl) ?_)))))))
 obtain ⟨ws35, ws35e⟩ : ∃ x, x = w := ⟨_, rfl⟩
 have Qh : aP (ob v3) ws35 w := ws35e ▸ aP.refl (ob v3) w
 refine rf ws35e.symm (bA 5 (by kernel_rfl) rfl aj ?_)
 obtain ⟨ZO, Rq, hs⟩ := aK hs
 have ZQ := Cs Rq
 subst ZQ
 refine aX YV rfl rfl (zx _ _ h.lt u24 DY.regs (h.ny 67 rfl) _ Rq) ?_
 rintro _ w ⟨Rs, IE, rfl, ZR, Rt⟩
 refine ⟨_, rfl, ?_⟩
 replace h := h.mK 129 Rs ZR Rt
 have uq34x5_4q : ∀ b, ob IE b → ws35.heap.size ≤ b := fun b hb => Nat.le_trans Qh.size (Rt b hb)
 replace Qh := Qh.grow Rs
 refine az (aR Qh ?_)
 obtain ⟨bq34x6_2, ZT, ZU⟩ := h.qY 29 rfl dx rfl (aB e20).1 (eu (aB e20).2 e25)
 refine dG 6 Qh rfl (by kernel_rfl) (fun w hk => ZU _ _ _ _ _ _ _ _ _ rfl rfl) (dG 7 Qh rfl (by kernel_rfl) (fun w hk => ag jZ rfl) (bA 8 (by kernel_rfl) rfl aj ?_))
 have Ru : (Value.oneCell' IE) = true := (h.dm 129 rfl).one
 refine Yo (a' := (DY, IE)) h 29 rfl ZT rfl (eu (aB e20).2 e25) j3 rfl rfl Ru rfl (by rintro _ ⟨rfl, _⟩; exact ⟨rfl, Ru⟩) fun w h ZV => ?_
 replace Qh := Qh.same ZV
 rw [QU (aB e20).2, YF hik] at h
 replace h := h.QX 30 31 129 rfl rfl rfl (by decide) (by decide) (by decide) (Oo hik (aB e20).2) (Oo hik e25) rfl
 generalize List.set Mx k12 IE = Wz at h
 refine az (aR Qh (fK (by kernel_rfl) (ax (ak (aC (aa (dP rfl rfl e18r) (aa (ah (v := (I6 ((i13 + 1)))) rfl) (az (au ?_)))))))))
 subst hnx16
 exact jB ⟨k12 + 1, i13 + 1, Wz⟩ ⟨h.cn _, by omega, hs⟩ (by have := p8 e17; dsimp only; omega)
 rw [sj (by have := of_decide_eq_false e17; omega)] at hs
 replace h := h.YD 30 rfl (by have := of_decide_eq_false e17; omega)
 replace h := h.fA 31
 refine nE (aa (dK (vs := [v3, v5, (I6 a.status), (I6 a.aL)]) h 3 rfl bM rfl rfl rfl) (dH (vs := [v3, v5, (I6 a.status), (I6 a.aL)]) h 4 [v3, v5, (I6 a.status), (I6 a.aL)] rfl bM rfl rfl rfl rfl rfl (ai (h.dm 29 rfl).one (ai (h.dm 65 rfl).one (ai rfl (ai rfl aS)))) fun w h => nR (Oi (vs := [v3, v5, (I6 a.status), (I6 a.aL)]) Tryz.results49 rfl h 4 rfl bM rfl ?_)))
 replace h := h.pair 29 30 (by decide)
 replace h := h.pair 29 65 (by decide)
 replace h := h.pair 29 66 (by decide)
 obtain rfl := fP hs
 obtain ⟨o1, o2, o3⟩ := h.kJ 29 (C := (cU v3 v5 a.frames Mx y7 NI)) rfl ⟨⟨⟨trivial, trivial⟩, trivial⟩, trivial⟩
 exact ⟨o2, v3, v5, Mx, NI, rfl, o1, Iq o3⟩
 refine kI (L := (fun x => x = b1)) mixed h fun w h => bE 0 (aP.refl _ _) rfl aj (by kernel_rfl) (by kernel_rfl) (by kernel_rfl) (fun w hk => ag dQ rfl) (bE 3 (aP.refl _ _) rfl aj (by kernel_rfl) (by kernel_rfl) (by kernel_rfl) (fun w hk => ag gF rfl) ?_)
 obtain ⟨ZP, CR, hs⟩ := aK hs
 obtain ⟨uT, MB, hs⟩ := aK hs
 obtain ⟨ws43, ws43e⟩ : ∃ x, x = w := ⟨_, rfl⟩
 have nI : aP (fun x => x = b1) ws43 w := ws43e ▸ aP.refl (fun x => x = b1) w
 refine rf ws43e.symm (nD 1 4 (by kernel_rfl) rfl aj rfl aj ?_ ?_)
 refine aa (aA h 3 rfl gD rfl rfl) (az (aR nI (nD 2 4 (by kernel_rfl) rfl aj rfl aj ?_ ?_)))
 have ET := Cs CR
 subst ET
 refine aX Tn rfl rfl (uS _ _ h.lt yg a.frames (h.iV 1 rfl) _ CR) ?_
 rintro _ w ⟨zy, qJ, rfl, EU, zA⟩
 refine ⟨_, rfl, ?_⟩
 replace h := h.mK 213 zy EU zA
 have Oz : ∀ b, ob qJ b → ws43.heap.size ≤ b := fun b hb => Nat.le_trans nI.size (zA b hb)
 replace nI := nI.grow zy
 obtain ⟨CS, -, h⟩ := h.thaw (N := bg) (R := bC) (Es := 51) 213 214 215 rfl (by decide) (by decide) (by decide) rfl Jk
 refine az (aR nI (bA 4 (by kernel_rfl) rfl aj (aa (aA h 3 rfl jU rfl rfl) (az (aR nI (dG 6 nI rfl (by kernel_rfl) (fun w hk => ag dQ rfl) (bA 5 (by kernel_rfl) rfl aj (aX Tp rfl rfl (ES _ _ h.lt xO a.cells (h.iV 2 rfl) _ MB) ?_))))))))
 rintro _ w ⟨zB, uU, rG, rfl, EW, EX⟩
 refine ⟨_, rfl, ?_⟩
 replace h := h.PI 249 (C := (.two (.own (dZ Val).raw 47 uU (List.zip uT rG)) (.ik (dS bC 51 hn rG (List.map (dZ Val).sub uT))) : Chunk)) zB ⟨trivial, trivial⟩ EW EX
 replace h := h.bY 249 250 (by decide) rfl rfl
 replace nI := nI.grow zB
 refine az (aR nI (bA 7 (by kernel_rfl) rfl aj (nP h 3 [qJ, xO, (I6 a.status), (I6 a.aL)] rfl gD rfl rfl rfl rfl (h.dm 213 rfl).one fun w h EY => ?_)))
 replace nI := nI.same EY
 refine az (aR nI (dG 8 nI rfl (by kernel_rfl) (fun w hk => ag gF rfl) (bA 9 (by kernel_rfl) rfl aj (nP h 3 [qJ, uU, (I6 a.status), (I6 a.aL)] rfl jU rfl rfl rfl rfl (h.dm 249 rfl).one fun w h EZ => ?_))))
 replace nI := nI.same EZ
 refine az (aR nI (fK (by kernel_rfl) (au ?_)))
 replace h := (h.fA 29).moveC 213 29 rfl rfl (by decide)
 replace h := (h.fA 30).moveC 214 30 rfl rfl (by decide)
 replace h := (h.fA 31).moveC 215 31 rfl rfl (by decide)
 replace h := (h.fA 65).moveC 249 65 rfl rfl (by decide)
 replace h := (h.fA 66).moveC 250 66 rfl rfl (by decide)
 exact bQ (qJ, CS, uU, rG, uT) ⟨h.cn _, hs⟩
 refine aa (aA h 3 rfl jU rfl rfl) (az (aR nI (bA 2 (by kernel_rfl) rfl aj ?_)))
 have ET := Cs CR
 subst ET
 refine aX Tn rfl rfl (uS _ _ h.lt yg a.frames (h.iV 1 rfl) _ CR) ?_
 rintro _ w ⟨zy, qJ, rfl, EU, zA⟩
 refine ⟨_, rfl, ?_⟩
 replace h := h.mK 213 zy EU zA
 have Oz : ∀ b, ob qJ b → ws43.heap.size ≤ b := fun b hb => Nat.le_trans nI.size (zA b hb)
 replace nI := nI.grow zy
 obtain ⟨CS, -, h⟩ := h.thaw (N := bg) (R := bC) (Es := 51) 213 214 215 rfl (by decide) (by decide) (by decide) rfl Jk
 refine az (aR nI (dG 6 nI rfl (by kernel_rfl) (fun w hk => ag dQ rfl) (bA 5 (by kernel_rfl) rfl aj (aX Tp rfl rfl (ES _ _ h.lt xO a.cells (h.iV 2 rfl) _ MB) ?_))))
 rintro _ w ⟨zB, uU, rG, rfl, EW, EX⟩
 refine ⟨_, rfl, ?_⟩
 replace h := h.PI 249 (C := (.two (.own (dZ Val).raw 47 uU (List.zip uT rG)) (.ik (dS bC 51 hn rG (List.map (dZ Val).sub uT))) : Chunk)) zB ⟨trivial, trivial⟩ EW EX
 replace h := h.bY 249 250 (by decide) rfl rfl
 replace nI := nI.grow zB
 refine az (aR nI (bA 7 (by kernel_rfl) rfl aj (nP h 3 [qJ, xO, (I6 a.status), (I6 a.aL)] rfl gD rfl rfl rfl rfl (h.dm 213 rfl).one fun w h EY => ?_)))
 replace nI := nI.same EY
 refine az (aR nI (dG 8 nI rfl (by kernel_rfl) (fun w hk => ag gF rfl) (bA 9 (by kernel_rfl) rfl aj (nP h 3 [qJ, uU, (I6 a.status), (I6 a.aL)] rfl jU rfl rfl rfl rfl (h.dm 249 rfl).one fun w h EZ => ?_))))
 replace nI := nI.same EZ
 refine az (aR nI (fK (by kernel_rfl) (au ?_)))
 replace h := (h.fA 29).moveC 213 29 rfl rfl (by decide)
 replace h := (h.fA 30).moveC 214 30 rfl rfl (by decide)
 replace h := (h.fA 31).moveC 215 31 rfl rfl (by decide)
 replace h := (h.fA 65).moveC 249 65 rfl rfl (by decide)
 replace h := (h.fA 66).moveC 250 66 rfl rfl (by decide)
 exact bQ (qJ, CS, uU, rG, uT) ⟨h.cn _, hs⟩
 refine aa (aA h 3 rfl jU rfl rfl) (az (aR nI (bA 1 (by kernel_rfl) rfl aj (aa (aA h 3 rfl gD rfl rfl) (az (aR nI (bA 2 (by kernel_rfl) rfl aj ?_)))))))
 have ET := Cs CR
 subst ET
 refine aX Tn rfl rfl (uS _ _ h.lt yg a.frames (h.iV 1 rfl) _ CR) ?_
 rintro _ w ⟨zy, qJ, rfl, EU, zA⟩
 refine ⟨_, rfl, ?_⟩
 replace h := h.mK 213 zy EU zA
 have Oz : ∀ b, ob qJ b → ws43.heap.size ≤ b := fun b hb => Nat.le_trans nI.size (zA b hb)
 replace nI := nI.grow zy
 obtain ⟨CS, -, h⟩ := h.thaw (N := bg) (R := bC) (Es := 51) 213 214 215 rfl (by decide) (by decide) (by decide) rfl Jk
 refine az (aR nI (dG 6 nI rfl (by kernel_rfl) (fun w hk => ag dQ rfl) (bA 5 (by kernel_rfl) rfl aj (aX Tp rfl rfl (ES _ _ h.lt xO a.cells (h.iV 2 rfl) _ MB) ?_))))
 rintro _ w ⟨zB, uU, rG, rfl, EW, EX⟩
 refine ⟨_, rfl, ?_⟩
 replace h := h.PI 249 (C := (.two (.own (dZ Val).raw 47 uU (List.zip uT rG)) (.ik (dS bC 51 hn rG (List.map (dZ Val).sub uT))) : Chunk)) zB ⟨trivial, trivial⟩ EW EX
 replace h := h.bY 249 250 (by decide) rfl rfl
 replace nI := nI.grow zB
 refine az (aR nI (bA 7 (by kernel_rfl) rfl aj (nP h 3 [qJ, xO, (I6 a.status), (I6 a.aL)] rfl gD rfl rfl rfl rfl (h.dm 213 rfl).one fun w h EY => ?_)))
 replace nI := nI.same EY
 refine az (aR nI (dG 8 nI rfl (by kernel_rfl) (fun w hk => ag gF rfl) (bA 9 (by kernel_rfl) rfl aj (nP h 3 [qJ, uU, (I6 a.status), (I6 a.aL)] rfl jU rfl rfl rfl rfl (h.dm 249 rfl).one fun w h EZ => ?_))))
 replace nI := nI.same EZ
 refine az (aR nI (fK (by kernel_rfl) (au ?_)))
 replace h := (h.fA 29).moveC 213 29 rfl rfl (by decide)
 replace h := (h.fA 30).moveC 214 30 rfl rfl (by decide)
 replace h := (h.fA 31).moveC 215 31 rfl rfl (by decide)
 replace h := (h.fA 65).moveC 249 65 rfl rfl (by decide)
 replace h := (h.fA 66).moveC 250 66 rfl rfl (by decide)
 exact bQ (qJ, CS, uU, rG, uT) ⟨h.cn _, hs⟩
def CU (x8 : Int) : Option (Val × Bool) :=
  some ((⟨1, x8⟩ : Val), (decide ((-1000000000 : Int) ≤ x8) && decide ((x8 : Int) ≤ 1000000000)))
def Rv (a : Int) (b : Val) (c : Val) : Option (Val × Bool) :=
  bif decide ((a : Int) = 5) then bif (decide (b.kind = c.kind) && decide (b.n = c.n)) then some ((⟨1, 1⟩ : Val), true) else some ((⟨1, 0⟩ : Val), true) else bif (decide ((b.kind : Int) ≠ 1) || decide ((c.kind : Int) ≠ 1)) then some ((⟨0, 0⟩ : Val), false) else bif decide ((a : Int) = 1) then ib (jV (b.n + c.n)) (CU (b.n + c.n)) else bif decide ((a : Int) = 2) then ib (jV (b.n - c.n)) (CU (b.n - c.n)) else bif decide ((a : Int) = 3) then ib (jV (b.n * c.n)) (CU (b.n * c.n)) else bif decide ((a : Int) = 4) then bif decide ((b.n : Int) < c.n) then some ((⟨1, 1⟩ : Val), true) else some ((⟨1, 0⟩ : Val), true) else CU 0
end
end Go.Proofs.YtfclkapelkhlpaaGreatDoor
